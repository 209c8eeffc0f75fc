-- By a program of ours (wip/tools/myprint.sh) out of the translation.
import Derived.Test.YtbkgcdjbkoeejaaP0
import Derived.Test.YtbkgcdjbkoeejaaPCrucibleref1ScopeMay
import Derived.Test.YtbkgcdjbkoeejaaPCruciblelaw0Num
import Derived.Test.YtbkgcdjbkoeejaaPCruciblelaw5Awake
import Derived.Test.YtbkgcdjbkoeejaaHEval
namespace Go.Proofs.Ytbkgcdjbkoeejaa.Print
open Go.RowKit Go.Proofs.YtbkgcdjbkoeejaaW.PrintWords Go.Proofs.YtbkgcdjbkoeejaaW.PrintLast Go.Proofs.YtbkgcdjbkoeejaaW.PrintMore
attribute [local go_sem] max2_int min2_int max_two min_two max_three min_three max_four min_four   -- for this text's walks alone
set_option linter.unusedVariables false
set_option linter.unusedSimpArgs false

/-! ### cruciblelaw5_EvalParts: function 7 -/
def cruciblelaw5_EvalParts.j0 : Nat → List (S34) → ByteArray → Int → ByteArray → ByteArray → Int → Bool → Option (Bool)
  | 0, _, _, _, _, _, _, _ => none
  | k + 1, x2, x9, x10, x11, x13, x14, x57 => if x57 = true then ((cruciblelaw0_Num.f x10).bind fun t253 => (if t253 = 0 then (some true) else (some (x9.toList == ([] : List UInt8))))) else (if (wrap64 ((wrap64 ((x9.size : Int) + (x11.size : Int))) + 1)) > 256 then ((cruciblelaw0_Num.f x14).bind fun t254 => (some (t254 == 501))) else ((cruciblelaw0_Num.f x14).bind fun t255 => (if t255 = 0 then (if x9.size + 1 ≤ 9223372036854775807 then (if (x9 ++ (⟨#[32]⟩ : ByteArray)).size + x11.size ≤ 9223372036854775807 then (if x13.toList = ((x9 ++ (⟨#[32]⟩ : ByteArray)) ++ x11).toList then ((crucibleref1_ScopeMay.f k x2).bind fun t256 => (some t256)) else (some false)) else (none)) else (none)) else (some false))))
def cruciblelaw5_EvalParts.f (k : Nat) (a0 : ByteArray) (a1 : ByteArray) (l2 : List (S34)) (l3 : List (S34)) : Option (Bool) := (cruciblelaw5_awake.f k).bind fun t244 => (if t244 = true then ((eval_Of.f a0 l2 l3).bind fun bt245 => ((eval_Of.f a1 l2 l3).bind fun bt247 => (if a0.size + 2 ≤ 9223372036854775807 then (if (a0 ++ (⟨#[36, 32]⟩ : ByteArray)).size + a1.size ≤ 9223372036854775807 then ((eval_Of.f ((a0 ++ (⟨#[36, 32]⟩ : ByteArray)) ++ a1) l2 l3).bind fun bt249 => ((cruciblelaw0_Num.f bt245.2).bind fun t251 => (if t251 = 0 then ((cruciblelaw0_Num.f bt247.2).bind fun t252 => (if t252 = 0 then (cruciblelaw5_EvalParts.j0 k l2 bt245.1 bt245.2 bt247.1 bt249.1 bt249.2 (decide ((wrap64 ((wrap64 ((a0.size : Int) + (a1.size : Int))) + 2)) > 2048))) else (cruciblelaw5_EvalParts.j0 k l2 bt245.1 bt245.2 bt247.1 bt249.1 bt249.2 true))) else (cruciblelaw5_EvalParts.j0 k l2 bt245.1 bt245.2 bt247.1 bt249.1 bt249.2 true)))) else (none)) else (none)))) else (some false))
theorem cruciblelaw5_EvalParts.mono_l : ∀ k, (∀ y0 y1 y2 y3 y4 y5 y6, LeO (cruciblelaw5_EvalParts.j0 k y0 y1 y2 y3 y4 y5 y6) (cruciblelaw5_EvalParts.j0 (k + 1) y0 y1 y2 y3 y4 y5 y6))
  | 0 => fun _ _ _ _ _ _ _ r h => by simp [cruciblelaw5_EvalParts.j0] at h
  | k + 1 => by
    have ih0 := cruciblelaw5_EvalParts.mono_l k
    · intro y0 y1 y2 y3 y4 y5 y6
      unfold cruciblelaw5_EvalParts.j0
      repeat' first
      | (with_reducible exact ih0 _ _ _ _ _ _ _)
      | (with_reducible exact cruciblelaw5_awake.mono _)
      | (with_reducible exact crucibleref1_ScopeMay.mono _ _)
      | (with_reducible exact LeO.refl _)
      | (with_reducible exact LeO.none _)
      | (with_reducible refine LeO.ite ?_ ?_)
      | (with_reducible refine LeO.bind ?_ (fun _ => ?_))
      | exact ih0 _ _ _ _ _ _ _
      | exact cruciblelaw5_awake.mono _
      | exact crucibleref1_ScopeMay.mono _ _
      | exact LeO.none _
      | refine LeO.ite ?_ ?_
      | refine LeO.bind ?_ (fun _ => ?_)
theorem cruciblelaw5_EvalParts.mono : ∀ a0 a1 a2 a3 k, LeO (cruciblelaw5_EvalParts.f k a0 a1 a2 a3) (cruciblelaw5_EvalParts.f (k + 1) a0 a1 a2 a3) := by
  intro a0 a1 a2 a3 k
  have ih0 := cruciblelaw5_EvalParts.mono_l k
  unfold cruciblelaw5_EvalParts.f
  repeat' first
      | (with_reducible exact ih0 _ _ _ _ _ _ _)
      | (with_reducible exact cruciblelaw5_awake.mono _)
      | (with_reducible exact crucibleref1_ScopeMay.mono _ _)
      | (with_reducible exact LeO.refl _)
      | (with_reducible exact LeO.none _)
      | (with_reducible refine LeO.ite ?_ ?_)
      | (with_reducible refine LeO.bind ?_ (fun _ => ?_))
      | exact ih0 _ _ _ _ _ _ _
      | exact cruciblelaw5_awake.mono _
      | exact crucibleref1_ScopeMay.mono _ _
      | exact LeO.none _
      | refine LeO.ite ?_ ?_
      | refine LeO.bind ?_ (fun _ => ?_)
set_option maxHeartbeats 8000000 in
set_option maxRecDepth 100000 in
theorem cruciblelaw5_EvalParts.calls (k : Nat) (a0 : ByteArray) (a1 : ByteArray) (A2 : Option Addr) (c2 : Nat) (l2 : List (S34)) (A3 : Option Addr) (c3 : Nat) (l3 : List (S34)) (r : Bool) (w : World) (hr2 : Kd.C k34 w A2 l2.length l2) (hc2 : l2.length ≤ c2) (hr3 : Kd.C k34 w A3 l3.length l3) (hc3 : l3.length ≤ c3) (h : cruciblelaw5_EvalParts.f k a0 a1 l2 l3 = some r) :
    Calls Try.prog 7 #[.string a0, .string a1, .slice A2 l2.length c2, .slice A3 l3.length c3] w fun e w' => e = .returned (.bool r) ∧ Below w.heap.size w w' := by
  have HR2 := Aside0.mk hr2
  have HC2 := Aside0.mk hc2
  clear hr2 hc2
  have HR3 := Aside0.mk hr3
  have HC3 := Aside0.mk hc3
  clear hr3 hc3
  have HB := Aside0.mk (Below.refl w.heap.size w)
  have H : ((cruciblelaw5_awake.f k).bind fun t244 => (if t244 = true then ((eval_Of.f a0 l2 l3).bind fun bt245 => ((eval_Of.f a1 l2 l3).bind fun bt247 => (if a0.size + 2 ≤ 9223372036854775807 then (if (a0 ++ (⟨#[36, 32]⟩ : ByteArray)).size + a1.size ≤ 9223372036854775807 then ((eval_Of.f ((a0 ++ (⟨#[36, 32]⟩ : ByteArray)) ++ a1) l2 l3).bind fun bt249 => ((cruciblelaw0_Num.f bt245.2).bind fun t251 => (if t251 = 0 then ((cruciblelaw0_Num.f bt247.2).bind fun t252 => (if t252 = 0 then (cruciblelaw5_EvalParts.j0 k l2 bt245.1 bt245.2 bt247.1 bt249.1 bt249.2 (decide ((wrap64 ((wrap64 ((a0.size : Int) + (a1.size : Int))) + 2)) > 2048))) else (cruciblelaw5_EvalParts.j0 k l2 bt245.1 bt245.2 bt247.1 bt249.1 bt249.2 true))) else (cruciblelaw5_EvalParts.j0 k l2 bt245.1 bt245.2 bt247.1 bt249.1 bt249.2 true)))) else (none)) else (none)))) else (some false))) = some r := h
  clear h
  replace H := Option.bind_eq_some_iff.mp H
  obtain ⟨t244, A50, H⟩ := H
  replace H : (if t244 = true then ((eval_Of.f a0 l2 l3).bind fun bt245 => ((eval_Of.f a1 l2 l3).bind fun bt247 => (if a0.size + 2 ≤ 9223372036854775807 then (if (a0 ++ (⟨#[36, 32]⟩ : ByteArray)).size + a1.size ≤ 9223372036854775807 then ((eval_Of.f ((a0 ++ (⟨#[36, 32]⟩ : ByteArray)) ++ a1) l2 l3).bind fun bt249 => ((cruciblelaw0_Num.f bt245.2).bind fun t251 => (if t251 = 0 then ((cruciblelaw0_Num.f bt247.2).bind fun t252 => (if t252 = 0 then (cruciblelaw5_EvalParts.j0 k l2 bt245.1 bt245.2 bt247.1 bt249.1 bt249.2 (decide ((wrap64 ((wrap64 ((a0.size : Int) + (a1.size : Int))) + 2)) > 2048))) else (cruciblelaw5_EvalParts.j0 k l2 bt245.1 bt245.2 bt247.1 bt249.1 bt249.2 true))) else (cruciblelaw5_EvalParts.j0 k l2 bt245.1 bt245.2 bt247.1 bt249.1 bt249.2 true)))) else (none)) else (none)))) else (some false)) = some r := H
  have A5 := Aside0.mk A50
  clear A50
  by_cases c6 : t244 = true
  · subst c6
    have H1 : ((eval_Of.f a0 l2 l3).bind fun bt245 => ((eval_Of.f a1 l2 l3).bind fun bt247 => (if a0.size + 2 ≤ 9223372036854775807 then (if (a0 ++ (⟨#[36, 32]⟩ : ByteArray)).size + a1.size ≤ 9223372036854775807 then ((eval_Of.f ((a0 ++ (⟨#[36, 32]⟩ : ByteArray)) ++ a1) l2 l3).bind fun bt249 => ((cruciblelaw0_Num.f bt245.2).bind fun t251 => (if t251 = 0 then ((cruciblelaw0_Num.f bt247.2).bind fun t252 => (if t252 = 0 then (cruciblelaw5_EvalParts.j0 k l2 bt245.1 bt245.2 bt247.1 bt249.1 bt249.2 (decide ((wrap64 ((wrap64 ((a0.size : Int) + (a1.size : Int))) + 2)) > 2048))) else (cruciblelaw5_EvalParts.j0 k l2 bt245.1 bt245.2 bt247.1 bt249.1 bt249.2 true))) else (cruciblelaw5_EvalParts.j0 k l2 bt245.1 bt245.2 bt247.1 bt249.1 bt249.2 true)))) else (none)) else (none)))) = some r := by rw [if_pos rfl] at H; exact H
    clear H
    have H := H1
    clear H1
    replace H := Option.bind_eq_some_iff.mp H
    obtain ⟨⟨t245, t246⟩, A70, H⟩ := H
    replace H : ((eval_Of.f a1 l2 l3).bind fun bt247 => (if a0.size + 2 ≤ 9223372036854775807 then (if (a0 ++ (⟨#[36, 32]⟩ : ByteArray)).size + a1.size ≤ 9223372036854775807 then ((eval_Of.f ((a0 ++ (⟨#[36, 32]⟩ : ByteArray)) ++ a1) l2 l3).bind fun bt249 => ((cruciblelaw0_Num.f t246).bind fun t251 => (if t251 = 0 then ((cruciblelaw0_Num.f bt247.2).bind fun t252 => (if t252 = 0 then (cruciblelaw5_EvalParts.j0 k l2 t245 t246 bt247.1 bt249.1 bt249.2 (decide ((wrap64 ((wrap64 ((a0.size : Int) + (a1.size : Int))) + 2)) > 2048))) else (cruciblelaw5_EvalParts.j0 k l2 t245 t246 bt247.1 bt249.1 bt249.2 true))) else (cruciblelaw5_EvalParts.j0 k l2 t245 t246 bt247.1 bt249.1 bt249.2 true)))) else (none)) else (none))) = some r := H
    have A7 := Aside0.mk A70
    clear A70
    replace H := Option.bind_eq_some_iff.mp H
    obtain ⟨⟨t247, t248⟩, A80, H⟩ := H
    replace H : (if a0.size + 2 ≤ 9223372036854775807 then (if (a0 ++ (⟨#[36, 32]⟩ : ByteArray)).size + a1.size ≤ 9223372036854775807 then ((eval_Of.f ((a0 ++ (⟨#[36, 32]⟩ : ByteArray)) ++ a1) l2 l3).bind fun bt249 => ((cruciblelaw0_Num.f t246).bind fun t251 => (if t251 = 0 then ((cruciblelaw0_Num.f t248).bind fun t252 => (if t252 = 0 then (cruciblelaw5_EvalParts.j0 k l2 t245 t246 t247 bt249.1 bt249.2 (decide ((wrap64 ((wrap64 ((a0.size : Int) + (a1.size : Int))) + 2)) > 2048))) else (cruciblelaw5_EvalParts.j0 k l2 t245 t246 t247 bt249.1 bt249.2 true))) else (cruciblelaw5_EvalParts.j0 k l2 t245 t246 t247 bt249.1 bt249.2 true)))) else (none)) else (none)) = some r := H
    have A8 := Aside0.mk A80
    clear A80
    by_cases c9 : a0.size + 2 ≤ 9223372036854775807
    · rw [if_pos c9] at H
      have c9b0 := eq_true c9
      have c9b1 : decide (a0.size + 2 ≤ 9223372036854775807) = true := decide_eq_true c9
      try have c9b2 : (9223372036854775807 < a0.size + 2) = False := eq_false (Nat.not_lt.2 c9)
      by_cases c10 : (a0 ++ (⟨#[36, 32]⟩ : ByteArray)).size + a1.size ≤ 9223372036854775807
      · rw [if_pos c10] at H
        have c10b0 := eq_true c10
        have c10b1 : decide ((a0 ++ (⟨#[36, 32]⟩ : ByteArray)).size + a1.size ≤ 9223372036854775807) = true := decide_eq_true c10
        try have c10b2 : (9223372036854775807 < (a0 ++ (⟨#[36, 32]⟩ : ByteArray)).size + a1.size) = False := eq_false (Nat.not_lt.2 c10)
        replace H := Option.bind_eq_some_iff.mp H
        obtain ⟨⟨t249, t250⟩, A110, H⟩ := H
        replace H : ((cruciblelaw0_Num.f t246).bind fun t251 => (if t251 = 0 then ((cruciblelaw0_Num.f t248).bind fun t252 => (if t252 = 0 then (cruciblelaw5_EvalParts.j0 k l2 t245 t246 t247 t249 t250 (decide ((wrap64 ((wrap64 ((a0.size : Int) + (a1.size : Int))) + 2)) > 2048))) else (cruciblelaw5_EvalParts.j0 k l2 t245 t246 t247 t249 t250 true))) else (cruciblelaw5_EvalParts.j0 k l2 t245 t246 t247 t249 t250 true))) = some r := H
        have A11 := Aside0.mk A110
        clear A110
        have HC12 := Aside0.mk H
        clear H
        go_enter Try.func7, Try.ntmps7
        go_upto_region 6 with (first | ((with_reducible refine gate_callee (f := 13) rfl ?_); refine goesL_ (some 15) rfl rfl Try.func13 (by kernel_rfl) rfl #[] rfl (by (try simp only [List.map_toArray, List.map_cons, List.map_nil]); first | done | rfl | (simp only [List.length_drop, List.length_take]; rfl)) ?_; (with_reducible refine (cruciblelaw5_awake.calls k  true _ A5.out).mono ?_); rintro e w13 ⟨rfl, hb⟩; refine ⟨_, rfl, ?_⟩; have n0_ := Aside0.mk (below_step (by repeat (first | (with_reducible first | exact HB.out | apply below_alloc | apply pw_below_drewN | apply below_drew1) | exact HB.out)) hb); clear HB; have HB := n0_; clear n0_; (try clear hb); (try clear hb2); (try clear hk); (try clear hi)) | ((with_reducible refine gate_callee (f := 9) rfl ?_); refine goesL_ (some 21) rfl rfl Try.func9 (by kernel_rfl) rfl #[.string a0, .slice A2 l2.length c2, .slice A3 l3.length c3] rfl (by (try simp only [List.map_toArray, List.map_cons, List.map_nil]); first | done | rfl | (simp only [List.length_drop, List.length_take]; rfl)) ?_; (with_reducible refine (eval_Of.calls a0 _ _ l2 _ _ l3 t245 t246 _ ?side1 ?side2 ?side3 ?side4 A7.out).mono ?_); (case side1 => repeat (first | exact (Kd.C_below HR2.out HB.out) | (with_reducible refine Kd.C_alloc ?_ _) | (with_reducible refine Kd.C_drewN ?_ _) | (with_reducible refine Kd.C_drew ?_))); (case side2 => exact HC2.out); (case side3 => repeat (first | exact (Kd.C_below HR3.out HB.out) | (with_reducible refine Kd.C_alloc ?_ _) | (with_reducible refine Kd.C_drewN ?_ _) | (with_reducible refine Kd.C_drew ?_))); (case side4 => exact HC3.out); rintro e w14 ⟨rfl, hb⟩; refine ⟨_, rfl, ?_⟩; have n0_ := Aside0.mk (below_step (by repeat (first | (with_reducible first | exact HB.out | apply below_alloc | apply pw_below_drewN | apply below_drew1) | exact HB.out)) hb); clear HB; have HB := n0_; clear n0_; (try clear hb); (try clear hb2); (try clear hk); (try clear hi)) | ((with_reducible refine gate_callee (f := 9) rfl ?_); refine goesL_ (some 28) rfl rfl Try.func9 (by kernel_rfl) rfl #[.string a1, .slice A2 l2.length c2, .slice A3 l3.length c3] rfl (by (try simp only [List.map_toArray, List.map_cons, List.map_nil]); first | done | rfl | (simp only [List.length_drop, List.length_take]; rfl)) ?_; (with_reducible refine (eval_Of.calls a1 _ _ l2 _ _ l3 t247 t248 _ ?side1 ?side2 ?side3 ?side4 A8.out).mono ?_); (case side1 => repeat (first | exact (Kd.C_below HR2.out HB.out) | (with_reducible refine Kd.C_alloc ?_ _) | (with_reducible refine Kd.C_drewN ?_ _) | (with_reducible refine Kd.C_drew ?_))); (case side2 => exact HC2.out); (case side3 => repeat (first | exact (Kd.C_below HR3.out HB.out) | (with_reducible refine Kd.C_alloc ?_ _) | (with_reducible refine Kd.C_drewN ?_ _) | (with_reducible refine Kd.C_drew ?_))); (case side4 => exact HC3.out); rintro e w15 ⟨rfl, hb⟩; refine ⟨_, rfl, ?_⟩; have n0_ := Aside0.mk (below_step (by repeat (first | (with_reducible first | exact HB.out | apply below_alloc | apply pw_below_drewN | apply below_drew1) | exact HB.out)) hb); clear HB; have HB := n0_; clear n0_; (try clear hb); (try clear hb2); (try clear hk); (try clear hi)) | ((with_reducible refine gate_callee (f := 9) rfl ?_); refine goesL_ (some 38) rfl rfl Try.func9 (by kernel_rfl) rfl #[.string ((a0 ++ (⟨#[36, 32]⟩ : ByteArray)) ++ a1), .slice A2 l2.length c2, .slice A3 l3.length c3] rfl (by (try simp only [List.map_toArray, List.map_cons, List.map_nil]); first | done | rfl | (simp only [List.length_drop, List.length_take]; rfl)) ?_; (with_reducible refine (eval_Of.calls ((a0 ++ (⟨#[36, 32]⟩ : ByteArray)) ++ a1) _ _ l2 _ _ l3 t249 t250 _ ?side1 ?side2 ?side3 ?side4 A11.out).mono ?_); (case side1 => repeat (first | exact (Kd.C_below HR2.out HB.out) | (with_reducible refine Kd.C_alloc ?_ _) | (with_reducible refine Kd.C_drewN ?_ _) | (with_reducible refine Kd.C_drew ?_))); (case side2 => exact HC2.out); (case side3 => repeat (first | exact (Kd.C_below HR3.out HB.out) | (with_reducible refine Kd.C_alloc ?_ _) | (with_reducible refine Kd.C_drewN ?_ _) | (with_reducible refine Kd.C_drew ?_))); (case side4 => exact HC3.out); rintro e w16 ⟨rfl, hb⟩; refine ⟨_, rfl, ?_⟩; have n0_ := Aside0.mk (below_step (by repeat (first | (with_reducible first | exact HB.out | apply below_alloc | apply pw_below_drewN | apply below_drew1) | exact HB.out)) hb); clear HB; have HB := n0_; clear n0_; (try clear hb); (try clear hb2); (try clear hk); (try clear hi)))
        (try simp only [Act.put, List.setIfInBounds_toArray, List.set_cons_zero, List.set_cons_succ])
        go_cut [57] (fun v57 wc => ∃ (kq : Nat) (x57_11 : Bool), v57 = .bool x57_11 ∧ Aside0 (cruciblelaw5_EvalParts.j0 kq l2 t245 t246 t247 t249 t250 x57_11 = some r) ∧ Aside0 (kq ≤ k) ∧ Aside0 (Below w.heap.size w wc))
        case first =>
          have H := HC12.out
          clear HC12
          replace H := Option.bind_eq_some_iff.mp H
          obtain ⟨t251, A170, H⟩ := H
          replace H : (if t251 = 0 then ((cruciblelaw0_Num.f t248).bind fun t252 => (if t252 = 0 then (cruciblelaw5_EvalParts.j0 k l2 t245 t246 t247 t249 t250 (decide ((wrap64 ((wrap64 ((a0.size : Int) + (a1.size : Int))) + 2)) > 2048))) else (cruciblelaw5_EvalParts.j0 k l2 t245 t246 t247 t249 t250 true))) else (cruciblelaw5_EvalParts.j0 k l2 t245 t246 t247 t249 t250 true)) = some r := H
          have A17 := Aside0.mk A170
          clear A170
          by_cases c18 : t251 = 0
          · rw [if_pos c18] at H
            have c18b0 : (t251 == 0) = true := beq_iff_eq.mpr c18
            have c18b1 : (t251 != 0) = false := bne_eq_false_iff_eq.mpr c18
            clear c18
            (first | rw [c18b0] | (simp only [i64_w, i32_w]; rw [c18b0]) | skip)
            replace H := Option.bind_eq_some_iff.mp H
            obtain ⟨t252, A190, H⟩ := H
            replace H : (if t252 = 0 then (cruciblelaw5_EvalParts.j0 k l2 t245 t246 t247 t249 t250 (decide ((wrap64 ((wrap64 ((a0.size : Int) + (a1.size : Int))) + 2)) > 2048))) else (cruciblelaw5_EvalParts.j0 k l2 t245 t246 t247 t249 t250 true)) = some r := H
            have A19 := Aside0.mk A190
            clear A190
            by_cases c20 : t252 = 0
            · rw [if_pos c20] at H
              have c20b0 : (t252 == 0) = true := beq_iff_eq.mpr c20
              have c20b1 : (t252 != 0) = false := bne_eq_false_iff_eq.mpr c20
              clear c20
              have H' := Aside0.mk H
              clear H
              go_wp2_with (first | ((with_reducible refine gate_callee (f := 11) rfl ?_); refine goesL_ (some 42) rfl rfl Try.func11 (by kernel_rfl) rfl #[.int .i64 t246] rfl (by (try simp only [List.map_toArray, List.map_cons, List.map_nil]); first | done | rfl | (simp only [List.length_drop, List.length_take]; rfl)) ?_; (with_reducible refine (cruciblelaw0_Num.calls t246 t251 _ A17.out).mono ?_); rintro e w' ⟨rfl, ⟨nd, rfl⟩⟩; refine ⟨_, rfl, ?_⟩) | (go_at_call 11; (with_reducible refine (cruciblelaw0_Num.calls t248 t252 _ A19.out).mono ?_); rintro e w' ⟨rfl, ⟨nd, rfl⟩⟩))
              go_meet
              case rel => exact ⟨_, (decide ((wrap64 ((wrap64 ((a0.size : Int) + (a1.size : Int))) + 2)) > 2048)), (by first | rfl | (simp; done) | (simp [*]; done)), H', ⟨by first | omega | exact Nat.le_refl _⟩, ⟨by repeat (first | (with_reducible first | exact HB.out | apply below_alloc | apply pw_below_drewN | apply below_drew1) | exact HB.out)⟩⟩
            · rw [if_neg c20] at H
              have c20b0 : (t252 == 0) = false := beq_eq_false_iff_ne.mpr c20
              have c20b1 : (t252 != 0) = true := bne_iff_ne.mpr c20
              have H' := Aside0.mk H
              clear H
              go_wp2_with (first | ((with_reducible refine gate_callee (f := 11) rfl ?_); refine goesL_ (some 42) rfl rfl Try.func11 (by kernel_rfl) rfl #[.int .i64 t246] rfl (by (try simp only [List.map_toArray, List.map_cons, List.map_nil]); first | done | rfl | (simp only [List.length_drop, List.length_take]; rfl)) ?_; (with_reducible refine (cruciblelaw0_Num.calls t246 t251 _ A17.out).mono ?_); rintro e w' ⟨rfl, ⟨nd, rfl⟩⟩; refine ⟨_, rfl, ?_⟩) | (go_at_call 11; (with_reducible refine (cruciblelaw0_Num.calls t248 t252 _ A19.out).mono ?_); rintro e w' ⟨rfl, ⟨nd, rfl⟩⟩))
              go_meet
              case rel => exact ⟨_, (true), (by first | rfl | (simp; done) | (simp [*]; done)), H', ⟨by first | omega | exact Nat.le_refl _⟩, ⟨by repeat (first | (with_reducible first | exact HB.out | apply below_alloc | apply pw_below_drewN | apply below_drew1) | exact HB.out)⟩⟩
          · rw [if_neg c18] at H
            have c18b0 : (t251 == 0) = false := beq_eq_false_iff_ne.mpr c18
            have c18b1 : (t251 != 0) = true := bne_iff_ne.mpr c18
            (first | rw [c18b0] | (simp only [i64_w, i32_w]; rw [c18b0]) | skip)
            have H' := Aside0.mk H
            clear H
            go_wp2_with (first | ((with_reducible refine gate_callee (f := 11) rfl ?_); refine goesL_ (some 42) rfl rfl Try.func11 (by kernel_rfl) rfl #[.int .i64 t246] rfl (by (try simp only [List.map_toArray, List.map_cons, List.map_nil]); first | done | rfl | (simp only [List.length_drop, List.length_take]; rfl)) ?_; (with_reducible refine (cruciblelaw0_Num.calls t246 t251 _ A17.out).mono ?_); rintro e w' ⟨rfl, ⟨nd, rfl⟩⟩; refine ⟨_, rfl, ?_⟩))
            go_meet
            case rel => exact ⟨_, (true), (by first | rfl | (simp; done) | (simp [*]; done)), H', ⟨by first | omega | exact Nat.le_refl _⟩, ⟨by repeat (first | (with_reducible first | exact HB.out | apply below_alloc | apply pw_below_drewN | apply below_drew1) | exact HB.out)⟩⟩
        case rest =>
          clear HC12
          try clear c1
          try clear c2
          try clear p2
          try clear c3
          try clear c6
          try clear p6
          try clear c7
          try clear c9
          try clear c9b0
          try clear c9b1
          try clear c9b2
          try clear c10
          try clear c10b0
          try clear c10b1
          try clear c10b2
          try clear c11
          try clear c13
          try clear c18
          try clear c18b0
          try clear c18b1
          try clear c20
          try clear c20b0
          try clear c20b1
          obtain ⟨kq, x57_11, rfl, HA, HJ11, HB⟩ := hcut
          cases kq with
          | zero => exact absurd HA.out (by simp [cruciblelaw5_EvalParts.j0])
          | succ kj11 =>
            have H := HA.out
            clear HA
            simp only [cruciblelaw5_EvalParts.j0] at H
            by_cases c21 : x57_11 = true
            · subst c21
              have H1 : ((cruciblelaw0_Num.f t246).bind fun t253 => (if t253 = 0 then (some true) else (some (t245.toList == ([] : List UInt8))))) = some r := by rw [if_pos rfl] at H; exact H
              clear H
              have H := H1
              clear H1
              replace H := Option.bind_eq_some_iff.mp H
              obtain ⟨t253, A220, H⟩ := H
              replace H : (if t253 = 0 then (some true) else (some (t245.toList == ([] : List UInt8)))) = some r := H
              have A22 := Aside0.mk A220
              clear A220
              by_cases c23 : t253 = 0
              · rw [if_pos c23] at H
                have c23b0 : (t253 == 0) = true := beq_iff_eq.mpr c23
                have c23b1 : (t253 != 0) = false := bne_eq_false_iff_eq.mpr c23
                clear c23
                obtain rfl := Option.some.inj H
                go_wp2_with (first | ((with_reducible refine gate_callee (f := 11) rfl ?_); refine goesL_ (some 59) rfl rfl Try.func11 (by kernel_rfl) rfl #[.int .i64 t246] rfl (by (try simp only [List.map_toArray, List.map_cons, List.map_nil]); first | done | rfl | (simp only [List.length_drop, List.length_take]; rfl)) ?_; (with_reducible refine (cruciblelaw0_Num.calls t246 t253 _ A22.out).mono ?_); rintro e w' ⟨rfl, ⟨nd, rfl⟩⟩; refine ⟨_, rfl, ?_⟩))
                go_ret
                exact ⟨by first | rfl | (simp [errW_none, errW_some] <;> rfl) | (simp [*, errW_none, errW_some] <;> rfl), by repeat (first | (with_reducible first | exact HB.out | apply below_alloc | apply pw_below_drewN | apply below_drew1) | exact HB.out)⟩
              · rw [if_neg c23] at H
                have c23b0 : (t253 == 0) = false := beq_eq_false_iff_ne.mpr c23
                have c23b1 : (t253 != 0) = true := bne_iff_ne.mpr c23
                obtain rfl := Option.some.inj H
                go_wp2_with (first | ((with_reducible refine gate_callee (f := 11) rfl ?_); refine goesL_ (some 59) rfl rfl Try.func11 (by kernel_rfl) rfl #[.int .i64 t246] rfl (by (try simp only [List.map_toArray, List.map_cons, List.map_nil]); first | done | rfl | (simp only [List.length_drop, List.length_take]; rfl)) ?_; (with_reducible refine (cruciblelaw0_Num.calls t246 t253 _ A22.out).mono ?_); rintro e w' ⟨rfl, ⟨nd, rfl⟩⟩; refine ⟨_, rfl, ?_⟩))
                go_ret
                exact ⟨by first | rfl | (simp [errW_none, errW_some] <;> rfl) | (simp [*, errW_none, errW_some] <;> rfl), by repeat (first | (with_reducible first | exact HB.out | apply below_alloc | apply pw_below_drewN | apply below_drew1) | exact HB.out)⟩
            · replace c21 := Bool.eq_false_iff.mpr c21
              subst c21
              have H1 : (if (wrap64 ((wrap64 ((t245.size : Int) + (t247.size : Int))) + 1)) > 256 then ((cruciblelaw0_Num.f t250).bind fun t254 => (some (t254 == 501))) else ((cruciblelaw0_Num.f t250).bind fun t255 => (if t255 = 0 then (if t245.size + 1 ≤ 9223372036854775807 then (if (t245 ++ (⟨#[32]⟩ : ByteArray)).size + t247.size ≤ 9223372036854775807 then (if t249.toList = ((t245 ++ (⟨#[32]⟩ : ByteArray)) ++ t247).toList then ((crucibleref1_ScopeMay.f kj11 l2).bind fun t256 => (some t256)) else (some false)) else (none)) else (none)) else (some false)))) = some r := by rw [if_neg (show ¬ (false = true) by decide)] at H; exact H
              clear H
              have H := H1
              clear H1
              by_cases c24 : (wrap64 ((wrap64 ((t245.size : Int) + (t247.size : Int))) + 1)) > 256
              · rw [if_pos c24] at H
                have c24b0 : decide (256 < (wrap64 ((wrap64 ((t245.size : Int) + (t247.size : Int))) + 1))) = true := decide_eq_true c24
                clear c24
                replace H := Option.bind_eq_some_iff.mp H
                obtain ⟨t254, A250, H⟩ := H
                replace H : (some (t254 == 501)) = some r := H
                have A25 := Aside0.mk A250
                clear A250
                obtain rfl := Option.some.inj H
                go_wp2_with (first | ((with_reducible refine gate_callee (f := 11) rfl ?_); refine goesL_ (some 73) rfl rfl Try.func11 (by kernel_rfl) rfl #[.int .i64 t250] rfl (by (try simp only [List.map_toArray, List.map_cons, List.map_nil]); first | done | rfl | (simp only [List.length_drop, List.length_take]; rfl)) ?_; (with_reducible refine (cruciblelaw0_Num.calls t250 t254 _ A25.out).mono ?_); rintro e w' ⟨rfl, ⟨nd, rfl⟩⟩; refine ⟨_, rfl, ?_⟩))
                go_ret
                exact ⟨by first | rfl | (simp [errW_none, errW_some] <;> rfl) | (simp [*, errW_none, errW_some] <;> rfl), by repeat (first | (with_reducible first | exact HB.out | apply below_alloc | apply pw_below_drewN | apply below_drew1) | exact HB.out)⟩
              · rw [if_neg c24] at H
                have c24b0 : decide (256 < (wrap64 ((wrap64 ((t245.size : Int) + (t247.size : Int))) + 1))) = false := decide_eq_false c24
                clear c24
                replace H := Option.bind_eq_some_iff.mp H
                obtain ⟨t255, A260, H⟩ := H
                replace H : (if t255 = 0 then (if t245.size + 1 ≤ 9223372036854775807 then (if (t245 ++ (⟨#[32]⟩ : ByteArray)).size + t247.size ≤ 9223372036854775807 then (if t249.toList = ((t245 ++ (⟨#[32]⟩ : ByteArray)) ++ t247).toList then ((crucibleref1_ScopeMay.f kj11 l2).bind fun t256 => (some t256)) else (some false)) else (none)) else (none)) else (some false)) = some r := H
                have A26 := Aside0.mk A260
                clear A260
                by_cases c27 : t255 = 0
                · rw [if_pos c27] at H
                  have c27b0 : (t255 == 0) = true := beq_iff_eq.mpr c27
                  have c27b1 : (t255 != 0) = false := bne_eq_false_iff_eq.mpr c27
                  clear c27
                  by_cases c28 : t245.size + 1 ≤ 9223372036854775807
                  · rw [if_pos c28] at H
                    have c28b0 := eq_true c28
                    have c28b1 : decide (t245.size + 1 ≤ 9223372036854775807) = true := decide_eq_true c28
                    try have c28b2 : (9223372036854775807 < t245.size + 1) = False := eq_false (Nat.not_lt.2 c28)
                    by_cases c29 : (t245 ++ (⟨#[32]⟩ : ByteArray)).size + t247.size ≤ 9223372036854775807
                    · rw [if_pos c29] at H
                      have c29b0 := eq_true c29
                      have c29b1 : decide ((t245 ++ (⟨#[32]⟩ : ByteArray)).size + t247.size ≤ 9223372036854775807) = true := decide_eq_true c29
                      try have c29b2 : (9223372036854775807 < (t245 ++ (⟨#[32]⟩ : ByteArray)).size + t247.size) = False := eq_false (Nat.not_lt.2 c29)
                      by_cases c30 : t249.toList = ((t245 ++ (⟨#[32]⟩ : ByteArray)) ++ t247).toList
                      · rw [if_pos c30] at H
                        have c30b0 : (t249.toList == ((t245 ++ (⟨#[32]⟩ : ByteArray)) ++ t247).toList) = true := beq_iff_eq.mpr c30
                        have c30b1 : (t249.toList != ((t245 ++ (⟨#[32]⟩ : ByteArray)) ++ t247).toList) = false := bne_eq_false_iff_eq.mpr c30
                        clear c30
                        replace H := Option.bind_eq_some_iff.mp H
                        obtain ⟨t256, A310, H⟩ := H
                        replace H : (some t256) = some r := H
                        have A31 := Aside0.mk A310
                        clear A310
                        obtain rfl := Option.some.inj H
                        go_wp2_with (first | ((with_reducible refine gate_callee (f := 11) rfl ?_); refine goesL_ (some 76) rfl rfl Try.func11 (by kernel_rfl) rfl #[.int .i64 t250] rfl (by (try simp only [List.map_toArray, List.map_cons, List.map_nil]); first | done | rfl | (simp only [List.length_drop, List.length_take]; rfl)) ?_; (with_reducible refine (cruciblelaw0_Num.calls t250 t255 _ A26.out).mono ?_); rintro e w' ⟨rfl, ⟨nd, rfl⟩⟩; refine ⟨_, rfl, ?_⟩) | (go_at_call 15; (with_reducible refine (crucibleref1_ScopeMay.calls kj11 _ _ l2 t256 _ ?side1 ?side2 A31.out).mono ?_); (case side1 => repeat (first | exact (Kd.C_below HR2.out (by repeat (first | (with_reducible first | exact HB.out | apply below_alloc | apply pw_below_drewN | apply below_drew1) | exact HB.out))) | (with_reducible refine Kd.C_alloc ?_ _) | (with_reducible refine Kd.C_drewN ?_ _) | (with_reducible refine Kd.C_drew ?_))); (case side2 => exact HC2.out); rintro e w' ⟨rfl, ⟨nd, rfl⟩⟩))
                        go_ret
                        exact ⟨by first | rfl | (simp [errW_none, errW_some] <;> rfl) | (simp [*, errW_none, errW_some] <;> rfl), by repeat (first | (with_reducible first | exact HB.out | apply below_alloc | apply pw_below_drewN | apply below_drew1) | exact HB.out)⟩
                      · rw [if_neg c30] at H
                        have c30b0 : (t249.toList == ((t245 ++ (⟨#[32]⟩ : ByteArray)) ++ t247).toList) = false := beq_eq_false_iff_ne.mpr c30
                        have c30b1 : (t249.toList != ((t245 ++ (⟨#[32]⟩ : ByteArray)) ++ t247).toList) = true := bne_iff_ne.mpr c30
                        obtain rfl := Option.some.inj H
                        go_wp2_with (first | ((with_reducible refine gate_callee (f := 11) rfl ?_); refine goesL_ (some 76) rfl rfl Try.func11 (by kernel_rfl) rfl #[.int .i64 t250] rfl (by (try simp only [List.map_toArray, List.map_cons, List.map_nil]); first | done | rfl | (simp only [List.length_drop, List.length_take]; rfl)) ?_; (with_reducible refine (cruciblelaw0_Num.calls t250 t255 _ A26.out).mono ?_); rintro e w' ⟨rfl, ⟨nd, rfl⟩⟩; refine ⟨_, rfl, ?_⟩))
                        go_ret
                        exact ⟨by first | rfl | (simp [errW_none, errW_some] <;> rfl) | (simp [*, errW_none, errW_some] <;> rfl), by repeat (first | (with_reducible first | exact HB.out | apply below_alloc | apply pw_below_drewN | apply below_drew1) | exact HB.out)⟩
                    · rw [if_neg c29] at H
                      exact absurd H (by simp)
                  · rw [if_neg c28] at H
                    exact absurd H (by simp)
                · rw [if_neg c27] at H
                  have c27b0 : (t255 == 0) = false := beq_eq_false_iff_ne.mpr c27
                  have c27b1 : (t255 != 0) = true := bne_iff_ne.mpr c27
                  obtain rfl := Option.some.inj H
                  go_wp2_with (first | ((with_reducible refine gate_callee (f := 11) rfl ?_); refine goesL_ (some 76) rfl rfl Try.func11 (by kernel_rfl) rfl #[.int .i64 t250] rfl (by (try simp only [List.map_toArray, List.map_cons, List.map_nil]); first | done | rfl | (simp only [List.length_drop, List.length_take]; rfl)) ?_; (with_reducible refine (cruciblelaw0_Num.calls t250 t255 _ A26.out).mono ?_); rintro e w' ⟨rfl, ⟨nd, rfl⟩⟩; refine ⟨_, rfl, ?_⟩))
                  go_ret
                  exact ⟨by first | rfl | (simp [errW_none, errW_some] <;> rfl) | (simp [*, errW_none, errW_some] <;> rfl), by repeat (first | (with_reducible first | exact HB.out | apply below_alloc | apply pw_below_drewN | apply below_drew1) | exact HB.out)⟩
      · rw [if_neg c10] at H
        exact absurd H (by simp)
    · rw [if_neg c9] at H
      exact absurd H (by simp)
  · replace c6 := Bool.eq_false_iff.mpr c6
    subst c6
    have H1 : (some false) = some r := by rw [if_neg (show ¬ (false = true) by decide)] at H; exact H
    clear H
    have H := H1
    clear H1
    obtain rfl := Option.some.inj H
    go_enter Try.func7, Try.ntmps7
    go_wp2_with (first | ((with_reducible refine gate_callee (f := 13) rfl ?_); refine goesL_ (some 15) rfl rfl Try.func13 (by kernel_rfl) rfl #[] rfl (by (try simp only [List.map_toArray, List.map_cons, List.map_nil]); first | done | rfl | (simp only [List.length_drop, List.length_take]; rfl)) ?_; (with_reducible refine (cruciblelaw5_awake.calls k  false _ A5.out).mono ?_); rintro e w32 ⟨rfl, hb⟩; refine ⟨_, rfl, ?_⟩; have n0_ := Aside0.mk (below_step (by repeat (first | (with_reducible first | exact HB.out | apply below_alloc | apply pw_below_drewN | apply below_drew1) | exact HB.out)) hb); clear HB; have HB := n0_; clear n0_; (try clear hb); (try clear hb2); (try clear hk); (try clear hi)))
    go_ret
    exact ⟨by first | rfl | (simp [errW_none, errW_some] <;> rfl) | (simp [*, errW_none, errW_some] <;> rfl), by repeat (first | (with_reducible first | exact HB.out | apply below_alloc | apply pw_below_drewN | apply below_drew1) | exact HB.out)⟩

end Go.Proofs.Ytbkgcdjbkoeejaa.Print
