-- By a program of ours (wip/tools/myprint.sh) out of the translation.
import Derived.Test.YtbkgcdjbkoeejaaDoorP0
import Derived.Test.YtbkgcdjbkoeejaaDoorPCrucibleref1Lines
import Derived.Test.YtbkgcdjbkoeejaaDoorPCruciblelaw0SameLines
import Derived.Test.YtbkgcdjbkoeejaaDoorPCruciblelaw0Num
import Derived.Test.YtbkgcdjbkoeejaaDoorPCruciblelaw0SpoilLines
import Derived.Test.YtbkgcdjbkoeejaaDoorPCruciblelaw6Awake
import Derived.Test.YtbkgcdjbkoeejaaDoorHLines
namespace Go.Proofs.YtbkgcdjbkoeejaaDoor.Print
open Go.RowKit Go.Proofs.YtbkgcdjbkoeejaaDoorW.PrintWords Go.Proofs.YtbkgcdjbkoeejaaDoorW.PrintLast Go.Proofs.YtbkgcdjbkoeejaaDoorW.PrintMore
attribute [local go_sem] max2_int min2_int max_two min_two max_three min_three max_four min_four   -- for this text's walks alone
set_option linter.unusedVariables false
set_option linter.unusedSimpArgs false

/-! ### cruciblelaw6_Lineses: function 3 -/
def cruciblelaw6_Lineses.j0 : Nat → List (S39) → Bool → Option (Bool)
  | 0, _, _ => none
  | k + 1, x3, x26 => if x26 = true then (some false) else ((cruciblelaw0_SpoilLines.f k x3).bind fun t162 => ((cruciblelaw6_awake.f k).bind fun t163 => (some t163)))
def cruciblelaw6_Lineses.f (k : Nat) (a0 : ByteArray) : Option (Bool) := (lines_Cut.f a0).bind fun bt152 => ((crucibleref1_Lines.f k a0).bind fun bt156 => ((cruciblelaw0_SameLines.f k bt152.1 bt156.1).bind fun t160 => (if t160 = true then ((cruciblelaw0_Num.f bt152.2).bind fun t161 => (cruciblelaw6_Lineses.j0 k bt152.1 (t161 != bt156.2))) else (cruciblelaw6_Lineses.j0 k bt152.1 true))))
theorem cruciblelaw6_Lineses.mono_l : ∀ k, (∀ y0 y1, LeO (cruciblelaw6_Lineses.j0 k y0 y1) (cruciblelaw6_Lineses.j0 (k + 1) y0 y1))
  | 0 => fun _ _ r h => by simp [cruciblelaw6_Lineses.j0] at h
  | k + 1 => by
    have ih0 := cruciblelaw6_Lineses.mono_l k
    · intro y0 y1
      unfold cruciblelaw6_Lineses.j0
      repeat' first
      | (with_reducible exact ih0 _ _)
      | (with_reducible exact cruciblelaw0_SameLines.mono _ _ _)
      | (with_reducible exact cruciblelaw0_SpoilLines.mono _ _)
      | (with_reducible exact cruciblelaw6_awake.mono _)
      | (with_reducible exact crucibleref1_Lines.mono _ _)
      | (with_reducible exact LeO.refl _)
      | (with_reducible exact LeO.none _)
      | (with_reducible refine LeO.ite ?_ ?_)
      | (with_reducible refine LeO.bind ?_ (fun _ => ?_))
      | exact ih0 _ _
      | exact cruciblelaw0_SameLines.mono _ _ _
      | exact cruciblelaw0_SpoilLines.mono _ _
      | exact cruciblelaw6_awake.mono _
      | exact crucibleref1_Lines.mono _ _
      | exact LeO.none _
      | refine LeO.ite ?_ ?_
      | refine LeO.bind ?_ (fun _ => ?_)
theorem cruciblelaw6_Lineses.mono : ∀ a0 k, LeO (cruciblelaw6_Lineses.f k a0) (cruciblelaw6_Lineses.f (k + 1) a0) := by
  intro a0 k
  have ih0 := cruciblelaw6_Lineses.mono_l k
  unfold cruciblelaw6_Lineses.f
  repeat' first
      | (with_reducible exact ih0 _ _)
      | (with_reducible exact cruciblelaw0_SameLines.mono _ _ _)
      | (with_reducible exact cruciblelaw0_SpoilLines.mono _ _)
      | (with_reducible exact cruciblelaw6_awake.mono _)
      | (with_reducible exact crucibleref1_Lines.mono _ _)
      | (with_reducible exact LeO.refl _)
      | (with_reducible exact LeO.none _)
      | (with_reducible refine LeO.ite ?_ ?_)
      | (with_reducible refine LeO.bind ?_ (fun _ => ?_))
      | exact ih0 _ _
      | exact cruciblelaw0_SameLines.mono _ _ _
      | exact cruciblelaw0_SpoilLines.mono _ _
      | exact cruciblelaw6_awake.mono _
      | exact crucibleref1_Lines.mono _ _
      | exact LeO.none _
      | refine LeO.ite ?_ ?_
      | refine LeO.bind ?_ (fun _ => ?_)
set_option maxHeartbeats 8000000 in
set_option maxRecDepth 100000 in
theorem cruciblelaw6_Lineses.calls (k : Nat) (a0 : ByteArray) (r : Bool) (w : World) (h : cruciblelaw6_Lineses.f k a0 = some r) :
    Calls Tryd.prog 3 #[.string a0] w fun e w' => e = .returned (.bool r) ∧ Below w.heap.size w w' := by
  have HB := Aside0.mk (Below.refl w.heap.size w)
  have H : ((lines_Cut.f a0).bind fun bt152 => ((crucibleref1_Lines.f k a0).bind fun bt156 => ((cruciblelaw0_SameLines.f k bt152.1 bt156.1).bind fun t160 => (if t160 = true then ((cruciblelaw0_Num.f bt152.2).bind fun t161 => (cruciblelaw6_Lineses.j0 k bt152.1 (t161 != bt156.2))) else (cruciblelaw6_Lineses.j0 k bt152.1 true))))) = some r := h
  clear h
  replace H := Option.bind_eq_some_iff.mp H
  obtain ⟨⟨t152, t153⟩, A20, H⟩ := H
  replace H : ((crucibleref1_Lines.f k a0).bind fun bt156 => ((cruciblelaw0_SameLines.f k t152 bt156.1).bind fun t160 => (if t160 = true then ((cruciblelaw0_Num.f t153).bind fun t161 => (cruciblelaw6_Lineses.j0 k t152 (t161 != bt156.2))) else (cruciblelaw6_Lineses.j0 k t152 true)))) = some r := H
  have A2 := Aside0.mk A20
  clear A20
  replace H := Option.bind_eq_some_iff.mp H
  obtain ⟨⟨t156, t157⟩, A30, H⟩ := H
  replace H : ((cruciblelaw0_SameLines.f k t152 t156).bind fun t160 => (if t160 = true then ((cruciblelaw0_Num.f t153).bind fun t161 => (cruciblelaw6_Lineses.j0 k t152 (t161 != t157))) else (cruciblelaw6_Lineses.j0 k t152 true))) = some r := H
  have A3 := Aside0.mk A30
  clear A30
  have HC4 := Aside0.mk H
  clear H
  go_enter Tryd.func3, Tryd.ntmps3
  go_upto_region 3 with (first | ((with_reducible refine gate_callee (f := 8) rfl ?_); refine goesL_ (some 9) rfl rfl Tryd.func8 (by kernel_rfl) rfl #[.string a0] rfl (by (try simp only [List.map_toArray, List.map_cons, List.map_nil]); first | done | rfl | (simp only [List.length_drop, List.length_take]; rfl)) ?_; (with_reducible refine (lines_Cut.calls a0 t152 t153 _ A2.out).mono ?_); rintro e w5 ⟨v154, rfl, ho0, hb⟩; refine ⟨_, rfl, ?_⟩; have n0_ := Aside0.mk (Kd.R_lower ho0 (below_size (by repeat (first | (with_reducible first | exact HB.out | apply below_alloc | apply pw_below_drewN | apply below_drew1) | exact HB.out)))); have n1_ := Aside0.mk (below_step (by repeat (first | (with_reducible first | exact HB.out | apply below_alloc | apply pw_below_drewN | apply below_drew1) | exact HB.out)) hb); clear HB; have HO155 := n0_; have HB := n1_; clear n0_ n1_; (try clear hb); (try clear hb2); (try clear hk); (try clear hi); (try clear ho0)) | ((with_reducible refine gate_callee (f := 9) rfl ?_); refine goesL_ (some 14) rfl rfl Tryd.func9 (by kernel_rfl) rfl #[.string a0] rfl (by (try simp only [List.map_toArray, List.map_cons, List.map_nil]); first | done | rfl | (simp only [List.length_drop, List.length_take]; rfl)) ?_; (with_reducible refine (crucibleref1_Lines.calls k a0 t156 t157 _ A3.out).mono ?_); rintro e w6 ⟨v158, rfl, ho0, hb⟩; refine ⟨_, rfl, ?_⟩; have n0_ := Aside0.mk (Kd.R_elder' (by (with_reducible repeat (first | apply Kd.R_alloc | apply Kd.R_drewN | apply Kd.R_drew)); exact HO155.out) (Kd.R_base ho0) hb); have n1_ := Aside0.mk (Kd.R_lower (Kd.R_new' ho0 (Kd.R_lt (by (with_reducible repeat (first | apply Kd.R_alloc | apply Kd.R_drewN | apply Kd.R_drew)); exact HO155.out))) (below_size (by repeat (first | (with_reducible first | exact HB.out | apply below_alloc | apply pw_below_drewN | apply below_drew1) | exact HB.out)))); have n2_ := Aside0.mk (below_step (by repeat (first | (with_reducible first | exact HB.out | apply below_alloc | apply pw_below_drewN | apply below_drew1) | exact HB.out)) hb); clear HO155; clear HB; have HO155 := n0_; have HO159 := n1_; have HB := n2_; clear n0_ n1_ n2_; (try clear hb); (try clear hb2); (try clear hk); (try clear hi); (try clear ho0)))
  (try simp only [Act.put, List.setIfInBounds_toArray, List.set_cons_zero, List.set_cons_succ])
  go_cut [26] (fun v26 wc => ∃ (kq : Nat) (x26_3 : Bool), v26 = .bool x26_3 ∧ Aside0 (cruciblelaw6_Lineses.j0 kq t152 x26_3 = some r) ∧ Aside0 (kq ≤ k) ∧ Aside0 (Kd.R k39 39 wc w.heap.size (fun _ => True) v154 t152) ∧ Aside0 (Below w.heap.size w wc))
  case first =>
    have H := HC4.out
    clear HC4
    replace H := Option.bind_eq_some_iff.mp H
    obtain ⟨t160, A70, H⟩ := H
    replace H : (if t160 = true then ((cruciblelaw0_Num.f t153).bind fun t161 => (cruciblelaw6_Lineses.j0 k t152 (t161 != t157))) else (cruciblelaw6_Lineses.j0 k t152 true)) = some r := H
    have A7 := Aside0.mk A70
    clear A70
    by_cases c8 : t160 = true
    · subst c8
      have H1 : ((cruciblelaw0_Num.f t153).bind fun t161 => (cruciblelaw6_Lineses.j0 k t152 (t161 != t157))) = some r := by rw [if_pos rfl] at H; exact H
      clear H
      have H := H1
      clear H1
      replace H := Option.bind_eq_some_iff.mp H
      obtain ⟨t161, A90, H⟩ := H
      replace H : (cruciblelaw6_Lineses.j0 k t152 (t161 != t157)) = some r := H
      have A9 := Aside0.mk A90
      clear A90
      have H' := Aside0.mk H
      clear H
      obtain ⟨Ao10, co10, eo10⟩ := Kd.R_slice HO155.out
      subst eo10
      obtain ⟨Ao11, co11, eo11⟩ := Kd.R_slice HO159.out
      subst eo11
      go_wp2_with (first | ((with_reducible refine gate_callee (f := 10) rfl ?_); refine goesL_ (some 19) rfl rfl Tryd.func10 (by kernel_rfl) rfl #[.slice Ao10 t152.length co10, .slice Ao11 t156.length co11] rfl (by (try simp only [List.map_toArray, List.map_cons, List.map_nil]); first | done | rfl | (simp only [List.length_drop, List.length_take]; rfl)) ?_; (with_reducible refine (cruciblelaw0_SameLines.calls k _ _ t152 _ _ t156 true _ ?side1 ?side2 ?side3 ?side4 A7.out).mono ?_); (case side1 => repeat (first | exact (Kd.R_reads' HO155.out).2.2 | (with_reducible refine Kd.C_alloc ?_ _) | (with_reducible refine Kd.C_drewN ?_ _) | (with_reducible refine Kd.C_drew ?_))); (case side2 => exact (Kd.R_reads' HO155.out).2.1); (case side3 => repeat (first | exact (Kd.R_reads' HO159.out).2.2 | (with_reducible refine Kd.C_alloc ?_ _) | (with_reducible refine Kd.C_drewN ?_ _) | (with_reducible refine Kd.C_drew ?_))); (case side4 => exact (Kd.R_reads' HO159.out).2.1); rintro e w' ⟨rfl, ⟨nd, rfl⟩⟩; refine ⟨_, rfl, ?_⟩) | (go_at_call 11; (with_reducible refine (cruciblelaw0_Num.calls t153 t161 _ A9.out).mono ?_); rintro e w' ⟨rfl, ⟨nd, rfl⟩⟩))
      go_meet
      case rel => exact ⟨_, ((t161 != t157)), (by first | rfl | (simp; done) | (simp [*]; done)), H', ⟨by first | omega | exact Nat.le_refl _⟩, ⟨by (with_reducible repeat (first | apply Kd.R_alloc | apply Kd.R_drewN | apply Kd.R_drew)); exact Kd.R_mono HO155.out (fun _ hk => trivial)⟩, ⟨by repeat (first | (with_reducible first | exact HB.out | apply below_alloc | apply pw_below_drewN | apply below_drew1) | exact HB.out)⟩⟩
    · replace c8 := Bool.eq_false_iff.mpr c8
      subst c8
      have H1 : (cruciblelaw6_Lineses.j0 k t152 true) = some r := by rw [if_neg (show ¬ (false = true) by decide)] at H; exact H
      clear H
      have H := H1
      clear H1
      have H' := Aside0.mk H
      clear H
      obtain ⟨Ao12, co12, eo12⟩ := Kd.R_slice HO155.out
      subst eo12
      obtain ⟨Ao13, co13, eo13⟩ := Kd.R_slice HO159.out
      subst eo13
      go_wp2_with (first | ((with_reducible refine gate_callee (f := 10) rfl ?_); refine goesL_ (some 19) rfl rfl Tryd.func10 (by kernel_rfl) rfl #[.slice Ao12 t152.length co12, .slice Ao13 t156.length co13] rfl (by (try simp only [List.map_toArray, List.map_cons, List.map_nil]); first | done | rfl | (simp only [List.length_drop, List.length_take]; rfl)) ?_; (with_reducible refine (cruciblelaw0_SameLines.calls k _ _ t152 _ _ t156 false _ ?side1 ?side2 ?side3 ?side4 A7.out).mono ?_); (case side1 => repeat (first | exact (Kd.R_reads' HO155.out).2.2 | (with_reducible refine Kd.C_alloc ?_ _) | (with_reducible refine Kd.C_drewN ?_ _) | (with_reducible refine Kd.C_drew ?_))); (case side2 => exact (Kd.R_reads' HO155.out).2.1); (case side3 => repeat (first | exact (Kd.R_reads' HO159.out).2.2 | (with_reducible refine Kd.C_alloc ?_ _) | (with_reducible refine Kd.C_drewN ?_ _) | (with_reducible refine Kd.C_drew ?_))); (case side4 => exact (Kd.R_reads' HO159.out).2.1); rintro e w' ⟨rfl, ⟨nd, rfl⟩⟩; refine ⟨_, rfl, ?_⟩))
      go_meet
      case rel => exact ⟨_, (true), (by first | rfl | (simp; done) | (simp [*]; done)), H', ⟨by first | omega | exact Nat.le_refl _⟩, ⟨by (with_reducible repeat (first | apply Kd.R_alloc | apply Kd.R_drewN | apply Kd.R_drew)); exact Kd.R_mono HO155.out (fun _ hk => trivial)⟩, ⟨by repeat (first | (with_reducible first | exact HB.out | apply below_alloc | apply pw_below_drewN | apply below_drew1) | exact HB.out)⟩⟩
  case rest =>
    clear HC4
    try clear c1
    try clear p2
    try clear c3
    try clear c8
    try clear c9
    try clear c10
    obtain ⟨kq, x26_3, rfl, HA, HJ3, HO_3, HB⟩ := hcut
    cases kq with
    | zero => exact absurd HA.out (by simp [cruciblelaw6_Lineses.j0])
    | succ kj3 =>
      have H := HA.out
      clear HA
      simp only [cruciblelaw6_Lineses.j0] at H
      by_cases c14 : x26_3 = true
      · subst c14
        have H1 : (some false) = some r := by rw [if_pos rfl] at H; exact H
        clear H
        have H := H1
        clear H1
        obtain rfl := Option.some.inj H
        go_wp2
        go_ret
        exact ⟨by first | rfl | (simp [errW_none, errW_some] <;> rfl) | (simp [*, errW_none, errW_some] <;> rfl), by repeat (first | (with_reducible first | exact HB.out | apply below_alloc | apply pw_below_drewN | apply below_drew1) | exact HB.out)⟩
      · replace c14 := Bool.eq_false_iff.mpr c14
        subst c14
        have H1 : ((cruciblelaw0_SpoilLines.f kj3 t152).bind fun t162 => ((cruciblelaw6_awake.f kj3).bind fun t163 => (some t163))) = some r := by rw [if_neg (show ¬ (false = true) by decide)] at H; exact H
        clear H
        have H := H1
        clear H1
        replace H := Option.bind_eq_some_iff.mp H
        obtain ⟨t162, A150, H⟩ := H
        replace H : ((cruciblelaw6_awake.f kj3).bind fun t163 => (some t163)) = some r := H
        have A15 := Aside0.mk A150
        clear A150
        replace H := Option.bind_eq_some_iff.mp H
        obtain ⟨t163, A160, H⟩ := H
        replace H : (some t163) = some r := H
        have A16 := Aside0.mk A160
        clear A160
        obtain rfl := Option.some.inj H
        obtain ⟨Ao17, co17, eo17⟩ := Kd.R_slice HO_3.out
        subst eo17
        go_wp2_with (first | ((with_reducible refine gate_callee (f := 12) rfl ?_); refine goesL_ (some 28) rfl rfl Tryd.func12 (by kernel_rfl) rfl #[.slice Ao17 t152.length co17] rfl (by (try simp only [List.map_toArray, List.map_cons, List.map_nil]); first | done | rfl | (simp only [List.length_drop, List.length_take]; rfl)) ?_; (with_reducible refine (cruciblelaw0_SpoilLines.calls kj3 (fun k_ => some k_ = (.slice Ao17 t152.length co17 : Value).ownBlock) (.slice Ao17 t152.length co17) t152 t162 w _ ?side1 ?side2 A15.out).mono ?_); (case side1 => repeat (first | (with_reducible first | exact HB.out | apply below_alloc | apply pw_below_drewN | apply below_drew1) | exact HB.out)); (case side2 => exact Kd.R_tight rfl HO_3.out); rintro e w18 ⟨rfl, hy0, hb, hkp⟩; refine ⟨_, rfl, ?_⟩; have n0_ := Aside0.mk (Kd.R_reok rfl hy0 (fun k_ e_ => HO_3.out.1 k_ e_)); have n1_ := Aside0.mk (hb); clear HO_3; clear HB; have HO_3 := n0_; have HB := n1_; clear n0_ n1_; (try clear hb); (try clear hkp); (try clear hy0)) | ((with_reducible refine gate_callee (f := 13) rfl ?_); refine goesL_ (some 29) rfl rfl Tryd.func13 (by kernel_rfl) rfl #[] rfl (by (try simp only [List.map_toArray, List.map_cons, List.map_nil]); first | done | rfl | (simp only [List.length_drop, List.length_take]; rfl)) ?_; (with_reducible refine (cruciblelaw6_awake.calls kj3  t163 _ A16.out).mono ?_); rintro e w19 ⟨rfl, hb⟩; refine ⟨_, rfl, ?_⟩; have n0_ := Aside0.mk (Kd.R_below (by (with_reducible repeat (first | apply Kd.R_alloc | apply Kd.R_drewN | apply Kd.R_drew)); exact HO_3.out) hb); have n1_ := Aside0.mk (below_step (by repeat (first | (with_reducible first | exact HB.out | apply below_alloc | apply pw_below_drewN | apply below_drew1) | exact HB.out)) hb); clear HO_3; clear HB; have HO_3 := n0_; have HB := n1_; clear n0_ n1_; (try clear hb); (try clear hb2); (try clear hk); (try clear hi)))
        go_ret
        exact ⟨by first | rfl | (simp [errW_none, errW_some] <;> rfl) | (simp [*, errW_none, errW_some] <;> rfl), by repeat (first | (with_reducible first | exact HB.out | apply below_alloc | apply pw_below_drewN | apply below_drew1) | exact HB.out)⟩

/-- THE ONE PURE STATEMENT of cruciblelaw6_Lineses: yours. -/
def cruciblelaw6_Lineses.Pure : Prop := ∀ (a0 : ByteArray), a0.size ≤ 140737488351232 → ∃ k, cruciblelaw6_Lineses.f k a0 = some true
theorem cruciblelaw6_Lineses.walk (P : cruciblelaw6_Lineses.Pure) (a0 : ByteArray) (w : World) (w0 : a0.size ≤ 140737488351232) :
    Calls Tryd.prog 3 #[.string a0] w fun e w' => e = .returned (.bool true) ∧ Below w.heap.size w w' := by
  obtain ⟨k, h⟩ := P a0 w0
  refine (cruciblelaw6_Lineses.calls k a0 true w h).mono ?_
  rintro e w' ⟨rfl, hd⟩
  exact ⟨rfl, hd⟩

end Go.Proofs.YtbkgcdjbkoeejaaDoor.Print
