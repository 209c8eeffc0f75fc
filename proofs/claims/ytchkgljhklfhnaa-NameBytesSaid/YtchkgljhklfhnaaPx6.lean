-- By a program of ours (wip/tools/myprint.sh) out of the translation.
import Derived.Test.YtchkgljhklfhnaaPx0
import Derived.Test.YtchkgljhklfhnaaPx3
import Derived.Test.YtchkgljhklfhnaaPx5
import Derived.Test.YtchkgljhklfhnaaHName
namespace Go.Proofs.Ytchkgljhklfhnaa.Print
open Go.RowKit Go.Proofs.YtchkgljhklfhnaaW.PrintWords Go.Proofs.YtchkgljhklfhnaaW.PrintLast Go.Proofs.YtchkgljhklfhnaaW.PrintMore
attribute [local go_sem] max2_int min2_int max_two min_two max_three min_three max_four min_four   -- for this text's walks alone
set_option linter.unusedVariables false
set_option linter.unusedSimpArgs false

/-! ### cruciblelaw1_NameBytes: function 5 -/
mutual
def cruciblelaw1_NameBytes.j0 : Nat → Int → Int → Bool → Option (Bool)
  | 0, _, _, _ => none
  | k + 1, x1, x5, x6 => cruciblelaw1_NameBytes.l0 k x5 x6 (Go.bits .and .i64 x1 31) (⟨#[]⟩ : ByteArray) 0
def cruciblelaw1_NameBytes.l0 : Nat → Int → Bool → Int → ByteArray → Int → Option (Bool)
  | 0, _, _, _, _, _ => none
  | k + 1, x5, x6, x7, x8, x9 => if x9 < x7 then ((some (([x5] : List Int) : List Int)).bind fun y156 => (if x8.size + (strOfNums y156).size ≤ 9223372036854775807 then (cruciblelaw1_NameBytes.l0 k x5 x6 x7 (x8 ++ (strOfNums y156)) (wrap64 (x9 + 1))) else (none))) else ((cruciblelaw0_Num.f 0).bind fun t159 => (if t159 = 0 then ((name_May.f x8).bind fun t160 => (if x6 = true then (if x7 ≥ 1 then (if (t160 == (decide (x7 ≤ 16))) = true then ((some (([x5] : List Int) : List Int)).bind fun y161 => (if 1 + (strOfNums y161).size ≤ 9223372036854775807 then ((name_May.f ((⟨#[97]⟩ : ByteArray) ++ (strOfNums y161))).bind fun t164 => (some (t164 == x6))) else (none))) else (some false)) else (if (t160 == false) = true then ((some (([x5] : List Int) : List Int)).bind fun y165 => (if 1 + (strOfNums y165).size ≤ 9223372036854775807 then ((name_May.f ((⟨#[97]⟩ : ByteArray) ++ (strOfNums y165))).bind fun t168 => (some (t168 == x6))) else (none))) else (some false))) else (if (t160 == false) = true then ((some (([x5] : List Int) : List Int)).bind fun y169 => (if 1 + (strOfNums y169).size ≤ 9223372036854775807 then ((name_May.f ((⟨#[97]⟩ : ByteArray) ++ (strOfNums y169))).bind fun t172 => (some (t172 == x6))) else (none))) else (some false)))) else (some false)))
end
def cruciblelaw1_NameBytes.f (k : Nat) (a0 : Int) (a1 : Int) : Option (Bool) := (cruciblelaw1_awake.f).bind fun t155 => (if t155 = true then (if ((a0) % 256) ≥ 97 then (if ((a0) % 256) ≤ 122 then (cruciblelaw1_NameBytes.j0 k a1 ((a0) % 256) true) else (if ((a0) % 256) ≥ 48 then (if ((a0) % 256) ≤ 57 then (cruciblelaw1_NameBytes.j0 k a1 ((a0) % 256) true) else (if ((a0) % 256) = 46 then (cruciblelaw1_NameBytes.j0 k a1 ((a0) % 256) true) else (if ((a0) % 256) = 95 then (cruciblelaw1_NameBytes.j0 k a1 ((a0) % 256) true) else (if ((a0) % 256) = 45 then (cruciblelaw1_NameBytes.j0 k a1 ((a0) % 256) true) else (cruciblelaw1_NameBytes.j0 k a1 ((a0) % 256) (((a0) % 256) == 47)))))) else (if ((a0) % 256) = 46 then (cruciblelaw1_NameBytes.j0 k a1 ((a0) % 256) true) else (if ((a0) % 256) = 95 then (cruciblelaw1_NameBytes.j0 k a1 ((a0) % 256) true) else (if ((a0) % 256) = 45 then (cruciblelaw1_NameBytes.j0 k a1 ((a0) % 256) true) else (cruciblelaw1_NameBytes.j0 k a1 ((a0) % 256) (((a0) % 256) == 47))))))) else (if ((a0) % 256) ≥ 48 then (if ((a0) % 256) ≤ 57 then (cruciblelaw1_NameBytes.j0 k a1 ((a0) % 256) true) else (if ((a0) % 256) = 46 then (cruciblelaw1_NameBytes.j0 k a1 ((a0) % 256) true) else (if ((a0) % 256) = 95 then (cruciblelaw1_NameBytes.j0 k a1 ((a0) % 256) true) else (if ((a0) % 256) = 45 then (cruciblelaw1_NameBytes.j0 k a1 ((a0) % 256) true) else (cruciblelaw1_NameBytes.j0 k a1 ((a0) % 256) (((a0) % 256) == 47)))))) else (if ((a0) % 256) = 46 then (cruciblelaw1_NameBytes.j0 k a1 ((a0) % 256) true) else (if ((a0) % 256) = 95 then (cruciblelaw1_NameBytes.j0 k a1 ((a0) % 256) true) else (if ((a0) % 256) = 45 then (cruciblelaw1_NameBytes.j0 k a1 ((a0) % 256) true) else (cruciblelaw1_NameBytes.j0 k a1 ((a0) % 256) (((a0) % 256) == 47))))))) else (some false))
theorem cruciblelaw1_NameBytes.mono_l : ∀ k, (∀ y0 y1 y2, LeO (cruciblelaw1_NameBytes.j0 k y0 y1 y2) (cruciblelaw1_NameBytes.j0 (k + 1) y0 y1 y2)) ∧ (∀ y0 y1 y2 y3 y4, LeO (cruciblelaw1_NameBytes.l0 k y0 y1 y2 y3 y4) (cruciblelaw1_NameBytes.l0 (k + 1) y0 y1 y2 y3 y4))
  | 0 => ⟨fun _ _ _ r h => by simp [cruciblelaw1_NameBytes.j0] at h, fun _ _ _ _ _ r h => by simp [cruciblelaw1_NameBytes.l0] at h⟩
  | k + 1 => by
    obtain ⟨ih0, ih1⟩ := cruciblelaw1_NameBytes.mono_l k
    refine ⟨?_, ?_⟩
    · intro y0 y1 y2
      unfold cruciblelaw1_NameBytes.j0
      repeat' first
      | (with_reducible exact ih0 _ _ _)
      | (with_reducible exact ih1 _ _ _ _ _)
      | (with_reducible exact LeO.refl _)
      | (with_reducible exact LeO.none _)
      | (with_reducible refine LeO.ite ?_ ?_)
      | (with_reducible refine LeO.bind ?_ (fun _ => ?_))
      | exact ih0 _ _ _
      | exact ih1 _ _ _ _ _
      | exact LeO.none _
      | refine LeO.ite ?_ ?_
      | refine LeO.bind ?_ (fun _ => ?_)
    · intro y0 y1 y2 y3 y4
      unfold cruciblelaw1_NameBytes.l0
      repeat' first
      | (with_reducible exact ih0 _ _ _)
      | (with_reducible exact ih1 _ _ _ _ _)
      | (with_reducible exact LeO.refl _)
      | (with_reducible exact LeO.none _)
      | (with_reducible refine LeO.ite ?_ ?_)
      | (with_reducible refine LeO.bind ?_ (fun _ => ?_))
      | exact ih0 _ _ _
      | exact ih1 _ _ _ _ _
      | exact LeO.none _
      | refine LeO.ite ?_ ?_
      | refine LeO.bind ?_ (fun _ => ?_)
theorem cruciblelaw1_NameBytes.mono : ∀ a0 a1 k, LeO (cruciblelaw1_NameBytes.f k a0 a1) (cruciblelaw1_NameBytes.f (k + 1) a0 a1) := by
  intro a0 a1 k
  obtain ⟨ih0, ih1⟩ := cruciblelaw1_NameBytes.mono_l k
  unfold cruciblelaw1_NameBytes.f
  repeat' first
      | (with_reducible exact ih0 _ _ _)
      | (with_reducible exact ih1 _ _ _ _ _)
      | (with_reducible exact LeO.refl _)
      | (with_reducible exact LeO.none _)
      | (with_reducible refine LeO.ite ?_ ?_)
      | (with_reducible refine LeO.bind ?_ (fun _ => ?_))
      | exact ih0 _ _ _
      | exact ih1 _ _ _ _ _
      | exact LeO.none _
      | refine LeO.ite ?_ ?_
      | refine LeO.bind ?_ (fun _ => ?_)
set_option maxHeartbeats 8000000 in
set_option maxRecDepth 100000 in
theorem cruciblelaw1_NameBytes.calls (k : Nat) (a0 : Int) (a1 : Int) (r : Bool) (w : World) (h : cruciblelaw1_NameBytes.f k a0 a1 = some r) :
    Calls Try.prog 5 #[.int .i64 a0, .int .i64 a1] w fun e w' => e = .returned (.bool r) ∧ Below w.heap.size w w' := by
  have HB := Aside0.mk (Below.refl w.heap.size w)
  have H : ((cruciblelaw1_awake.f).bind fun t155 => (if t155 = true then (if ((a0) % 256) ≥ 97 then (if ((a0) % 256) ≤ 122 then (cruciblelaw1_NameBytes.j0 k a1 ((a0) % 256) true) else (if ((a0) % 256) ≥ 48 then (if ((a0) % 256) ≤ 57 then (cruciblelaw1_NameBytes.j0 k a1 ((a0) % 256) true) else (if ((a0) % 256) = 46 then (cruciblelaw1_NameBytes.j0 k a1 ((a0) % 256) true) else (if ((a0) % 256) = 95 then (cruciblelaw1_NameBytes.j0 k a1 ((a0) % 256) true) else (if ((a0) % 256) = 45 then (cruciblelaw1_NameBytes.j0 k a1 ((a0) % 256) true) else (cruciblelaw1_NameBytes.j0 k a1 ((a0) % 256) (((a0) % 256) == 47)))))) else (if ((a0) % 256) = 46 then (cruciblelaw1_NameBytes.j0 k a1 ((a0) % 256) true) else (if ((a0) % 256) = 95 then (cruciblelaw1_NameBytes.j0 k a1 ((a0) % 256) true) else (if ((a0) % 256) = 45 then (cruciblelaw1_NameBytes.j0 k a1 ((a0) % 256) true) else (cruciblelaw1_NameBytes.j0 k a1 ((a0) % 256) (((a0) % 256) == 47))))))) else (if ((a0) % 256) ≥ 48 then (if ((a0) % 256) ≤ 57 then (cruciblelaw1_NameBytes.j0 k a1 ((a0) % 256) true) else (if ((a0) % 256) = 46 then (cruciblelaw1_NameBytes.j0 k a1 ((a0) % 256) true) else (if ((a0) % 256) = 95 then (cruciblelaw1_NameBytes.j0 k a1 ((a0) % 256) true) else (if ((a0) % 256) = 45 then (cruciblelaw1_NameBytes.j0 k a1 ((a0) % 256) true) else (cruciblelaw1_NameBytes.j0 k a1 ((a0) % 256) (((a0) % 256) == 47)))))) else (if ((a0) % 256) = 46 then (cruciblelaw1_NameBytes.j0 k a1 ((a0) % 256) true) else (if ((a0) % 256) = 95 then (cruciblelaw1_NameBytes.j0 k a1 ((a0) % 256) true) else (if ((a0) % 256) = 45 then (cruciblelaw1_NameBytes.j0 k a1 ((a0) % 256) true) else (cruciblelaw1_NameBytes.j0 k a1 ((a0) % 256) (((a0) % 256) == 47))))))) else (some false))) = some r := h
  clear h
  replace H := Option.bind_eq_some_iff.mp H
  obtain ⟨t155, A30, H⟩ := H
  replace H : (if t155 = true then (if ((a0) % 256) ≥ 97 then (if ((a0) % 256) ≤ 122 then (cruciblelaw1_NameBytes.j0 k a1 ((a0) % 256) true) else (if ((a0) % 256) ≥ 48 then (if ((a0) % 256) ≤ 57 then (cruciblelaw1_NameBytes.j0 k a1 ((a0) % 256) true) else (if ((a0) % 256) = 46 then (cruciblelaw1_NameBytes.j0 k a1 ((a0) % 256) true) else (if ((a0) % 256) = 95 then (cruciblelaw1_NameBytes.j0 k a1 ((a0) % 256) true) else (if ((a0) % 256) = 45 then (cruciblelaw1_NameBytes.j0 k a1 ((a0) % 256) true) else (cruciblelaw1_NameBytes.j0 k a1 ((a0) % 256) (((a0) % 256) == 47)))))) else (if ((a0) % 256) = 46 then (cruciblelaw1_NameBytes.j0 k a1 ((a0) % 256) true) else (if ((a0) % 256) = 95 then (cruciblelaw1_NameBytes.j0 k a1 ((a0) % 256) true) else (if ((a0) % 256) = 45 then (cruciblelaw1_NameBytes.j0 k a1 ((a0) % 256) true) else (cruciblelaw1_NameBytes.j0 k a1 ((a0) % 256) (((a0) % 256) == 47))))))) else (if ((a0) % 256) ≥ 48 then (if ((a0) % 256) ≤ 57 then (cruciblelaw1_NameBytes.j0 k a1 ((a0) % 256) true) else (if ((a0) % 256) = 46 then (cruciblelaw1_NameBytes.j0 k a1 ((a0) % 256) true) else (if ((a0) % 256) = 95 then (cruciblelaw1_NameBytes.j0 k a1 ((a0) % 256) true) else (if ((a0) % 256) = 45 then (cruciblelaw1_NameBytes.j0 k a1 ((a0) % 256) true) else (cruciblelaw1_NameBytes.j0 k a1 ((a0) % 256) (((a0) % 256) == 47)))))) else (if ((a0) % 256) = 46 then (cruciblelaw1_NameBytes.j0 k a1 ((a0) % 256) true) else (if ((a0) % 256) = 95 then (cruciblelaw1_NameBytes.j0 k a1 ((a0) % 256) true) else (if ((a0) % 256) = 45 then (cruciblelaw1_NameBytes.j0 k a1 ((a0) % 256) true) else (cruciblelaw1_NameBytes.j0 k a1 ((a0) % 256) (((a0) % 256) == 47))))))) else (some false)) = some r := H
  have A3 := Aside0.mk A30
  clear A30
  by_cases c4 : t155 = true
  · subst c4
    have H1 : (if ((a0) % 256) ≥ 97 then (if ((a0) % 256) ≤ 122 then (cruciblelaw1_NameBytes.j0 k a1 ((a0) % 256) true) else (if ((a0) % 256) ≥ 48 then (if ((a0) % 256) ≤ 57 then (cruciblelaw1_NameBytes.j0 k a1 ((a0) % 256) true) else (if ((a0) % 256) = 46 then (cruciblelaw1_NameBytes.j0 k a1 ((a0) % 256) true) else (if ((a0) % 256) = 95 then (cruciblelaw1_NameBytes.j0 k a1 ((a0) % 256) true) else (if ((a0) % 256) = 45 then (cruciblelaw1_NameBytes.j0 k a1 ((a0) % 256) true) else (cruciblelaw1_NameBytes.j0 k a1 ((a0) % 256) (((a0) % 256) == 47)))))) else (if ((a0) % 256) = 46 then (cruciblelaw1_NameBytes.j0 k a1 ((a0) % 256) true) else (if ((a0) % 256) = 95 then (cruciblelaw1_NameBytes.j0 k a1 ((a0) % 256) true) else (if ((a0) % 256) = 45 then (cruciblelaw1_NameBytes.j0 k a1 ((a0) % 256) true) else (cruciblelaw1_NameBytes.j0 k a1 ((a0) % 256) (((a0) % 256) == 47))))))) else (if ((a0) % 256) ≥ 48 then (if ((a0) % 256) ≤ 57 then (cruciblelaw1_NameBytes.j0 k a1 ((a0) % 256) true) else (if ((a0) % 256) = 46 then (cruciblelaw1_NameBytes.j0 k a1 ((a0) % 256) true) else (if ((a0) % 256) = 95 then (cruciblelaw1_NameBytes.j0 k a1 ((a0) % 256) true) else (if ((a0) % 256) = 45 then (cruciblelaw1_NameBytes.j0 k a1 ((a0) % 256) true) else (cruciblelaw1_NameBytes.j0 k a1 ((a0) % 256) (((a0) % 256) == 47)))))) else (if ((a0) % 256) = 46 then (cruciblelaw1_NameBytes.j0 k a1 ((a0) % 256) true) else (if ((a0) % 256) = 95 then (cruciblelaw1_NameBytes.j0 k a1 ((a0) % 256) true) else (if ((a0) % 256) = 45 then (cruciblelaw1_NameBytes.j0 k a1 ((a0) % 256) true) else (cruciblelaw1_NameBytes.j0 k a1 ((a0) % 256) (((a0) % 256) == 47))))))) = some r := by rw [if_pos rfl] at H; exact H
    clear H
    have H := H1
    clear H1
    have HC5 := Aside0.mk H
    clear H
    go_enter Try.func5, Try.ntmps5
    go_upto_region 4 with (first | ((with_reducible refine gate_callee (f := 23) rfl ?_); refine goesL_ (some 10) rfl rfl Try.func23 (by kernel_rfl) rfl #[] rfl (by (try simp only [List.map_toArray, List.map_cons, List.map_nil]); first | done | rfl | (simp only [List.length_drop, List.length_take]; rfl)) ?_; (with_reducible refine (cruciblelaw1_awake.calls  true _ A3.out).mono ?_); rintro e w6 ⟨rfl, hb⟩; refine ⟨_, rfl, ?_⟩; have n0_ := Aside0.mk (below_step (by repeat (first | (with_reducible first | exact HB.out | apply below_alloc | apply pw_below_drewN | apply below_drew1) | exact HB.out)) hb); clear HB; have HB := n0_; clear n0_; (try clear hb); (try clear hb2); (try clear hk); (try clear hi)))
    (try simp only [Act.put, List.setIfInBounds_toArray, List.set_cons_zero, List.set_cons_succ])
    go_cut [6] (fun v6 wc => ∃ (kq : Nat) (x6_4 : Bool), v6 = .bool x6_4 ∧ Aside0 (cruciblelaw1_NameBytes.j0 kq a1 ((a0) % 256) x6_4 = some r) ∧ Aside0 (kq ≤ k) ∧ Aside0 (Below w.heap.size w wc))
    case first =>
      have H := HC5.out
      clear HC5
      by_cases c7 : ((a0) % 256) ≥ 97
      · rw [if_pos c7] at H
        have c7b0 : decide (97 ≤ ((a0) % 256)) = true := decide_eq_true c7
        clear c7
        (first | rw [c7b0] | (simp only [i64_w, i32_w]; rw [c7b0]) | skip)
        by_cases c8 : ((a0) % 256) ≤ 122
        · rw [if_pos c8] at H
          have c8b0 : decide (((a0) % 256) ≤ 122) = true := decide_eq_true c8
          clear c8
          have H' := Aside0.mk H
          clear H
          go_wp2
          go_meet
          case rel => exact ⟨_, (true), (by first | rfl | (simp; done) | (simp [*]; done)), H', ⟨by first | omega | exact Nat.le_refl _⟩, ⟨by repeat (first | (with_reducible first | exact HB.out | apply below_alloc | apply pw_below_drewN | apply below_drew1) | exact HB.out)⟩⟩
        · rw [if_neg c8] at H
          have c8b0 : decide (((a0) % 256) ≤ 122) = false := decide_eq_false c8
          clear c8
          by_cases c9 : ((a0) % 256) ≥ 48
          · rw [if_pos c9] at H
            have c9b0 : decide (48 ≤ ((a0) % 256)) = true := decide_eq_true c9
            clear c9
            by_cases c10 : ((a0) % 256) ≤ 57
            · rw [if_pos c10] at H
              have c10b0 : decide (((a0) % 256) ≤ 57) = true := decide_eq_true c10
              clear c10
              have H' := Aside0.mk H
              clear H
              go_wp2
              go_meet
              case rel => exact ⟨_, (true), (by first | rfl | (simp; done) | (simp [*]; done)), H', ⟨by first | omega | exact Nat.le_refl _⟩, ⟨by repeat (first | (with_reducible first | exact HB.out | apply below_alloc | apply pw_below_drewN | apply below_drew1) | exact HB.out)⟩⟩
            · rw [if_neg c10] at H
              have c10b0 : decide (((a0) % 256) ≤ 57) = false := decide_eq_false c10
              clear c10
              by_cases c11 : ((a0) % 256) = 46
              · rw [if_pos c11] at H
                have c11b0 : (((a0) % 256) == 46) = true := beq_iff_eq.mpr c11
                have c11b1 : (((a0) % 256) != 46) = false := bne_eq_false_iff_eq.mpr c11
                clear c11
                have H' := Aside0.mk H
                clear H
                go_wp2
                go_meet
                case rel => exact ⟨_, (true), (by first | rfl | (simp; done) | (simp [*]; done)), H', ⟨by first | omega | exact Nat.le_refl _⟩, ⟨by repeat (first | (with_reducible first | exact HB.out | apply below_alloc | apply pw_below_drewN | apply below_drew1) | exact HB.out)⟩⟩
              · rw [if_neg c11] at H
                have c11b0 : (((a0) % 256) == 46) = false := beq_eq_false_iff_ne.mpr c11
                have c11b1 : (((a0) % 256) != 46) = true := bne_iff_ne.mpr c11
                by_cases c12 : ((a0) % 256) = 95
                · rw [if_pos c12] at H
                  have c12b0 : (((a0) % 256) == 95) = true := beq_iff_eq.mpr c12
                  have c12b1 : (((a0) % 256) != 95) = false := bne_eq_false_iff_eq.mpr c12
                  clear c12
                  have H' := Aside0.mk H
                  clear H
                  go_wp2
                  go_meet
                  case rel => exact ⟨_, (true), (by first | rfl | (simp; done) | (simp [*]; done)), H', ⟨by first | omega | exact Nat.le_refl _⟩, ⟨by repeat (first | (with_reducible first | exact HB.out | apply below_alloc | apply pw_below_drewN | apply below_drew1) | exact HB.out)⟩⟩
                · rw [if_neg c12] at H
                  have c12b0 : (((a0) % 256) == 95) = false := beq_eq_false_iff_ne.mpr c12
                  have c12b1 : (((a0) % 256) != 95) = true := bne_iff_ne.mpr c12
                  by_cases c13 : ((a0) % 256) = 45
                  · rw [if_pos c13] at H
                    have c13b0 : (((a0) % 256) == 45) = true := beq_iff_eq.mpr c13
                    have c13b1 : (((a0) % 256) != 45) = false := bne_eq_false_iff_eq.mpr c13
                    clear c13
                    have H' := Aside0.mk H
                    clear H
                    go_wp2
                    go_meet
                    case rel => exact ⟨_, (true), (by first | rfl | (simp; done) | (simp [*]; done)), H', ⟨by first | omega | exact Nat.le_refl _⟩, ⟨by repeat (first | (with_reducible first | exact HB.out | apply below_alloc | apply pw_below_drewN | apply below_drew1) | exact HB.out)⟩⟩
                  · rw [if_neg c13] at H
                    have c13b0 : (((a0) % 256) == 45) = false := beq_eq_false_iff_ne.mpr c13
                    have c13b1 : (((a0) % 256) != 45) = true := bne_iff_ne.mpr c13
                    have H' := Aside0.mk H
                    clear H
                    go_wp2
                    go_meet
                    case rel => exact ⟨_, ((((a0) % 256) == 47)), (by first | rfl | (simp; done) | (simp [*]; done)), H', ⟨by first | omega | exact Nat.le_refl _⟩, ⟨by repeat (first | (with_reducible first | exact HB.out | apply below_alloc | apply pw_below_drewN | apply below_drew1) | exact HB.out)⟩⟩
          · rw [if_neg c9] at H
            have c9b0 : decide (48 ≤ ((a0) % 256)) = false := decide_eq_false c9
            clear c9
            by_cases c14 : ((a0) % 256) = 46
            · rw [if_pos c14] at H
              have c14b0 : (((a0) % 256) == 46) = true := beq_iff_eq.mpr c14
              have c14b1 : (((a0) % 256) != 46) = false := bne_eq_false_iff_eq.mpr c14
              clear c14
              have H' := Aside0.mk H
              clear H
              go_wp2
              go_meet
              case rel => exact ⟨_, (true), (by first | rfl | (simp; done) | (simp [*]; done)), H', ⟨by first | omega | exact Nat.le_refl _⟩, ⟨by repeat (first | (with_reducible first | exact HB.out | apply below_alloc | apply pw_below_drewN | apply below_drew1) | exact HB.out)⟩⟩
            · rw [if_neg c14] at H
              have c14b0 : (((a0) % 256) == 46) = false := beq_eq_false_iff_ne.mpr c14
              have c14b1 : (((a0) % 256) != 46) = true := bne_iff_ne.mpr c14
              by_cases c15 : ((a0) % 256) = 95
              · rw [if_pos c15] at H
                have c15b0 : (((a0) % 256) == 95) = true := beq_iff_eq.mpr c15
                have c15b1 : (((a0) % 256) != 95) = false := bne_eq_false_iff_eq.mpr c15
                clear c15
                have H' := Aside0.mk H
                clear H
                go_wp2
                go_meet
                case rel => exact ⟨_, (true), (by first | rfl | (simp; done) | (simp [*]; done)), H', ⟨by first | omega | exact Nat.le_refl _⟩, ⟨by repeat (first | (with_reducible first | exact HB.out | apply below_alloc | apply pw_below_drewN | apply below_drew1) | exact HB.out)⟩⟩
              · rw [if_neg c15] at H
                have c15b0 : (((a0) % 256) == 95) = false := beq_eq_false_iff_ne.mpr c15
                have c15b1 : (((a0) % 256) != 95) = true := bne_iff_ne.mpr c15
                by_cases c16 : ((a0) % 256) = 45
                · rw [if_pos c16] at H
                  have c16b0 : (((a0) % 256) == 45) = true := beq_iff_eq.mpr c16
                  have c16b1 : (((a0) % 256) != 45) = false := bne_eq_false_iff_eq.mpr c16
                  clear c16
                  have H' := Aside0.mk H
                  clear H
                  go_wp2
                  go_meet
                  case rel => exact ⟨_, (true), (by first | rfl | (simp; done) | (simp [*]; done)), H', ⟨by first | omega | exact Nat.le_refl _⟩, ⟨by repeat (first | (with_reducible first | exact HB.out | apply below_alloc | apply pw_below_drewN | apply below_drew1) | exact HB.out)⟩⟩
                · rw [if_neg c16] at H
                  have c16b0 : (((a0) % 256) == 45) = false := beq_eq_false_iff_ne.mpr c16
                  have c16b1 : (((a0) % 256) != 45) = true := bne_iff_ne.mpr c16
                  have H' := Aside0.mk H
                  clear H
                  go_wp2
                  go_meet
                  case rel => exact ⟨_, ((((a0) % 256) == 47)), (by first | rfl | (simp; done) | (simp [*]; done)), H', ⟨by first | omega | exact Nat.le_refl _⟩, ⟨by repeat (first | (with_reducible first | exact HB.out | apply below_alloc | apply pw_below_drewN | apply below_drew1) | exact HB.out)⟩⟩
      · rw [if_neg c7] at H
        have c7b0 : decide (97 ≤ ((a0) % 256)) = false := decide_eq_false c7
        clear c7
        (first | rw [c7b0] | (simp only [i64_w, i32_w]; rw [c7b0]) | skip)
        by_cases c17 : ((a0) % 256) ≥ 48
        · rw [if_pos c17] at H
          have c17b0 : decide (48 ≤ ((a0) % 256)) = true := decide_eq_true c17
          clear c17
          by_cases c18 : ((a0) % 256) ≤ 57
          · rw [if_pos c18] at H
            have c18b0 : decide (((a0) % 256) ≤ 57) = true := decide_eq_true c18
            clear c18
            have H' := Aside0.mk H
            clear H
            go_wp2
            go_meet
            case rel => exact ⟨_, (true), (by first | rfl | (simp; done) | (simp [*]; done)), H', ⟨by first | omega | exact Nat.le_refl _⟩, ⟨by repeat (first | (with_reducible first | exact HB.out | apply below_alloc | apply pw_below_drewN | apply below_drew1) | exact HB.out)⟩⟩
          · rw [if_neg c18] at H
            have c18b0 : decide (((a0) % 256) ≤ 57) = false := decide_eq_false c18
            clear c18
            by_cases c19 : ((a0) % 256) = 46
            · rw [if_pos c19] at H
              have c19b0 : (((a0) % 256) == 46) = true := beq_iff_eq.mpr c19
              have c19b1 : (((a0) % 256) != 46) = false := bne_eq_false_iff_eq.mpr c19
              clear c19
              have H' := Aside0.mk H
              clear H
              go_wp2
              go_meet
              case rel => exact ⟨_, (true), (by first | rfl | (simp; done) | (simp [*]; done)), H', ⟨by first | omega | exact Nat.le_refl _⟩, ⟨by repeat (first | (with_reducible first | exact HB.out | apply below_alloc | apply pw_below_drewN | apply below_drew1) | exact HB.out)⟩⟩
            · rw [if_neg c19] at H
              have c19b0 : (((a0) % 256) == 46) = false := beq_eq_false_iff_ne.mpr c19
              have c19b1 : (((a0) % 256) != 46) = true := bne_iff_ne.mpr c19
              by_cases c20 : ((a0) % 256) = 95
              · rw [if_pos c20] at H
                have c20b0 : (((a0) % 256) == 95) = true := beq_iff_eq.mpr c20
                have c20b1 : (((a0) % 256) != 95) = false := bne_eq_false_iff_eq.mpr c20
                clear c20
                have H' := Aside0.mk H
                clear H
                go_wp2
                go_meet
                case rel => exact ⟨_, (true), (by first | rfl | (simp; done) | (simp [*]; done)), H', ⟨by first | omega | exact Nat.le_refl _⟩, ⟨by repeat (first | (with_reducible first | exact HB.out | apply below_alloc | apply pw_below_drewN | apply below_drew1) | exact HB.out)⟩⟩
              · rw [if_neg c20] at H
                have c20b0 : (((a0) % 256) == 95) = false := beq_eq_false_iff_ne.mpr c20
                have c20b1 : (((a0) % 256) != 95) = true := bne_iff_ne.mpr c20
                by_cases c21 : ((a0) % 256) = 45
                · rw [if_pos c21] at H
                  have c21b0 : (((a0) % 256) == 45) = true := beq_iff_eq.mpr c21
                  have c21b1 : (((a0) % 256) != 45) = false := bne_eq_false_iff_eq.mpr c21
                  clear c21
                  have H' := Aside0.mk H
                  clear H
                  go_wp2
                  go_meet
                  case rel => exact ⟨_, (true), (by first | rfl | (simp; done) | (simp [*]; done)), H', ⟨by first | omega | exact Nat.le_refl _⟩, ⟨by repeat (first | (with_reducible first | exact HB.out | apply below_alloc | apply pw_below_drewN | apply below_drew1) | exact HB.out)⟩⟩
                · rw [if_neg c21] at H
                  have c21b0 : (((a0) % 256) == 45) = false := beq_eq_false_iff_ne.mpr c21
                  have c21b1 : (((a0) % 256) != 45) = true := bne_iff_ne.mpr c21
                  have H' := Aside0.mk H
                  clear H
                  go_wp2
                  go_meet
                  case rel => exact ⟨_, ((((a0) % 256) == 47)), (by first | rfl | (simp; done) | (simp [*]; done)), H', ⟨by first | omega | exact Nat.le_refl _⟩, ⟨by repeat (first | (with_reducible first | exact HB.out | apply below_alloc | apply pw_below_drewN | apply below_drew1) | exact HB.out)⟩⟩
        · rw [if_neg c17] at H
          have c17b0 : decide (48 ≤ ((a0) % 256)) = false := decide_eq_false c17
          clear c17
          by_cases c22 : ((a0) % 256) = 46
          · rw [if_pos c22] at H
            have c22b0 : (((a0) % 256) == 46) = true := beq_iff_eq.mpr c22
            have c22b1 : (((a0) % 256) != 46) = false := bne_eq_false_iff_eq.mpr c22
            clear c22
            have H' := Aside0.mk H
            clear H
            go_wp2
            go_meet
            case rel => exact ⟨_, (true), (by first | rfl | (simp; done) | (simp [*]; done)), H', ⟨by first | omega | exact Nat.le_refl _⟩, ⟨by repeat (first | (with_reducible first | exact HB.out | apply below_alloc | apply pw_below_drewN | apply below_drew1) | exact HB.out)⟩⟩
          · rw [if_neg c22] at H
            have c22b0 : (((a0) % 256) == 46) = false := beq_eq_false_iff_ne.mpr c22
            have c22b1 : (((a0) % 256) != 46) = true := bne_iff_ne.mpr c22
            by_cases c23 : ((a0) % 256) = 95
            · rw [if_pos c23] at H
              have c23b0 : (((a0) % 256) == 95) = true := beq_iff_eq.mpr c23
              have c23b1 : (((a0) % 256) != 95) = false := bne_eq_false_iff_eq.mpr c23
              clear c23
              have H' := Aside0.mk H
              clear H
              go_wp2
              go_meet
              case rel => exact ⟨_, (true), (by first | rfl | (simp; done) | (simp [*]; done)), H', ⟨by first | omega | exact Nat.le_refl _⟩, ⟨by repeat (first | (with_reducible first | exact HB.out | apply below_alloc | apply pw_below_drewN | apply below_drew1) | exact HB.out)⟩⟩
            · rw [if_neg c23] at H
              have c23b0 : (((a0) % 256) == 95) = false := beq_eq_false_iff_ne.mpr c23
              have c23b1 : (((a0) % 256) != 95) = true := bne_iff_ne.mpr c23
              by_cases c24 : ((a0) % 256) = 45
              · rw [if_pos c24] at H
                have c24b0 : (((a0) % 256) == 45) = true := beq_iff_eq.mpr c24
                have c24b1 : (((a0) % 256) != 45) = false := bne_eq_false_iff_eq.mpr c24
                clear c24
                have H' := Aside0.mk H
                clear H
                go_wp2
                go_meet
                case rel => exact ⟨_, (true), (by first | rfl | (simp; done) | (simp [*]; done)), H', ⟨by first | omega | exact Nat.le_refl _⟩, ⟨by repeat (first | (with_reducible first | exact HB.out | apply below_alloc | apply pw_below_drewN | apply below_drew1) | exact HB.out)⟩⟩
              · rw [if_neg c24] at H
                have c24b0 : (((a0) % 256) == 45) = false := beq_eq_false_iff_ne.mpr c24
                have c24b1 : (((a0) % 256) != 45) = true := bne_iff_ne.mpr c24
                have H' := Aside0.mk H
                clear H
                go_wp2
                go_meet
                case rel => exact ⟨_, ((((a0) % 256) == 47)), (by first | rfl | (simp; done) | (simp [*]; done)), H', ⟨by first | omega | exact Nat.le_refl _⟩, ⟨by repeat (first | (with_reducible first | exact HB.out | apply below_alloc | apply pw_below_drewN | apply below_drew1) | exact HB.out)⟩⟩
    case rest =>
      clear HC5
      try clear c1
      try clear c2
      try clear p2
      try clear c4
      try clear c5
      try clear c7
      try clear c7b0
      try clear c8
      try clear c8b0
      try clear c9
      try clear c9b0
      try clear c10
      try clear c10b0
      try clear c11
      try clear c11b0
      try clear c11b1
      try clear c12
      try clear c12b0
      try clear c12b1
      try clear c13
      try clear c13b0
      try clear c13b1
      try clear c14
      try clear c14b0
      try clear c14b1
      try clear c15
      try clear c15b0
      try clear c15b1
      try clear c16
      try clear c16b0
      try clear c16b1
      try clear c17
      try clear c17b0
      try clear c18
      try clear c18b0
      try clear c19
      try clear c19b0
      try clear c19b1
      try clear c20
      try clear c20b0
      try clear c20b1
      try clear c21
      try clear c21b0
      try clear c21b1
      try clear c22
      try clear c22b0
      try clear c22b1
      try clear c23
      try clear c23b0
      try clear c23b1
      try clear c24
      try clear c24b0
      try clear c24b1
      obtain ⟨kq, x6_4, rfl, HA, HJ4, HB⟩ := hcut
      cases kq with
      | zero => exact absurd HA.out (by simp [cruciblelaw1_NameBytes.j0])
      | succ kj4 =>
        have H := HA.out
        clear HA
        simp only [cruciblelaw1_NameBytes.j0] at H
        have H' := Aside0.mk H
        clear H
        go_wp2
        go_loopg [8, 9] kj4 (fun kq v8 v9 w' => ∃ (x8_2 : ByteArray) (x9_2 : Int), v8 = .string x8_2 ∧ v9 = .int .i64 x9_2 ∧ Aside0 (cruciblelaw1_NameBytes.l0 kq ((a0) % 256) x6_4 (Go.bits .and .i64 a1 31) x8_2 x9_2 = some r) ∧ Aside0 (kq ≤ kj4) ∧ Aside0 (Below w.heap.size w w'))
        case atStart => exact ⟨((⟨#[]⟩ : ByteArray)), (0), (by first | rfl | (simp; done) | (simp [*]; done)), (by first | rfl | (simp; done) | (simp [*]; done)), H', ⟨Nat.le_refl _⟩, ⟨by repeat (first | (with_reducible first | exact HB.out | apply below_alloc | apply pw_below_drewN | apply below_drew1) | exact HB.out)⟩⟩
        case round =>
          clear H'
          try clear c1
          try clear c2
          try clear p2
          try clear c4
          try clear c5
          try clear c7
          try clear c7b0
          try clear c8
          try clear c8b0
          try clear c9
          try clear c9b0
          try clear c10
          try clear c10b0
          try clear c11
          try clear c11b0
          try clear c11b1
          try clear c12
          try clear c12b0
          try clear c12b1
          try clear c13
          try clear c13b0
          try clear c13b1
          try clear c14
          try clear c14b0
          try clear c14b1
          try clear c15
          try clear c15b0
          try clear c15b1
          try clear c16
          try clear c16b0
          try clear c16b1
          try clear c17
          try clear c17b0
          try clear c18
          try clear c18b0
          try clear c19
          try clear c19b0
          try clear c19b1
          try clear c20
          try clear c20b0
          try clear c20b1
          try clear c21
          try clear c21b0
          try clear c21b1
          try clear c22
          try clear c22b0
          try clear c22b1
          try clear c23
          try clear c23b0
          try clear c23b1
          try clear c24
          try clear c24b0
          try clear c24b1
          try clear p2
          obtain ⟨x8_2, x9_2, rfl, rfl, HA, HK2, HB⟩ := hrel
          cases gk with
          | zero => exact absurd HA.out (by simp [cruciblelaw1_NameBytes.l0])
          | succ k2 =>
            have H := HA.out
            clear HA
            simp only [cruciblelaw1_NameBytes.l0] at H
            by_cases c25 : x9_2 < (Go.bits .and .i64 a1 31)
            · rw [if_pos c25] at H
              have c25b0 : decide (x9_2 < (Go.bits .and .i64 a1 31)) = true := decide_eq_true c25
              clear c25
              obtain ⟨y156, hy156⟩ : ∃ y_ : List Int, y_ = (([((a0) % 256)] : List Int)) := ⟨_, rfl⟩
              replace H : (if x8_2.size + (strOfNums y156).size ≤ 9223372036854775807 then (cruciblelaw1_NameBytes.l0 k2 ((a0) % 256) x6_4 (Go.bits .and .i64 a1 31) (x8_2 ++ (strOfNums y156)) (wrap64 (x9_2 + 1))) else (none)) = some r := by first | (rw [hy156]; with_reducible exact H) | (have H2_ := (Option.bind_some _ _).symm.trans H; rw [hy156]; with_reducible exact H2_) | (have H2_ := (Option.bind_some _ _).symm.trans H; with_reducible exact H2_) | with_reducible exact H | (rw [hy156]; exact H) | exact H
              have Ny156 := Aside0.mk hy156
              clear hy156
              by_cases c26 : x8_2.size + (strOfNums y156).size ≤ 9223372036854775807
              · rw [if_pos c26] at H
                have c26b0 := eq_true c26
                have c26b1 : decide (x8_2.size + (strOfNums y156).size ≤ 9223372036854775807) = true := decide_eq_true c26
                try have c26b2 : (9223372036854775807 < x8_2.size + (strOfNums y156).size) = False := eq_false (Nat.not_lt.2 c26)
                have H' := Aside0.mk H
                clear H
                go_wp2_with (first | ((with_reducible refine gate_dst (N := 53) rfl ?_); (try (refine gate_guard (by rfl) ?_; dsimp only)); refine Kd.R_lit (Kd.int .u8) _ 5 ?hg (N := 53) ?hd (xs := ([((a0) % 256)] : List Int)) (inner := [.int .u8 ((a0) % 256)]) (ok := fun _ => True) (okp := fun _ => True) ?hr ?hp (fun _ hk => hk) trivial (Below.refl _ _) (Nat.le_refl _) (by simp) ?_; (case hd => rfl); (case hg => rfl); (case hr => first | (go_simp; done) | (go_simp; rfl)); (case hp => exact (Reps.one (show Kd.M (Kd.int .u8) _ _ _ ((a0) % 256) [.int .u8 ((a0) % 256)] from rfl) (Reps.none _ _))); intro v157 w27 ho28 hb hg_ hnew_; clear hg_ hnew_; (first | rw [← Ny156.out] at ho28 | (simp only [Int.reduceToNat] at ho28; rw [← Ny156.out] at ho28)); have n0_ := Aside0.mk (Kd.R_lower ho28 (below_size (by repeat (first | (with_reducible first | exact HB.out | apply below_alloc | apply pw_below_drewN | apply below_drew1) | exact HB.out)))); have n1_ := Aside0.mk (below_step (by repeat (first | (with_reducible first | exact HB.out | apply below_alloc | apply pw_below_drewN | apply below_drew1) | exact HB.out)) hb); clear HB; have HO158 := n0_; have HB := n1_; clear n0_ n1_; clear hb ho28; have hcv29 := own_string (P := Try.prog) Try.underlying26 Try.underlying5 Try.underlying9 (Kd.own_of_R HO158.out)))
                go_roundg k2
                case measure => have := HJ4.out; have := HK2.out; omega
                case rel => exact ⟨(x8_2 ++ (strOfNums y156)), (wrap64 (x9_2 + 1)), (by first | rfl | (simp; done) | (simp [*]; done)), (by first | rfl | (simp; done) | (simp [*]; done)), H', ⟨by have := HJ4.out; have := HK2.out; omega⟩, ⟨by repeat (first | (with_reducible first | exact HB.out | apply below_alloc | apply pw_below_drewN | apply below_drew1) | exact HB.out)⟩⟩
              · rw [if_neg c26] at H
                exact absurd H (by simp)
            · rw [if_neg c25] at H
              have c25b0 : decide (x9_2 < (Go.bits .and .i64 a1 31)) = false := decide_eq_false c25
              clear c25
              replace H := Option.bind_eq_some_iff.mp H
              obtain ⟨t159, A300, H⟩ := H
              replace H : (if t159 = 0 then ((name_May.f x8_2).bind fun t160 => (if x6_4 = true then (if (Go.bits .and .i64 a1 31) ≥ 1 then (if (t160 == (decide ((Go.bits .and .i64 a1 31) ≤ 16))) = true then ((some (([((a0) % 256)] : List Int) : List Int)).bind fun y161 => (if 1 + (strOfNums y161).size ≤ 9223372036854775807 then ((name_May.f ((⟨#[97]⟩ : ByteArray) ++ (strOfNums y161))).bind fun t164 => (some (t164 == x6_4))) else (none))) else (some false)) else (if (t160 == false) = true then ((some (([((a0) % 256)] : List Int) : List Int)).bind fun y165 => (if 1 + (strOfNums y165).size ≤ 9223372036854775807 then ((name_May.f ((⟨#[97]⟩ : ByteArray) ++ (strOfNums y165))).bind fun t168 => (some (t168 == x6_4))) else (none))) else (some false))) else (if (t160 == false) = true then ((some (([((a0) % 256)] : List Int) : List Int)).bind fun y169 => (if 1 + (strOfNums y169).size ≤ 9223372036854775807 then ((name_May.f ((⟨#[97]⟩ : ByteArray) ++ (strOfNums y169))).bind fun t172 => (some (t172 == x6_4))) else (none))) else (some false)))) else (some false)) = some r := H
              have A30 := Aside0.mk A300
              clear A300
              by_cases c31 : t159 = 0
              · rw [if_pos c31] at H
                have c31b0 : (t159 == 0) = true := beq_iff_eq.mpr c31
                have c31b1 : (t159 != 0) = false := bne_eq_false_iff_eq.mpr c31
                clear c31
                replace H := Option.bind_eq_some_iff.mp H
                obtain ⟨t160, A320, H⟩ := H
                replace H : (if x6_4 = true then (if (Go.bits .and .i64 a1 31) ≥ 1 then (if (t160 == (decide ((Go.bits .and .i64 a1 31) ≤ 16))) = true then ((some (([((a0) % 256)] : List Int) : List Int)).bind fun y161 => (if 1 + (strOfNums y161).size ≤ 9223372036854775807 then ((name_May.f ((⟨#[97]⟩ : ByteArray) ++ (strOfNums y161))).bind fun t164 => (some (t164 == x6_4))) else (none))) else (some false)) else (if (t160 == false) = true then ((some (([((a0) % 256)] : List Int) : List Int)).bind fun y165 => (if 1 + (strOfNums y165).size ≤ 9223372036854775807 then ((name_May.f ((⟨#[97]⟩ : ByteArray) ++ (strOfNums y165))).bind fun t168 => (some (t168 == x6_4))) else (none))) else (some false))) else (if (t160 == false) = true then ((some (([((a0) % 256)] : List Int) : List Int)).bind fun y169 => (if 1 + (strOfNums y169).size ≤ 9223372036854775807 then ((name_May.f ((⟨#[97]⟩ : ByteArray) ++ (strOfNums y169))).bind fun t172 => (some (t172 == x6_4))) else (none))) else (some false))) = some r := H
                have A32 := Aside0.mk A320
                clear A320
                by_cases c33 : x6_4 = true
                · subst c33
                  have H1 : (if (Go.bits .and .i64 a1 31) ≥ 1 then (if (t160 == (decide ((Go.bits .and .i64 a1 31) ≤ 16))) = true then ((some (([((a0) % 256)] : List Int) : List Int)).bind fun y161 => (if 1 + (strOfNums y161).size ≤ 9223372036854775807 then ((name_May.f ((⟨#[97]⟩ : ByteArray) ++ (strOfNums y161))).bind fun t164 => (some (t164 == true))) else (none))) else (some false)) else (if (t160 == false) = true then ((some (([((a0) % 256)] : List Int) : List Int)).bind fun y165 => (if 1 + (strOfNums y165).size ≤ 9223372036854775807 then ((name_May.f ((⟨#[97]⟩ : ByteArray) ++ (strOfNums y165))).bind fun t168 => (some (t168 == true))) else (none))) else (some false))) = some r := by rw [if_pos rfl] at H; exact H
                  clear H
                  have H := H1
                  clear H1
                  by_cases c34 : (Go.bits .and .i64 a1 31) ≥ 1
                  · rw [if_pos c34] at H
                    have c34b0 : decide (1 ≤ (Go.bits .and .i64 a1 31)) = true := decide_eq_true c34
                    clear c34
                    by_cases c35 : (t160 == (decide ((Go.bits .and .i64 a1 31) ≤ 16))) = true
                    · rw [if_pos c35] at H
                      have c35b0 : (t160 == (decide ((Go.bits .and .i64 a1 31) ≤ 16))) = true := c35
                      (try (have c35b1 : decide (t160 = (decide ((Go.bits .and .i64 a1 31) ≤ 16))) = true := by simpa using c35))
                      (try (have c35b2 : (t160 == (decide ((Go.bits .and .i64 a1 31) ≤ 16))) = true := by simpa using c35))
                      clear c35
                      obtain ⟨y161, hy161⟩ : ∃ y_ : List Int, y_ = (([((a0) % 256)] : List Int)) := ⟨_, rfl⟩
                      replace H : (if 1 + (strOfNums y161).size ≤ 9223372036854775807 then ((name_May.f ((⟨#[97]⟩ : ByteArray) ++ (strOfNums y161))).bind fun t164 => (some (t164 == true))) else (none)) = some r := by first | (rw [hy161]; with_reducible exact H) | (have H2_ := (Option.bind_some _ _).symm.trans H; rw [hy161]; with_reducible exact H2_) | (have H2_ := (Option.bind_some _ _).symm.trans H; with_reducible exact H2_) | with_reducible exact H | (rw [hy161]; exact H) | exact H
                      have Ny161 := Aside0.mk hy161
                      clear hy161
                      by_cases c36 : 1 + (strOfNums y161).size ≤ 9223372036854775807
                      · rw [if_pos c36] at H
                        have c36b0 := eq_true c36
                        have c36b1 : decide (1 + (strOfNums y161).size ≤ 9223372036854775807) = true := decide_eq_true c36
                        try have c36b2 : (9223372036854775807 < 1 + (strOfNums y161).size) = False := eq_false (Nat.not_lt.2 c36)
                        replace H := Option.bind_eq_some_iff.mp H
                        obtain ⟨t164, A370, H⟩ := H
                        replace H : (some (t164 == true)) = some r := H
                        have A37 := Aside0.mk A370
                        clear A370
                        obtain rfl := Option.some.inj H
                        go_wp2_with (first | ((with_reducible refine gate_callee (f := 20) rfl ?_); refine goesL_ (some 56) rfl rfl Try.func20 (by kernel_rfl) rfl #[.int .i64 0] rfl (by (try simp only [List.map_toArray, List.map_cons, List.map_nil]); first | done | rfl | (simp only [List.length_drop, List.length_take]; rfl)) ?_; (with_reducible refine (cruciblelaw0_Num.calls 0 t159 _ A30.out).mono ?_); rintro e w' ⟨rfl, ⟨nd, rfl⟩⟩; refine ⟨_, rfl, ?_⟩) | (go_at_call 21; (with_reducible refine (name_May.calls x8_2 t160 _ A32.out).mono ?_); rintro e w38 ⟨rfl, hb⟩; have n0_ := Aside0.mk (below_step (by repeat (first | (with_reducible first | exact HB.out | apply below_alloc | apply pw_below_drewN | apply below_drew1) | exact HB.out)) hb); clear HB; have HB := n0_; clear n0_; (try clear hb); (try clear hb2); (try clear hk); (try clear hi)) | ((with_reducible refine gate_dst (N := 74) rfl ?_); (try (refine gate_guard (by rfl) ?_; dsimp only)); refine Kd.R_lit (Kd.int .u8) _ 5 ?hg (N := 74) ?hd (xs := ([((a0) % 256)] : List Int)) (inner := [.int .u8 ((a0) % 256)]) (ok := fun _ => True) (okp := fun _ => True) ?hr ?hp (fun _ hk => hk) trivial (Below.refl _ _) (Nat.le_refl _) (by simp) ?_; (case hd => rfl); (case hg => rfl); (case hr => first | (go_simp; done) | (go_simp; rfl)); (case hp => exact (Reps.one (show Kd.M (Kd.int .u8) _ _ _ ((a0) % 256) [.int .u8 ((a0) % 256)] from rfl) (Reps.none _ _))); intro v162 w39 ho40 hb hg_ hnew_; clear hg_ hnew_; (first | rw [← Ny161.out] at ho40 | (simp only [Int.reduceToNat] at ho40; rw [← Ny161.out] at ho40)); have n0_ := Aside0.mk (Kd.R_lower ho40 (below_size (by repeat (first | (with_reducible first | exact HB.out | apply below_alloc | apply pw_below_drewN | apply below_drew1) | exact HB.out)))); have n1_ := Aside0.mk (below_step (by repeat (first | (with_reducible first | exact HB.out | apply below_alloc | apply pw_below_drewN | apply below_drew1) | exact HB.out)) hb); clear HB; have HO163 := n0_; have HB := n1_; clear n0_ n1_; clear hb ho40; have hcv41 := own_string (P := Try.prog) Try.underlying26 Try.underlying5 Try.underlying9 (Kd.own_of_R HO163.out)) | (go_at_call 21; (with_reducible refine (name_May.calls ((⟨#[97]⟩ : ByteArray) ++ (strOfNums y161)) t164 _ A37.out).mono ?_); rintro e w42 ⟨rfl, hb⟩; have n0_ := Aside0.mk (Kd.R_below (by (with_reducible repeat (first | apply Kd.R_alloc | apply Kd.R_drewN | apply Kd.R_drew)); exact HO163.out) hb); have n1_ := Aside0.mk (below_step (by repeat (first | (with_reducible first | exact HB.out | apply below_alloc | apply pw_below_drewN | apply below_drew1) | exact HB.out)) hb); clear HO163; clear HB; have HO163 := n0_; have HB := n1_; clear n0_ n1_; (try clear hb); (try clear hb2); (try clear hk); (try clear hi)))
                        go_ret
                        exact ⟨by first | rfl | (simp [errW_none, errW_some] <;> rfl) | (simp [*, errW_none, errW_some] <;> rfl), by repeat (first | (with_reducible first | exact HB.out | apply below_alloc | apply pw_below_drewN | apply below_drew1) | exact HB.out)⟩
                      · rw [if_neg c36] at H
                        exact absurd H (by simp)
                    · rw [if_neg c35] at H
                      have c35b0 : (t160 == (decide ((Go.bits .and .i64 a1 31) ≤ 16))) = false := by simpa using c35
                      (try (have c35b1 : decide (t160 = (decide ((Go.bits .and .i64 a1 31) ≤ 16))) = false := by simpa using c35))
                      (try (have c35b2 : (t160 == (decide ((Go.bits .and .i64 a1 31) ≤ 16))) = false := by simpa using c35))
                      (try (have c35b3 : ¬ (t160 = (decide ((Go.bits .and .i64 a1 31) ≤ 16))) := by simpa using c35))
                      clear c35
                      obtain rfl := Option.some.inj H
                      go_wp2_with (first | ((with_reducible refine gate_callee (f := 20) rfl ?_); refine goesL_ (some 56) rfl rfl Try.func20 (by kernel_rfl) rfl #[.int .i64 0] rfl (by (try simp only [List.map_toArray, List.map_cons, List.map_nil]); first | done | rfl | (simp only [List.length_drop, List.length_take]; rfl)) ?_; (with_reducible refine (cruciblelaw0_Num.calls 0 t159 _ A30.out).mono ?_); rintro e w' ⟨rfl, ⟨nd, rfl⟩⟩; refine ⟨_, rfl, ?_⟩) | (go_at_call 21; (with_reducible refine (name_May.calls x8_2 t160 _ A32.out).mono ?_); rintro e w43 ⟨rfl, hb⟩; have n0_ := Aside0.mk (below_step (by repeat (first | (with_reducible first | exact HB.out | apply below_alloc | apply pw_below_drewN | apply below_drew1) | exact HB.out)) hb); clear HB; have HB := n0_; clear n0_; (try clear hb); (try clear hb2); (try clear hk); (try clear hi)))
                      go_ret
                      exact ⟨by first | rfl | (simp [errW_none, errW_some] <;> rfl) | (simp [*, errW_none, errW_some] <;> rfl), by repeat (first | (with_reducible first | exact HB.out | apply below_alloc | apply pw_below_drewN | apply below_drew1) | exact HB.out)⟩
                  · rw [if_neg c34] at H
                    have c34b0 : decide (1 ≤ (Go.bits .and .i64 a1 31)) = false := decide_eq_false c34
                    clear c34
                    by_cases c44 : (t160 == false) = true
                    · rw [if_pos c44] at H
                      have c44b0 : (t160 == false) = true := c44
                      (try (have c44b1 : decide (t160 = false) = true := by simpa using c44))
                      (try (have c44b2 : (t160 == false) = true := by simpa using c44))
                      clear c44
                      obtain ⟨y165, hy165⟩ : ∃ y_ : List Int, y_ = (([((a0) % 256)] : List Int)) := ⟨_, rfl⟩
                      replace H : (if 1 + (strOfNums y165).size ≤ 9223372036854775807 then ((name_May.f ((⟨#[97]⟩ : ByteArray) ++ (strOfNums y165))).bind fun t168 => (some (t168 == true))) else (none)) = some r := by first | (rw [hy165]; with_reducible exact H) | (have H2_ := (Option.bind_some _ _).symm.trans H; rw [hy165]; with_reducible exact H2_) | (have H2_ := (Option.bind_some _ _).symm.trans H; with_reducible exact H2_) | with_reducible exact H | (rw [hy165]; exact H) | exact H
                      have Ny165 := Aside0.mk hy165
                      clear hy165
                      by_cases c45 : 1 + (strOfNums y165).size ≤ 9223372036854775807
                      · rw [if_pos c45] at H
                        have c45b0 := eq_true c45
                        have c45b1 : decide (1 + (strOfNums y165).size ≤ 9223372036854775807) = true := decide_eq_true c45
                        try have c45b2 : (9223372036854775807 < 1 + (strOfNums y165).size) = False := eq_false (Nat.not_lt.2 c45)
                        replace H := Option.bind_eq_some_iff.mp H
                        obtain ⟨t168, A460, H⟩ := H
                        replace H : (some (t168 == true)) = some r := H
                        have A46 := Aside0.mk A460
                        clear A460
                        obtain rfl := Option.some.inj H
                        go_wp2_with (first | ((with_reducible refine gate_callee (f := 20) rfl ?_); refine goesL_ (some 56) rfl rfl Try.func20 (by kernel_rfl) rfl #[.int .i64 0] rfl (by (try simp only [List.map_toArray, List.map_cons, List.map_nil]); first | done | rfl | (simp only [List.length_drop, List.length_take]; rfl)) ?_; (with_reducible refine (cruciblelaw0_Num.calls 0 t159 _ A30.out).mono ?_); rintro e w' ⟨rfl, ⟨nd, rfl⟩⟩; refine ⟨_, rfl, ?_⟩) | (go_at_call 21; (with_reducible refine (name_May.calls x8_2 t160 _ A32.out).mono ?_); rintro e w47 ⟨rfl, hb⟩; have n0_ := Aside0.mk (below_step (by repeat (first | (with_reducible first | exact HB.out | apply below_alloc | apply pw_below_drewN | apply below_drew1) | exact HB.out)) hb); clear HB; have HB := n0_; clear n0_; (try clear hb); (try clear hb2); (try clear hk); (try clear hi)) | ((with_reducible refine gate_dst (N := 74) rfl ?_); (try (refine gate_guard (by rfl) ?_; dsimp only)); refine Kd.R_lit (Kd.int .u8) _ 5 ?hg (N := 74) ?hd (xs := ([((a0) % 256)] : List Int)) (inner := [.int .u8 ((a0) % 256)]) (ok := fun _ => True) (okp := fun _ => True) ?hr ?hp (fun _ hk => hk) trivial (Below.refl _ _) (Nat.le_refl _) (by simp) ?_; (case hd => rfl); (case hg => rfl); (case hr => first | (go_simp; done) | (go_simp; rfl)); (case hp => exact (Reps.one (show Kd.M (Kd.int .u8) _ _ _ ((a0) % 256) [.int .u8 ((a0) % 256)] from rfl) (Reps.none _ _))); intro v166 w48 ho49 hb hg_ hnew_; clear hg_ hnew_; (first | rw [← Ny165.out] at ho49 | (simp only [Int.reduceToNat] at ho49; rw [← Ny165.out] at ho49)); have n0_ := Aside0.mk (Kd.R_lower ho49 (below_size (by repeat (first | (with_reducible first | exact HB.out | apply below_alloc | apply pw_below_drewN | apply below_drew1) | exact HB.out)))); have n1_ := Aside0.mk (below_step (by repeat (first | (with_reducible first | exact HB.out | apply below_alloc | apply pw_below_drewN | apply below_drew1) | exact HB.out)) hb); clear HB; have HO167 := n0_; have HB := n1_; clear n0_ n1_; clear hb ho49; have hcv50 := own_string (P := Try.prog) Try.underlying26 Try.underlying5 Try.underlying9 (Kd.own_of_R HO167.out)) | (go_at_call 21; (with_reducible refine (name_May.calls ((⟨#[97]⟩ : ByteArray) ++ (strOfNums y165)) t168 _ A46.out).mono ?_); rintro e w51 ⟨rfl, hb⟩; have n0_ := Aside0.mk (Kd.R_below (by (with_reducible repeat (first | apply Kd.R_alloc | apply Kd.R_drewN | apply Kd.R_drew)); exact HO167.out) hb); have n1_ := Aside0.mk (below_step (by repeat (first | (with_reducible first | exact HB.out | apply below_alloc | apply pw_below_drewN | apply below_drew1) | exact HB.out)) hb); clear HO167; clear HB; have HO167 := n0_; have HB := n1_; clear n0_ n1_; (try clear hb); (try clear hb2); (try clear hk); (try clear hi)))
                        go_ret
                        exact ⟨by first | rfl | (simp [errW_none, errW_some] <;> rfl) | (simp [*, errW_none, errW_some] <;> rfl), by repeat (first | (with_reducible first | exact HB.out | apply below_alloc | apply pw_below_drewN | apply below_drew1) | exact HB.out)⟩
                      · rw [if_neg c45] at H
                        exact absurd H (by simp)
                    · rw [if_neg c44] at H
                      have c44b0 : (t160 == false) = false := by simpa using c44
                      (try (have c44b1 : decide (t160 = false) = false := by simpa using c44))
                      (try (have c44b2 : (t160 == false) = false := by simpa using c44))
                      (try (have c44b3 : ¬ (t160 = false) := by simpa using c44))
                      clear c44
                      obtain rfl := Option.some.inj H
                      go_wp2_with (first | ((with_reducible refine gate_callee (f := 20) rfl ?_); refine goesL_ (some 56) rfl rfl Try.func20 (by kernel_rfl) rfl #[.int .i64 0] rfl (by (try simp only [List.map_toArray, List.map_cons, List.map_nil]); first | done | rfl | (simp only [List.length_drop, List.length_take]; rfl)) ?_; (with_reducible refine (cruciblelaw0_Num.calls 0 t159 _ A30.out).mono ?_); rintro e w' ⟨rfl, ⟨nd, rfl⟩⟩; refine ⟨_, rfl, ?_⟩) | (go_at_call 21; (with_reducible refine (name_May.calls x8_2 t160 _ A32.out).mono ?_); rintro e w52 ⟨rfl, hb⟩; have n0_ := Aside0.mk (below_step (by repeat (first | (with_reducible first | exact HB.out | apply below_alloc | apply pw_below_drewN | apply below_drew1) | exact HB.out)) hb); clear HB; have HB := n0_; clear n0_; (try clear hb); (try clear hb2); (try clear hk); (try clear hi)))
                      go_ret
                      exact ⟨by first | rfl | (simp [errW_none, errW_some] <;> rfl) | (simp [*, errW_none, errW_some] <;> rfl), by repeat (first | (with_reducible first | exact HB.out | apply below_alloc | apply pw_below_drewN | apply below_drew1) | exact HB.out)⟩
                · replace c33 := Bool.eq_false_iff.mpr c33
                  subst c33
                  have H1 : (if (t160 == false) = true then ((some (([((a0) % 256)] : List Int) : List Int)).bind fun y169 => (if 1 + (strOfNums y169).size ≤ 9223372036854775807 then ((name_May.f ((⟨#[97]⟩ : ByteArray) ++ (strOfNums y169))).bind fun t172 => (some (t172 == false))) else (none))) else (some false)) = some r := by rw [if_neg (show ¬ (false = true) by decide)] at H; exact H
                  clear H
                  have H := H1
                  clear H1
                  by_cases c53 : (t160 == false) = true
                  · rw [if_pos c53] at H
                    have c53b0 : (t160 == false) = true := c53
                    (try (have c53b1 : decide (t160 = false) = true := by simpa using c53))
                    (try (have c53b2 : (t160 == false) = true := by simpa using c53))
                    clear c53
                    obtain ⟨y169, hy169⟩ : ∃ y_ : List Int, y_ = (([((a0) % 256)] : List Int)) := ⟨_, rfl⟩
                    replace H : (if 1 + (strOfNums y169).size ≤ 9223372036854775807 then ((name_May.f ((⟨#[97]⟩ : ByteArray) ++ (strOfNums y169))).bind fun t172 => (some (t172 == false))) else (none)) = some r := by first | (rw [hy169]; with_reducible exact H) | (have H2_ := (Option.bind_some _ _).symm.trans H; rw [hy169]; with_reducible exact H2_) | (have H2_ := (Option.bind_some _ _).symm.trans H; with_reducible exact H2_) | with_reducible exact H | (rw [hy169]; exact H) | exact H
                    have Ny169 := Aside0.mk hy169
                    clear hy169
                    by_cases c54 : 1 + (strOfNums y169).size ≤ 9223372036854775807
                    · rw [if_pos c54] at H
                      have c54b0 := eq_true c54
                      have c54b1 : decide (1 + (strOfNums y169).size ≤ 9223372036854775807) = true := decide_eq_true c54
                      try have c54b2 : (9223372036854775807 < 1 + (strOfNums y169).size) = False := eq_false (Nat.not_lt.2 c54)
                      replace H := Option.bind_eq_some_iff.mp H
                      obtain ⟨t172, A550, H⟩ := H
                      replace H : (some (t172 == false)) = some r := H
                      have A55 := Aside0.mk A550
                      clear A550
                      obtain rfl := Option.some.inj H
                      go_wp2_with (first | ((with_reducible refine gate_callee (f := 20) rfl ?_); refine goesL_ (some 56) rfl rfl Try.func20 (by kernel_rfl) rfl #[.int .i64 0] rfl (by (try simp only [List.map_toArray, List.map_cons, List.map_nil]); first | done | rfl | (simp only [List.length_drop, List.length_take]; rfl)) ?_; (with_reducible refine (cruciblelaw0_Num.calls 0 t159 _ A30.out).mono ?_); rintro e w' ⟨rfl, ⟨nd, rfl⟩⟩; refine ⟨_, rfl, ?_⟩) | (go_at_call 21; (with_reducible refine (name_May.calls x8_2 t160 _ A32.out).mono ?_); rintro e w56 ⟨rfl, hb⟩; have n0_ := Aside0.mk (below_step (by repeat (first | (with_reducible first | exact HB.out | apply below_alloc | apply pw_below_drewN | apply below_drew1) | exact HB.out)) hb); clear HB; have HB := n0_; clear n0_; (try clear hb); (try clear hb2); (try clear hk); (try clear hi)) | ((with_reducible refine gate_dst (N := 74) rfl ?_); (try (refine gate_guard (by rfl) ?_; dsimp only)); refine Kd.R_lit (Kd.int .u8) _ 5 ?hg (N := 74) ?hd (xs := ([((a0) % 256)] : List Int)) (inner := [.int .u8 ((a0) % 256)]) (ok := fun _ => True) (okp := fun _ => True) ?hr ?hp (fun _ hk => hk) trivial (Below.refl _ _) (Nat.le_refl _) (by simp) ?_; (case hd => rfl); (case hg => rfl); (case hr => first | (go_simp; done) | (go_simp; rfl)); (case hp => exact (Reps.one (show Kd.M (Kd.int .u8) _ _ _ ((a0) % 256) [.int .u8 ((a0) % 256)] from rfl) (Reps.none _ _))); intro v170 w57 ho58 hb hg_ hnew_; clear hg_ hnew_; (first | rw [← Ny169.out] at ho58 | (simp only [Int.reduceToNat] at ho58; rw [← Ny169.out] at ho58)); have n0_ := Aside0.mk (Kd.R_lower ho58 (below_size (by repeat (first | (with_reducible first | exact HB.out | apply below_alloc | apply pw_below_drewN | apply below_drew1) | exact HB.out)))); have n1_ := Aside0.mk (below_step (by repeat (first | (with_reducible first | exact HB.out | apply below_alloc | apply pw_below_drewN | apply below_drew1) | exact HB.out)) hb); clear HB; have HO171 := n0_; have HB := n1_; clear n0_ n1_; clear hb ho58; have hcv59 := own_string (P := Try.prog) Try.underlying26 Try.underlying5 Try.underlying9 (Kd.own_of_R HO171.out)) | (go_at_call 21; (with_reducible refine (name_May.calls ((⟨#[97]⟩ : ByteArray) ++ (strOfNums y169)) t172 _ A55.out).mono ?_); rintro e w60 ⟨rfl, hb⟩; have n0_ := Aside0.mk (Kd.R_below (by (with_reducible repeat (first | apply Kd.R_alloc | apply Kd.R_drewN | apply Kd.R_drew)); exact HO171.out) hb); have n1_ := Aside0.mk (below_step (by repeat (first | (with_reducible first | exact HB.out | apply below_alloc | apply pw_below_drewN | apply below_drew1) | exact HB.out)) hb); clear HO171; clear HB; have HO171 := n0_; have HB := n1_; clear n0_ n1_; (try clear hb); (try clear hb2); (try clear hk); (try clear hi)))
                      go_ret
                      exact ⟨by first | rfl | (simp [errW_none, errW_some] <;> rfl) | (simp [*, errW_none, errW_some] <;> rfl), by repeat (first | (with_reducible first | exact HB.out | apply below_alloc | apply pw_below_drewN | apply below_drew1) | exact HB.out)⟩
                    · rw [if_neg c54] at H
                      exact absurd H (by simp)
                  · rw [if_neg c53] at H
                    have c53b0 : (t160 == false) = false := by simpa using c53
                    (try (have c53b1 : decide (t160 = false) = false := by simpa using c53))
                    (try (have c53b2 : (t160 == false) = false := by simpa using c53))
                    (try (have c53b3 : ¬ (t160 = false) := by simpa using c53))
                    clear c53
                    obtain rfl := Option.some.inj H
                    go_wp2_with (first | ((with_reducible refine gate_callee (f := 20) rfl ?_); refine goesL_ (some 56) rfl rfl Try.func20 (by kernel_rfl) rfl #[.int .i64 0] rfl (by (try simp only [List.map_toArray, List.map_cons, List.map_nil]); first | done | rfl | (simp only [List.length_drop, List.length_take]; rfl)) ?_; (with_reducible refine (cruciblelaw0_Num.calls 0 t159 _ A30.out).mono ?_); rintro e w' ⟨rfl, ⟨nd, rfl⟩⟩; refine ⟨_, rfl, ?_⟩) | (go_at_call 21; (with_reducible refine (name_May.calls x8_2 t160 _ A32.out).mono ?_); rintro e w61 ⟨rfl, hb⟩; have n0_ := Aside0.mk (below_step (by repeat (first | (with_reducible first | exact HB.out | apply below_alloc | apply pw_below_drewN | apply below_drew1) | exact HB.out)) hb); clear HB; have HB := n0_; clear n0_; (try clear hb); (try clear hb2); (try clear hk); (try clear hi)))
                    go_ret
                    exact ⟨by first | rfl | (simp [errW_none, errW_some] <;> rfl) | (simp [*, errW_none, errW_some] <;> rfl), by repeat (first | (with_reducible first | exact HB.out | apply below_alloc | apply pw_below_drewN | apply below_drew1) | exact HB.out)⟩
              · rw [if_neg c31] at H
                have c31b0 : (t159 == 0) = false := beq_eq_false_iff_ne.mpr c31
                have c31b1 : (t159 != 0) = true := bne_iff_ne.mpr c31
                obtain rfl := Option.some.inj H
                go_wp2_with (first | ((with_reducible refine gate_callee (f := 20) rfl ?_); refine goesL_ (some 56) rfl rfl Try.func20 (by kernel_rfl) rfl #[.int .i64 0] rfl (by (try simp only [List.map_toArray, List.map_cons, List.map_nil]); first | done | rfl | (simp only [List.length_drop, List.length_take]; rfl)) ?_; (with_reducible refine (cruciblelaw0_Num.calls 0 t159 _ A30.out).mono ?_); rintro e w' ⟨rfl, ⟨nd, rfl⟩⟩; refine ⟨_, rfl, ?_⟩))
                go_ret
                exact ⟨by first | rfl | (simp [errW_none, errW_some] <;> rfl) | (simp [*, errW_none, errW_some] <;> rfl), by repeat (first | (with_reducible first | exact HB.out | apply below_alloc | apply pw_below_drewN | apply below_drew1) | exact HB.out)⟩
  · replace c4 := Bool.eq_false_iff.mpr c4
    subst c4
    have H1 : (some false) = some r := by rw [if_neg (show ¬ (false = true) by decide)] at H; exact H
    clear H
    have H := H1
    clear H1
    obtain rfl := Option.some.inj H
    go_enter Try.func5, Try.ntmps5
    go_wp2_with (first | ((with_reducible refine gate_callee (f := 23) rfl ?_); refine goesL_ (some 10) rfl rfl Try.func23 (by kernel_rfl) rfl #[] rfl (by (try simp only [List.map_toArray, List.map_cons, List.map_nil]); first | done | rfl | (simp only [List.length_drop, List.length_take]; rfl)) ?_; (with_reducible refine (cruciblelaw1_awake.calls  false _ A3.out).mono ?_); rintro e w62 ⟨rfl, hb⟩; refine ⟨_, rfl, ?_⟩; have n0_ := Aside0.mk (below_step (by repeat (first | (with_reducible first | exact HB.out | apply below_alloc | apply pw_below_drewN | apply below_drew1) | exact HB.out)) hb); clear HB; have HB := n0_; clear n0_; (try clear hb); (try clear hb2); (try clear hk); (try clear hi)))
    go_ret
    exact ⟨by first | rfl | (simp [errW_none, errW_some] <;> rfl) | (simp [*, errW_none, errW_some] <;> rfl), by repeat (first | (with_reducible first | exact HB.out | apply below_alloc | apply pw_below_drewN | apply below_drew1) | exact HB.out)⟩

/-- THE ONE PURE STATEMENT of cruciblelaw1_NameBytes: yours. -/
def cruciblelaw1_NameBytes.Pure : Prop := ∀ (a0 : Int) (a1 : Int), (Lit.int .i64 a0).wf = true → (Lit.int .i64 a1).wf = true → ∃ k, cruciblelaw1_NameBytes.f k a0 a1 = some true
theorem cruciblelaw1_NameBytes.walk (P : cruciblelaw1_NameBytes.Pure) (a0 : Int) (a1 : Int) (w : World) (w0 : (Lit.int .i64 a0).wf = true) (w1 : (Lit.int .i64 a1).wf = true) :
    Calls Try.prog 5 #[.int .i64 a0, .int .i64 a1] w fun e w' => e = .returned (.bool true) ∧ Below w.heap.size w w' := by
  obtain ⟨k, h⟩ := P a0 a1 w0 w1
  refine (cruciblelaw1_NameBytes.calls k a0 a1 true w h).mono ?_
  rintro e w' ⟨rfl, hd⟩
  exact ⟨rfl, hd⟩

end Go.Proofs.Ytchkgljhklfhnaa.Print
