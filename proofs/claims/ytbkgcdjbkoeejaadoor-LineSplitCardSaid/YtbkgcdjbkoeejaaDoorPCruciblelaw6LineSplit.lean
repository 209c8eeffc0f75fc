-- By programs of ours (wip/tools/myprint.sh, sums.py) out of the translation.
import Derived.Test.YtbkgcdjbkoeejaaDoorP0
import Derived.Test.YtbkgcdjbkoeejaaDoorPCruciblelaw0SameLines
import Derived.Test.YtbkgcdjbkoeejaaDoorPCruciblelaw0Num
import Derived.Test.YtbkgcdjbkoeejaaDoorPCruciblelaw6Awake
import Derived.Test.YtbkgcdjbkoeejaaDoorHLines
namespace Go.Proofs.YtbkgcdjbkoeejaaDoor.Print
open Go.RowKit Go.Proofs.YtbkgcdjbkoeejaaDoorW.PrintWords Go.Proofs.YtbkgcdjbkoeejaaDoorW.PrintLast Go.Proofs.YtbkgcdjbkoeejaaDoorW.PrintMore
attribute [local go_sem] max2_int min2_int max_two min_two max_three min_three max_four min_four   -- for this text's walks alone
set_option linter.unusedVariables false
set_option linter.unusedSimpArgs false

/-! ### cruciblelaw6_LineSplit: function 7 -/
mutual
def cruciblelaw6_LineSplit.l0 : Nat → List Int → Int → ByteArray → ByteArray → Int → Option (Bool)
  | 0, _, _, _, _, _ => none
  | k + 1, x0, x1, x5, x6, x7 => if x7 < (x0.length : Int) then (cruciblelaw6_LineSplit.j1 k x0 x1 x5 x6 x7 (decide (x7 < 12))) else (cruciblelaw6_LineSplit.j1 k x0 x1 x5 x6 x7 false)
def cruciblelaw6_LineSplit.j1 : Nat → List Int → Int → ByteArray → ByteArray → Int → Bool → Option (Bool)
  | 0, _, _, _, _, _, _ => none
  | k + 1, x0, x1, x5, x6, x7, x22 => if x22 = true then (if 0 ≤ x7 then (if x7 < (x0.length : Int) then ((some (([(wrap64 (97 + (Go.bits .and .i64 (rd x0 x7) 15))) % 256] : List Int) : List Int)).bind fun y240 => (if x7 > 0 then (if x5.size + 1 ≤ 9223372036854775807 then (if x6.size + 1 ≤ 9223372036854775807 then (if (Go.bits .and .i64 (shr .i64 x1 x7) 1) = 1 then (if (x6 ++ (⟨#[32]⟩ : ByteArray)).size + 6 ≤ 9223372036854775807 then (if (x5 ++ (⟨#[32]⟩ : ByteArray)).size + (strOfNums y240).size ≤ 9223372036854775807 then (if ((x6 ++ (⟨#[32]⟩ : ByteArray)) ++ (⟨#[36, 10, 32, 32, 32, 32]⟩ : ByteArray)).size + (strOfNums y240).size ≤ 9223372036854775807 then (cruciblelaw6_LineSplit.l0 k x0 x1 ((x5 ++ (⟨#[32]⟩ : ByteArray)) ++ (strOfNums y240)) (((x6 ++ (⟨#[32]⟩ : ByteArray)) ++ (⟨#[36, 10, 32, 32, 32, 32]⟩ : ByteArray)) ++ (strOfNums y240)) (wrap64 (x7 + 1))) else (none)) else (none)) else (none)) else (if (x5 ++ (⟨#[32]⟩ : ByteArray)).size + (strOfNums y240).size ≤ 9223372036854775807 then (if (x6 ++ (⟨#[32]⟩ : ByteArray)).size + (strOfNums y240).size ≤ 9223372036854775807 then (cruciblelaw6_LineSplit.l0 k x0 x1 ((x5 ++ (⟨#[32]⟩ : ByteArray)) ++ (strOfNums y240)) ((x6 ++ (⟨#[32]⟩ : ByteArray)) ++ (strOfNums y240)) (wrap64 (x7 + 1))) else (none)) else (none))) else (none)) else (none)) else (if x5.size + (strOfNums y240).size ≤ 9223372036854775807 then (if x6.size + (strOfNums y240).size ≤ 9223372036854775807 then (cruciblelaw6_LineSplit.l0 k x0 x1 (x5 ++ (strOfNums y240)) (x6 ++ (strOfNums y240)) (wrap64 (x7 + 1))) else (none)) else (none)))) else (none)) else (none)) else (if x5.size + 1 ≤ 9223372036854775807 then ((lines_Cut.f (x5 ++ (⟨#[10]⟩ : ByteArray))).bind fun bt243 => (if x6.size + 1 ≤ 9223372036854775807 then ((lines_Cut.f (x6 ++ (⟨#[10]⟩ : ByteArray))).bind fun bt247 => (if (x0.length : Int) = 0 then (if (bt243.1.length : Int) = 0 then ((cruciblelaw0_Num.f bt243.2).bind fun t251 => (some (t251 == 0))) else (some false)) else ((cruciblelaw0_Num.f bt243.2).bind fun t252 => (if t252 = 0 then ((cruciblelaw0_Num.f bt247.2).bind fun t253 => (if t253 = 0 then ((cruciblelaw0_SameLines.f k bt243.1 bt247.1).bind fun t254 => (if t254 = true then ((cruciblelaw0_SameLines.f k bt243.1 (([(⟨false, x5⟩ : S39)] : List (S39)))).bind fun t258 => (some t258)) else (some false))) else (some false))) else (some false))))) else (none))) else (none))
end
def cruciblelaw6_LineSplit.f (k : Nat) (l0 : List Int) (a1 : Int) : Option (Bool) := (cruciblelaw6_awake.f k).bind fun t238 => (if t238 = true then (cruciblelaw6_LineSplit.l0 k l0 a1 (⟨#[]⟩ : ByteArray) (⟨#[]⟩ : ByteArray) 0) else (some false))
theorem cruciblelaw6_LineSplit.mono_l : ∀ k, (∀ y0 y1 y2 y3 y4, LeO (cruciblelaw6_LineSplit.l0 k y0 y1 y2 y3 y4) (cruciblelaw6_LineSplit.l0 (k + 1) y0 y1 y2 y3 y4)) ∧ (∀ y0 y1 y2 y3 y4 y5, LeO (cruciblelaw6_LineSplit.j1 k y0 y1 y2 y3 y4 y5) (cruciblelaw6_LineSplit.j1 (k + 1) y0 y1 y2 y3 y4 y5))
  | 0 => ⟨fun _ _ _ _ _ r h => by simp [cruciblelaw6_LineSplit.l0] at h, fun _ _ _ _ _ _ r h => by simp [cruciblelaw6_LineSplit.j1] at h⟩
  | k + 1 => by
    obtain ⟨ih0, ih1⟩ := cruciblelaw6_LineSplit.mono_l k
    refine ⟨?_, ?_⟩
    · intro y0 y1 y2 y3 y4
      unfold cruciblelaw6_LineSplit.l0
      repeat' first
      | (with_reducible exact ih0 _ _ _ _ _)
      | (with_reducible exact ih1 _ _ _ _ _ _)
      | (with_reducible exact cruciblelaw0_SameLines.mono _ _ _)
      | (with_reducible exact cruciblelaw6_awake.mono _)
      | (with_reducible exact LeO.refl _)
      | (with_reducible exact LeO.none _)
      | (with_reducible refine LeO.ite ?_ ?_)
      | (with_reducible refine LeO.bind ?_ (fun _ => ?_))
      | exact ih0 _ _ _ _ _
      | exact ih1 _ _ _ _ _ _
      | exact cruciblelaw0_SameLines.mono _ _ _
      | exact cruciblelaw6_awake.mono _
      | exact LeO.none _
      | refine LeO.ite ?_ ?_
      | refine LeO.bind ?_ (fun _ => ?_)
    · intro y0 y1 y2 y3 y4 y5
      unfold cruciblelaw6_LineSplit.j1
      repeat' first
      | (with_reducible exact ih0 _ _ _ _ _)
      | (with_reducible exact ih1 _ _ _ _ _ _)
      | (with_reducible exact cruciblelaw0_SameLines.mono _ _ _)
      | (with_reducible exact cruciblelaw6_awake.mono _)
      | (with_reducible exact LeO.refl _)
      | (with_reducible exact LeO.none _)
      | (with_reducible refine LeO.ite ?_ ?_)
      | (with_reducible refine LeO.bind ?_ (fun _ => ?_))
      | exact ih0 _ _ _ _ _
      | exact ih1 _ _ _ _ _ _
      | exact cruciblelaw0_SameLines.mono _ _ _
      | exact cruciblelaw6_awake.mono _
      | exact LeO.none _
      | refine LeO.ite ?_ ?_
      | refine LeO.bind ?_ (fun _ => ?_)
theorem cruciblelaw6_LineSplit.mono : ∀ a0 a1 k, LeO (cruciblelaw6_LineSplit.f k a0 a1) (cruciblelaw6_LineSplit.f (k + 1) a0 a1) := by
  intro a0 a1 k
  obtain ⟨ih0, ih1⟩ := cruciblelaw6_LineSplit.mono_l k
  unfold cruciblelaw6_LineSplit.f
  repeat' first
      | (with_reducible exact ih0 _ _ _ _ _)
      | (with_reducible exact ih1 _ _ _ _ _ _)
      | (with_reducible exact cruciblelaw0_SameLines.mono _ _ _)
      | (with_reducible exact cruciblelaw6_awake.mono _)
      | (with_reducible exact LeO.refl _)
      | (with_reducible exact LeO.none _)
      | (with_reducible refine LeO.ite ?_ ?_)
      | (with_reducible refine LeO.bind ?_ (fun _ => ?_))
      | exact ih0 _ _ _ _ _
      | exact ih1 _ _ _ _ _ _
      | exact cruciblelaw0_SameLines.mono _ _ _
      | exact cruciblelaw6_awake.mono _
      | exact LeO.none _
      | refine LeO.ite ?_ ?_
      | refine LeO.bind ?_ (fun _ => ?_)
set_option maxHeartbeats 8000000 in
set_option maxRecDepth 100000 in
theorem cruciblelaw6_LineSplit.calls (k : Nat) (A0 : Option Addr) (c0 : Nat) (l0 : List Int) (a1 : Int) (r : Bool) (w : World) (hr0 : Kd.C (Kd.int .i64) w A0 l0.length l0) (hc0 : l0.length ≤ c0) (h : cruciblelaw6_LineSplit.f k l0 a1 = some r) :
    Calls Tryd.prog 7 #[.slice A0 l0.length c0, .int .i64 a1] w fun e w' => e = .returned (.bool r) ∧ Below w.heap.size w w' := by
  have hu39 := Tryd.underlying39
  have HR0 := Aside0.mk hr0
  have HC0 := Aside0.mk hc0
  clear hr0 hc0
  have HB := Aside0.mk (Below.refl w.heap.size w)
  have H : ((cruciblelaw6_awake.f k).bind fun t238 => (if t238 = true then (cruciblelaw6_LineSplit.l0 k l0 a1 (⟨#[]⟩ : ByteArray) (⟨#[]⟩ : ByteArray) 0) else (some false))) = some r := h
  clear h
  replace H := Option.bind_eq_some_iff.mp H
  obtain ⟨t238, A30, H⟩ := H
  replace H : (if t238 = true then (cruciblelaw6_LineSplit.l0 k l0 a1 (⟨#[]⟩ : ByteArray) (⟨#[]⟩ : ByteArray) 0) else (some false)) = some r := H
  have A3 := Aside0.mk A30
  clear A30
  by_cases c4 : t238 = true
  · subst c4
    have H1 : (cruciblelaw6_LineSplit.l0 k l0 a1 (⟨#[]⟩ : ByteArray) (⟨#[]⟩ : ByteArray) 0) = some r := by rw [if_pos rfl] at H; exact H
    clear H
    have H := H1
    clear H1
    have H' := Aside0.mk H
    clear H
    go_enter Tryd.func7, Tryd.ntmps7
    go_wp2_with (first | ((with_reducible refine gate_callee (f := 13) rfl ?_); refine goesL_ (some 13) rfl rfl Tryd.func13 (by kernel_rfl) rfl #[] rfl (by (try simp only [List.map_toArray, List.map_cons, List.map_nil]); first | done | rfl | (simp only [List.length_drop, List.length_take]; rfl)) ?_; (with_reducible refine (cruciblelaw6_awake.calls k  true _ A3.out).mono ?_); rintro e w5 ⟨rfl, hb⟩; refine ⟨_, rfl, ?_⟩; have n0_ := Aside0.mk (below_step (by repeat (first | (with_reducible first | exact HB.out | apply below_alloc | apply pw_below_drewN | apply below_drew1) | exact HB.out)) hb); clear HB; have HB := n0_; clear n0_; (try clear hb); (try clear hb2); (try clear hk); (try clear hi)))
    go_loopg [5, 6, 7] k (fun kq v5 v6 v7 w' => ∃ (x5_1 : ByteArray) (x6_1 : ByteArray) (x7_1 : Int), v5 = .string x5_1 ∧ v6 = .string x6_1 ∧ v7 = .int .i64 x7_1 ∧ Aside0 (cruciblelaw6_LineSplit.l0 kq l0 a1 x5_1 x6_1 x7_1 = some r) ∧ Aside0 (kq ≤ k) ∧ Aside0 (Below w.heap.size w w'))
    case atStart => exact ⟨((⟨#[]⟩ : ByteArray)), ((⟨#[]⟩ : ByteArray)), (0), (by first | rfl | (simp; done) | (simp [*]; done)), (by first | rfl | (simp; done) | (simp [*]; done)), (by first | rfl | (simp; done) | (simp [*]; done)), H', ⟨Nat.le_refl _⟩, ⟨by repeat (first | (with_reducible first | exact HB.out | apply below_alloc | apply pw_below_drewN | apply below_drew1) | exact HB.out)⟩⟩
    case round =>
      clear H'
      try clear c1
      try clear p2
      try clear c4
      obtain ⟨x5_1, x6_1, x7_1, rfl, rfl, rfl, HA, HK1, HB⟩ := hrel
      cases gk with
      | zero => exact absurd HA.out (by simp [cruciblelaw6_LineSplit.l0])
      | succ k1 =>
        have H := HA.out
        clear HA
        simp only [cruciblelaw6_LineSplit.l0] at H
        have HC6 := Aside0.mk H
        clear H
        go_upto_region 5 with (fail)
        go_cut [22] (fun v22 wc => ∃ (kq : Nat) (x22_5 : Bool), v22 = .bool x22_5 ∧ Aside0 (cruciblelaw6_LineSplit.j1 kq l0 a1 x5_1 x6_1 x7_1 x22_5 = some r) ∧ Aside0 (kq ≤ k1) ∧ Aside0 (Below w.heap.size w wc))
        case first =>
          have H := HC6.out
          clear HC6
          by_cases c7 : x7_1 < (l0.length : Int)
          · rw [if_pos c7] at H
            have c7b0 : decide (x7_1 < (l0.length : Int)) = true := decide_eq_true c7
            clear c7
            (first | rw [c7b0] | (simp only [i64_w, i32_w]; rw [c7b0]) | skip)
            have H' := Aside0.mk H
            clear H
            go_wp2
            go_meet
            case rel => exact ⟨_, (decide (x7_1 < 12)), (by first | rfl | (simp; done) | (simp [*]; done)), H', ⟨by have := HK1.out; first | omega | exact Nat.le_refl _⟩, ⟨by repeat (first | (with_reducible first | exact HB.out | apply below_alloc | apply pw_below_drewN | apply below_drew1) | exact HB.out)⟩⟩
          · rw [if_neg c7] at H
            have c7b0 : decide (x7_1 < (l0.length : Int)) = false := decide_eq_false c7
            clear c7
            (first | rw [c7b0] | (simp only [i64_w, i32_w]; rw [c7b0]) | skip)
            have H' := Aside0.mk H
            clear H
            go_wp2
            go_meet
            case rel => exact ⟨_, (false), (by first | rfl | (simp; done) | (simp [*]; done)), H', ⟨by have := HK1.out; first | omega | exact Nat.le_refl _⟩, ⟨by repeat (first | (with_reducible first | exact HB.out | apply below_alloc | apply pw_below_drewN | apply below_drew1) | exact HB.out)⟩⟩
        case rest =>
          clear HC6
          try clear c1
          try clear p2
          try clear c4
          try clear c7
          try clear c7b0
          try clear p2
          obtain ⟨kq, x22_5, rfl, HA, HJ5, HB⟩ := hcut
          cases kq with
          | zero => exact absurd HA.out (by simp [cruciblelaw6_LineSplit.j1])
          | succ kj5 =>
            have H := HA.out
            clear HA
            simp only [cruciblelaw6_LineSplit.j1] at H
            by_cases c8 : x22_5 = true
            · subst c8
              have H1 : (if 0 ≤ x7_1 then (if x7_1 < (l0.length : Int) then ((some (([(wrap64 (97 + (Go.bits .and .i64 (rd l0 x7_1) 15))) % 256] : List Int) : List Int)).bind fun y240 => (if x7_1 > 0 then (if x5_1.size + 1 ≤ 9223372036854775807 then (if x6_1.size + 1 ≤ 9223372036854775807 then (if (Go.bits .and .i64 (shr .i64 a1 x7_1) 1) = 1 then (if (x6_1 ++ (⟨#[32]⟩ : ByteArray)).size + 6 ≤ 9223372036854775807 then (if (x5_1 ++ (⟨#[32]⟩ : ByteArray)).size + (strOfNums y240).size ≤ 9223372036854775807 then (if ((x6_1 ++ (⟨#[32]⟩ : ByteArray)) ++ (⟨#[36, 10, 32, 32, 32, 32]⟩ : ByteArray)).size + (strOfNums y240).size ≤ 9223372036854775807 then (cruciblelaw6_LineSplit.l0 kj5 l0 a1 ((x5_1 ++ (⟨#[32]⟩ : ByteArray)) ++ (strOfNums y240)) (((x6_1 ++ (⟨#[32]⟩ : ByteArray)) ++ (⟨#[36, 10, 32, 32, 32, 32]⟩ : ByteArray)) ++ (strOfNums y240)) (wrap64 (x7_1 + 1))) else (none)) else (none)) else (none)) else (if (x5_1 ++ (⟨#[32]⟩ : ByteArray)).size + (strOfNums y240).size ≤ 9223372036854775807 then (if (x6_1 ++ (⟨#[32]⟩ : ByteArray)).size + (strOfNums y240).size ≤ 9223372036854775807 then (cruciblelaw6_LineSplit.l0 kj5 l0 a1 ((x5_1 ++ (⟨#[32]⟩ : ByteArray)) ++ (strOfNums y240)) ((x6_1 ++ (⟨#[32]⟩ : ByteArray)) ++ (strOfNums y240)) (wrap64 (x7_1 + 1))) else (none)) else (none))) else (none)) else (none)) else (if x5_1.size + (strOfNums y240).size ≤ 9223372036854775807 then (if x6_1.size + (strOfNums y240).size ≤ 9223372036854775807 then (cruciblelaw6_LineSplit.l0 kj5 l0 a1 (x5_1 ++ (strOfNums y240)) (x6_1 ++ (strOfNums y240)) (wrap64 (x7_1 + 1))) else (none)) else (none)))) else (none)) else (none)) = some r := by rw [if_pos rfl] at H; exact H
              clear H
              have H := H1
              clear H1
              by_cases c9 : 0 ≤ x7_1
              · rw [if_pos c9] at H
                have c9b0 : decide (0 ≤ x7_1) = true := decide_eq_true c9
                clear c9
                by_cases c10 : x7_1 < (l0.length : Int)
                · rw [if_pos c10] at H
                  have c10b0 : decide (x7_1 < (l0.length : Int)) = true := decide_eq_true c10
                  clear c10
                  obtain ⟨y240, hy240⟩ : ∃ y_ : List Int, y_ = (([(wrap64 (97 + (Go.bits .and .i64 (rd l0 x7_1) 15))) % 256] : List Int)) := ⟨_, rfl⟩
                  replace H : (if x7_1 > 0 then (if x5_1.size + 1 ≤ 9223372036854775807 then (if x6_1.size + 1 ≤ 9223372036854775807 then (if (Go.bits .and .i64 (shr .i64 a1 x7_1) 1) = 1 then (if (x6_1 ++ (⟨#[32]⟩ : ByteArray)).size + 6 ≤ 9223372036854775807 then (if (x5_1 ++ (⟨#[32]⟩ : ByteArray)).size + (strOfNums y240).size ≤ 9223372036854775807 then (if ((x6_1 ++ (⟨#[32]⟩ : ByteArray)) ++ (⟨#[36, 10, 32, 32, 32, 32]⟩ : ByteArray)).size + (strOfNums y240).size ≤ 9223372036854775807 then (cruciblelaw6_LineSplit.l0 kj5 l0 a1 ((x5_1 ++ (⟨#[32]⟩ : ByteArray)) ++ (strOfNums y240)) (((x6_1 ++ (⟨#[32]⟩ : ByteArray)) ++ (⟨#[36, 10, 32, 32, 32, 32]⟩ : ByteArray)) ++ (strOfNums y240)) (wrap64 (x7_1 + 1))) else (none)) else (none)) else (none)) else (if (x5_1 ++ (⟨#[32]⟩ : ByteArray)).size + (strOfNums y240).size ≤ 9223372036854775807 then (if (x6_1 ++ (⟨#[32]⟩ : ByteArray)).size + (strOfNums y240).size ≤ 9223372036854775807 then (cruciblelaw6_LineSplit.l0 kj5 l0 a1 ((x5_1 ++ (⟨#[32]⟩ : ByteArray)) ++ (strOfNums y240)) ((x6_1 ++ (⟨#[32]⟩ : ByteArray)) ++ (strOfNums y240)) (wrap64 (x7_1 + 1))) else (none)) else (none))) else (none)) else (none)) else (if x5_1.size + (strOfNums y240).size ≤ 9223372036854775807 then (if x6_1.size + (strOfNums y240).size ≤ 9223372036854775807 then (cruciblelaw6_LineSplit.l0 kj5 l0 a1 (x5_1 ++ (strOfNums y240)) (x6_1 ++ (strOfNums y240)) (wrap64 (x7_1 + 1))) else (none)) else (none))) = some r := by first | (rw [hy240]; with_reducible exact H) | (have H2_ := (Option.bind_some _ _).symm.trans H; rw [hy240]; with_reducible exact H2_) | (have H2_ := (Option.bind_some _ _).symm.trans H; with_reducible exact H2_) | with_reducible exact H | (rw [hy240]; exact H) | exact H
                  have Ny240 := Aside0.mk hy240
                  clear hy240
                  by_cases c11 : x7_1 > 0
                  · rw [if_pos c11] at H
                    have c11b0 : decide (0 < x7_1) = true := decide_eq_true c11
                    clear c11
                    by_cases c12 : x5_1.size + 1 ≤ 9223372036854775807
                    · rw [if_pos c12] at H
                      have c12b0 := eq_true c12
                      have c12b1 : decide (x5_1.size + 1 ≤ 9223372036854775807) = true := decide_eq_true c12
                      try have c12b2 : (9223372036854775807 < x5_1.size + 1) = False := eq_false (Nat.not_lt.2 c12)
                      by_cases c13 : x6_1.size + 1 ≤ 9223372036854775807
                      · rw [if_pos c13] at H
                        have c13b0 := eq_true c13
                        have c13b1 : decide (x6_1.size + 1 ≤ 9223372036854775807) = true := decide_eq_true c13
                        try have c13b2 : (9223372036854775807 < x6_1.size + 1) = False := eq_false (Nat.not_lt.2 c13)
                        have c14b0 := eq_true (of_decide_eq_true (by first | (with_reducible assumption) | assumption) : 0 ≤ x7_1)
                        obtain ⟨ji15, hji15⟩ : ∃ j_ : Int, (shr .i64 a1 x7_1) = j_ := ⟨_, rfl⟩
                        replace H : (if (Go.bits .and .i64 (ji15) 1) = 1 then (if (x6_1 ++ (⟨#[32]⟩ : ByteArray)).size + 6 ≤ 9223372036854775807 then (if (x5_1 ++ (⟨#[32]⟩ : ByteArray)).size + (strOfNums y240).size ≤ 9223372036854775807 then (if ((x6_1 ++ (⟨#[32]⟩ : ByteArray)) ++ (⟨#[36, 10, 32, 32, 32, 32]⟩ : ByteArray)).size + (strOfNums y240).size ≤ 9223372036854775807 then (cruciblelaw6_LineSplit.l0 kj5 l0 a1 ((x5_1 ++ (⟨#[32]⟩ : ByteArray)) ++ (strOfNums y240)) (((x6_1 ++ (⟨#[32]⟩ : ByteArray)) ++ (⟨#[36, 10, 32, 32, 32, 32]⟩ : ByteArray)) ++ (strOfNums y240)) (wrap64 (x7_1 + 1))) else (none)) else (none)) else (none)) else (if (x5_1 ++ (⟨#[32]⟩ : ByteArray)).size + (strOfNums y240).size ≤ 9223372036854775807 then (if (x6_1 ++ (⟨#[32]⟩ : ByteArray)).size + (strOfNums y240).size ≤ 9223372036854775807 then (cruciblelaw6_LineSplit.l0 kj5 l0 a1 ((x5_1 ++ (⟨#[32]⟩ : ByteArray)) ++ (strOfNums y240)) ((x6_1 ++ (⟨#[32]⟩ : ByteArray)) ++ (strOfNums y240)) (wrap64 (x7_1 + 1))) else (none)) else (none))) = some r := by first | (rw [hji15] at H; exact H) | (simp only [hji15] at H ⊢; exact H)
                        have hji15_ : (a1 / 2 ^ min x7_1.toNat 64) = ji15 := hji15
                        have hji15z : x7_1 ≤ 64 → (a1 / 2 ^ x7_1.toNat) = ji15 := shr_small hji15
                        by_cases c16 : (Go.bits .and .i64 (ji15) 1) = 1
                        · rw [if_pos c16] at H
                          have c16b0 : ((Go.bits .and .i64 (ji15) 1) == 1) = true := beq_iff_eq.mpr c16
                          have c16b1 : ((Go.bits .and .i64 (ji15) 1) != 1) = false := bne_eq_false_iff_eq.mpr c16
                          clear c16
                          by_cases c17 : (x6_1 ++ (⟨#[32]⟩ : ByteArray)).size + 6 ≤ 9223372036854775807
                          · rw [if_pos c17] at H
                            have c17b0 := eq_true c17
                            have c17b1 : decide ((x6_1 ++ (⟨#[32]⟩ : ByteArray)).size + 6 ≤ 9223372036854775807) = true := decide_eq_true c17
                            try have c17b2 : (9223372036854775807 < (x6_1 ++ (⟨#[32]⟩ : ByteArray)).size + 6) = False := eq_false (Nat.not_lt.2 c17)
                            have c17b3 : (9223372036854775807 < x6_1.size + 1 + 6) = False := eq_false (by have hh : (x6_1 ++ (⟨#[32]⟩ : ByteArray)).size = x6_1.size + 1 := (by rw [ByteArray.size_append] <;> rfl); omega)
                            by_cases c18 : (x5_1 ++ (⟨#[32]⟩ : ByteArray)).size + (strOfNums y240).size ≤ 9223372036854775807
                            · rw [if_pos c18] at H
                              have c18b0 := eq_true c18
                              have c18b1 : decide ((x5_1 ++ (⟨#[32]⟩ : ByteArray)).size + (strOfNums y240).size ≤ 9223372036854775807) = true := decide_eq_true c18
                              try have c18b2 : (9223372036854775807 < (x5_1 ++ (⟨#[32]⟩ : ByteArray)).size + (strOfNums y240).size) = False := eq_false (Nat.not_lt.2 c18)
                              have c18b3 : (9223372036854775807 < x5_1.size + 1 + (strOfNums y240).size) = False := eq_false (by have hh : (x5_1 ++ (⟨#[32]⟩ : ByteArray)).size = x5_1.size + 1 := (by rw [ByteArray.size_append] <;> rfl); omega)
                              by_cases c19 : ((x6_1 ++ (⟨#[32]⟩ : ByteArray)) ++ (⟨#[36, 10, 32, 32, 32, 32]⟩ : ByteArray)).size + (strOfNums y240).size ≤ 9223372036854775807
                              · rw [if_pos c19] at H
                                have c19b0 := eq_true c19
                                have c19b1 : decide (((x6_1 ++ (⟨#[32]⟩ : ByteArray)) ++ (⟨#[36, 10, 32, 32, 32, 32]⟩ : ByteArray)).size + (strOfNums y240).size ≤ 9223372036854775807) = true := decide_eq_true c19
                                try have c19b2 : (9223372036854775807 < ((x6_1 ++ (⟨#[32]⟩ : ByteArray)) ++ (⟨#[36, 10, 32, 32, 32, 32]⟩ : ByteArray)).size + (strOfNums y240).size) = False := eq_false (Nat.not_lt.2 c19)
                                have c19b3 : (9223372036854775807 < x6_1.size + 1 + 6 + (strOfNums y240).size) = False := eq_false (by have hh : ((x6_1 ++ (⟨#[32]⟩ : ByteArray)) ++ (⟨#[36, 10, 32, 32, 32, 32]⟩ : ByteArray)).size = x6_1.size + 1 + 6 := (by rw [ByteArray.size_append, ByteArray.size_append] <;> rfl); omega)
                                have H' := Aside0.mk H
                                clear H
                                have p239 : 0 ≤ (x7_1 : Int) := of_decide_eq_true (by first | (with_reducible assumption) | assumption)
                                have q239 : x7_1 < (l0.length : Int) := of_decide_eq_true (by first | (with_reducible assumption) | assumption)
                                obtain ⟨ad239, e239, hx239_0⟩ := Kd.at_int HR0.out x7_1 p239 q239
                                cases e239
                                replace hx239_0 := (HB.out.cell (World.block_lt_of_cell? w _ hx239_0)).trans hx239_0
                                replace p239 := eq_true p239
                                replace q239 := eq_true q239
                                go_wp2_with (first | ((with_reducible refine gate_dst (N := 32) rfl ?_); (try (refine gate_guard (by rfl) ?_; dsimp only)); refine Kd.R_lit (Kd.int .u8) _ 5 ?hg (N := 32) ?hd (xs := ([(wrap64 (97 + (Go.bits .and .i64 (rd l0 x7_1) 15))) % 256] : List Int)) (inner := [.int .u8 ((wrap64 (97 + (Go.bits .and .i64 (rd l0 x7_1) 15))) % 256)]) (ok := fun _ => True) (okp := fun _ => True) ?hr ?hp (fun _ hk => hk) trivial (Below.refl _ _) (Nat.le_refl _) (by simp) ?_; (case hd => rfl); (case hg => rfl); (case hr => first | (go_simp; done) | (go_simp; rfl)); (case hp => exact (Reps.one (show Kd.M (Kd.int .u8) _ _ _ ((wrap64 (97 + (Go.bits .and .i64 (rd l0 x7_1) 15))) % 256) [.int .u8 ((wrap64 (97 + (Go.bits .and .i64 (rd l0 x7_1) 15))) % 256)] from rfl) (Reps.none _ _))); intro v241 w20 ho21 hb hg_ hnew_; clear hg_ hnew_; (first | rw [← Ny240.out] at ho21 | (simp only [Int.reduceToNat] at ho21; rw [← Ny240.out] at ho21)); have n0_ := Aside0.mk (Kd.R_lower ho21 (below_size (by repeat (first | (with_reducible first | exact HB.out | apply below_alloc | apply pw_below_drewN | apply below_drew1) | exact HB.out)))); have n1_ := Aside0.mk (below_step (by repeat (first | (with_reducible first | exact HB.out | apply below_alloc | apply pw_below_drewN | apply below_drew1) | exact HB.out)) hb); clear HB; have HO242 := n0_; have HB := n1_; clear n0_ n1_; clear hb ho21; have hcv22 := own_string (P := Tryd.prog) Tryd.underlying36 Tryd.underlying5 Tryd.underlying9 (Kd.own_of_R HO242.out)))
                                go_roundg kj5
                                case measure => have := HK1.out; have := HJ5.out; omega
                                case rel => exact ⟨((x5_1 ++ (⟨#[32]⟩ : ByteArray)) ++ (strOfNums y240)), (((x6_1 ++ (⟨#[32]⟩ : ByteArray)) ++ (⟨#[36, 10, 32, 32, 32, 32]⟩ : ByteArray)) ++ (strOfNums y240)), (wrap64 (x7_1 + 1)), (by first | rfl | (simp; done) | (simp [*]; done)), (by first | rfl | (simp; done) | (simp [*]; done)), (by first | rfl | (simp; done) | (simp [*]; done)), H', ⟨by have := HK1.out; have := HJ5.out; omega⟩, ⟨by repeat (first | (with_reducible first | exact HB.out | apply below_alloc | apply pw_below_drewN | apply below_drew1) | exact HB.out)⟩⟩
                              · rw [if_neg c19] at H
                                exact absurd H (by simp)
                            · rw [if_neg c18] at H
                              exact absurd H (by simp)
                          · rw [if_neg c17] at H
                            exact absurd H (by simp)
                        · rw [if_neg c16] at H
                          have c16b0 : ((Go.bits .and .i64 (ji15) 1) == 1) = false := beq_eq_false_iff_ne.mpr c16
                          have c16b1 : ((Go.bits .and .i64 (ji15) 1) != 1) = true := bne_iff_ne.mpr c16
                          by_cases c23 : (x5_1 ++ (⟨#[32]⟩ : ByteArray)).size + (strOfNums y240).size ≤ 9223372036854775807
                          · rw [if_pos c23] at H
                            have c23b0 := eq_true c23
                            have c23b1 : decide ((x5_1 ++ (⟨#[32]⟩ : ByteArray)).size + (strOfNums y240).size ≤ 9223372036854775807) = true := decide_eq_true c23
                            try have c23b2 : (9223372036854775807 < (x5_1 ++ (⟨#[32]⟩ : ByteArray)).size + (strOfNums y240).size) = False := eq_false (Nat.not_lt.2 c23)
                            have c23b3 : (9223372036854775807 < x5_1.size + 1 + (strOfNums y240).size) = False := eq_false (by have hh : (x5_1 ++ (⟨#[32]⟩ : ByteArray)).size = x5_1.size + 1 := (by rw [ByteArray.size_append] <;> rfl); omega)
                            by_cases c24 : (x6_1 ++ (⟨#[32]⟩ : ByteArray)).size + (strOfNums y240).size ≤ 9223372036854775807
                            · rw [if_pos c24] at H
                              have c24b0 := eq_true c24
                              have c24b1 : decide ((x6_1 ++ (⟨#[32]⟩ : ByteArray)).size + (strOfNums y240).size ≤ 9223372036854775807) = true := decide_eq_true c24
                              try have c24b2 : (9223372036854775807 < (x6_1 ++ (⟨#[32]⟩ : ByteArray)).size + (strOfNums y240).size) = False := eq_false (Nat.not_lt.2 c24)
                              have c24b3 : (9223372036854775807 < x6_1.size + 1 + (strOfNums y240).size) = False := eq_false (by have hh : (x6_1 ++ (⟨#[32]⟩ : ByteArray)).size = x6_1.size + 1 := (by rw [ByteArray.size_append] <;> rfl); omega)
                              have H' := Aside0.mk H
                              clear H
                              have p239 : 0 ≤ (x7_1 : Int) := of_decide_eq_true (by first | (with_reducible assumption) | assumption)
                              have q239 : x7_1 < (l0.length : Int) := of_decide_eq_true (by first | (with_reducible assumption) | assumption)
                              obtain ⟨ad239, e239, hx239_0⟩ := Kd.at_int HR0.out x7_1 p239 q239
                              cases e239
                              replace hx239_0 := (HB.out.cell (World.block_lt_of_cell? w _ hx239_0)).trans hx239_0
                              replace p239 := eq_true p239
                              replace q239 := eq_true q239
                              go_wp2_with (first | ((with_reducible refine gate_dst (N := 32) rfl ?_); (try (refine gate_guard (by rfl) ?_; dsimp only)); refine Kd.R_lit (Kd.int .u8) _ 5 ?hg (N := 32) ?hd (xs := ([(wrap64 (97 + (Go.bits .and .i64 (rd l0 x7_1) 15))) % 256] : List Int)) (inner := [.int .u8 ((wrap64 (97 + (Go.bits .and .i64 (rd l0 x7_1) 15))) % 256)]) (ok := fun _ => True) (okp := fun _ => True) ?hr ?hp (fun _ hk => hk) trivial (Below.refl _ _) (Nat.le_refl _) (by simp) ?_; (case hd => rfl); (case hg => rfl); (case hr => first | (go_simp; done) | (go_simp; rfl)); (case hp => exact (Reps.one (show Kd.M (Kd.int .u8) _ _ _ ((wrap64 (97 + (Go.bits .and .i64 (rd l0 x7_1) 15))) % 256) [.int .u8 ((wrap64 (97 + (Go.bits .and .i64 (rd l0 x7_1) 15))) % 256)] from rfl) (Reps.none _ _))); intro v241 w25 ho26 hb hg_ hnew_; clear hg_ hnew_; (first | rw [← Ny240.out] at ho26 | (simp only [Int.reduceToNat] at ho26; rw [← Ny240.out] at ho26)); have n0_ := Aside0.mk (Kd.R_lower ho26 (below_size (by repeat (first | (with_reducible first | exact HB.out | apply below_alloc | apply pw_below_drewN | apply below_drew1) | exact HB.out)))); have n1_ := Aside0.mk (below_step (by repeat (first | (with_reducible first | exact HB.out | apply below_alloc | apply pw_below_drewN | apply below_drew1) | exact HB.out)) hb); clear HB; have HO242 := n0_; have HB := n1_; clear n0_ n1_; clear hb ho26; have hcv27 := own_string (P := Tryd.prog) Tryd.underlying36 Tryd.underlying5 Tryd.underlying9 (Kd.own_of_R HO242.out)))
                              go_roundg kj5
                              case measure => have := HK1.out; have := HJ5.out; omega
                              case rel => exact ⟨((x5_1 ++ (⟨#[32]⟩ : ByteArray)) ++ (strOfNums y240)), ((x6_1 ++ (⟨#[32]⟩ : ByteArray)) ++ (strOfNums y240)), (wrap64 (x7_1 + 1)), (by first | rfl | (simp; done) | (simp [*]; done)), (by first | rfl | (simp; done) | (simp [*]; done)), (by first | rfl | (simp; done) | (simp [*]; done)), H', ⟨by have := HK1.out; have := HJ5.out; omega⟩, ⟨by repeat (first | (with_reducible first | exact HB.out | apply below_alloc | apply pw_below_drewN | apply below_drew1) | exact HB.out)⟩⟩
                            · rw [if_neg c24] at H
                              exact absurd H (by simp)
                          · rw [if_neg c23] at H
                            exact absurd H (by simp)
                      · rw [if_neg c13] at H
                        exact absurd H (by simp)
                    · rw [if_neg c12] at H
                      exact absurd H (by simp)
                  · rw [if_neg c11] at H
                    have c11b0 : decide (0 < x7_1) = false := decide_eq_false c11
                    clear c11
                    by_cases c28 : x5_1.size + (strOfNums y240).size ≤ 9223372036854775807
                    · rw [if_pos c28] at H
                      have c28b0 := eq_true c28
                      have c28b1 : decide (x5_1.size + (strOfNums y240).size ≤ 9223372036854775807) = true := decide_eq_true c28
                      try have c28b2 : (9223372036854775807 < x5_1.size + (strOfNums y240).size) = False := eq_false (Nat.not_lt.2 c28)
                      by_cases c29 : x6_1.size + (strOfNums y240).size ≤ 9223372036854775807
                      · rw [if_pos c29] at H
                        have c29b0 := eq_true c29
                        have c29b1 : decide (x6_1.size + (strOfNums y240).size ≤ 9223372036854775807) = true := decide_eq_true c29
                        try have c29b2 : (9223372036854775807 < x6_1.size + (strOfNums y240).size) = False := eq_false (Nat.not_lt.2 c29)
                        have H' := Aside0.mk H
                        clear H
                        have p239 : 0 ≤ (x7_1 : Int) := of_decide_eq_true (by first | (with_reducible assumption) | assumption)
                        have q239 : x7_1 < (l0.length : Int) := of_decide_eq_true (by first | (with_reducible assumption) | assumption)
                        obtain ⟨ad239, e239, hx239_0⟩ := Kd.at_int HR0.out x7_1 p239 q239
                        cases e239
                        replace hx239_0 := (HB.out.cell (World.block_lt_of_cell? w _ hx239_0)).trans hx239_0
                        replace p239 := eq_true p239
                        replace q239 := eq_true q239
                        go_wp2_with (first | ((with_reducible refine gate_dst (N := 32) rfl ?_); (try (refine gate_guard (by rfl) ?_; dsimp only)); refine Kd.R_lit (Kd.int .u8) _ 5 ?hg (N := 32) ?hd (xs := ([(wrap64 (97 + (Go.bits .and .i64 (rd l0 x7_1) 15))) % 256] : List Int)) (inner := [.int .u8 ((wrap64 (97 + (Go.bits .and .i64 (rd l0 x7_1) 15))) % 256)]) (ok := fun _ => True) (okp := fun _ => True) ?hr ?hp (fun _ hk => hk) trivial (Below.refl _ _) (Nat.le_refl _) (by simp) ?_; (case hd => rfl); (case hg => rfl); (case hr => first | (go_simp; done) | (go_simp; rfl)); (case hp => exact (Reps.one (show Kd.M (Kd.int .u8) _ _ _ ((wrap64 (97 + (Go.bits .and .i64 (rd l0 x7_1) 15))) % 256) [.int .u8 ((wrap64 (97 + (Go.bits .and .i64 (rd l0 x7_1) 15))) % 256)] from rfl) (Reps.none _ _))); intro v241 w30 ho31 hb hg_ hnew_; clear hg_ hnew_; (first | rw [← Ny240.out] at ho31 | (simp only [Int.reduceToNat] at ho31; rw [← Ny240.out] at ho31)); have n0_ := Aside0.mk (Kd.R_lower ho31 (below_size (by repeat (first | (with_reducible first | exact HB.out | apply below_alloc | apply pw_below_drewN | apply below_drew1) | exact HB.out)))); have n1_ := Aside0.mk (below_step (by repeat (first | (with_reducible first | exact HB.out | apply below_alloc | apply pw_below_drewN | apply below_drew1) | exact HB.out)) hb); clear HB; have HO242 := n0_; have HB := n1_; clear n0_ n1_; clear hb ho31; have hcv32 := own_string (P := Tryd.prog) Tryd.underlying36 Tryd.underlying5 Tryd.underlying9 (Kd.own_of_R HO242.out)))
                        go_roundg kj5
                        case measure => have := HK1.out; have := HJ5.out; omega
                        case rel => exact ⟨(x5_1 ++ (strOfNums y240)), (x6_1 ++ (strOfNums y240)), (wrap64 (x7_1 + 1)), (by first | rfl | (simp; done) | (simp [*]; done)), (by first | rfl | (simp; done) | (simp [*]; done)), (by first | rfl | (simp; done) | (simp [*]; done)), H', ⟨by have := HK1.out; have := HJ5.out; omega⟩, ⟨by repeat (first | (with_reducible first | exact HB.out | apply below_alloc | apply pw_below_drewN | apply below_drew1) | exact HB.out)⟩⟩
                      · rw [if_neg c29] at H
                        exact absurd H (by simp)
                    · rw [if_neg c28] at H
                      exact absurd H (by simp)
                · rw [if_neg c10] at H
                  exact absurd H (by simp)
              · rw [if_neg c9] at H
                exact absurd H (by simp)
            · replace c8 := Bool.eq_false_iff.mpr c8
              subst c8
              have H1 : (if x5_1.size + 1 ≤ 9223372036854775807 then ((lines_Cut.f (x5_1 ++ (⟨#[10]⟩ : ByteArray))).bind fun bt243 => (if x6_1.size + 1 ≤ 9223372036854775807 then ((lines_Cut.f (x6_1 ++ (⟨#[10]⟩ : ByteArray))).bind fun bt247 => (if (l0.length : Int) = 0 then (if (bt243.1.length : Int) = 0 then ((cruciblelaw0_Num.f bt243.2).bind fun t251 => (some (t251 == 0))) else (some false)) else ((cruciblelaw0_Num.f bt243.2).bind fun t252 => (if t252 = 0 then ((cruciblelaw0_Num.f bt247.2).bind fun t253 => (if t253 = 0 then ((cruciblelaw0_SameLines.f kj5 bt243.1 bt247.1).bind fun t254 => (if t254 = true then ((cruciblelaw0_SameLines.f kj5 bt243.1 (([(⟨false, x5_1⟩ : S39)] : List (S39)))).bind fun t258 => (some t258)) else (some false))) else (some false))) else (some false))))) else (none))) else (none)) = some r := by rw [if_neg (show ¬ (false = true) by decide)] at H; exact H
              clear H
              have H := H1
              clear H1
              by_cases c33 : x5_1.size + 1 ≤ 9223372036854775807
              · rw [if_pos c33] at H
                have c33b0 := eq_true c33
                have c33b1 : decide (x5_1.size + 1 ≤ 9223372036854775807) = true := decide_eq_true c33
                try have c33b2 : (9223372036854775807 < x5_1.size + 1) = False := eq_false (Nat.not_lt.2 c33)
                replace H := Option.bind_eq_some_iff.mp H
                obtain ⟨⟨t243, t244⟩, A340, H⟩ := H
                replace H : (if x6_1.size + 1 ≤ 9223372036854775807 then ((lines_Cut.f (x6_1 ++ (⟨#[10]⟩ : ByteArray))).bind fun bt247 => (if (l0.length : Int) = 0 then (if (t243.length : Int) = 0 then ((cruciblelaw0_Num.f t244).bind fun t251 => (some (t251 == 0))) else (some false)) else ((cruciblelaw0_Num.f t244).bind fun t252 => (if t252 = 0 then ((cruciblelaw0_Num.f bt247.2).bind fun t253 => (if t253 = 0 then ((cruciblelaw0_SameLines.f kj5 t243 bt247.1).bind fun t254 => (if t254 = true then ((cruciblelaw0_SameLines.f kj5 t243 (([(⟨false, x5_1⟩ : S39)] : List (S39)))).bind fun t258 => (some t258)) else (some false))) else (some false))) else (some false))))) else (none)) = some r := H
                have A34 := Aside0.mk A340
                clear A340
                by_cases c35 : x6_1.size + 1 ≤ 9223372036854775807
                · rw [if_pos c35] at H
                  have c35b0 := eq_true c35
                  have c35b1 : decide (x6_1.size + 1 ≤ 9223372036854775807) = true := decide_eq_true c35
                  try have c35b2 : (9223372036854775807 < x6_1.size + 1) = False := eq_false (Nat.not_lt.2 c35)
                  replace H := Option.bind_eq_some_iff.mp H
                  obtain ⟨⟨t247, t248⟩, A360, H⟩ := H
                  replace H : (if (l0.length : Int) = 0 then (if (t243.length : Int) = 0 then ((cruciblelaw0_Num.f t244).bind fun t251 => (some (t251 == 0))) else (some false)) else ((cruciblelaw0_Num.f t244).bind fun t252 => (if t252 = 0 then ((cruciblelaw0_Num.f t248).bind fun t253 => (if t253 = 0 then ((cruciblelaw0_SameLines.f kj5 t243 t247).bind fun t254 => (if t254 = true then ((cruciblelaw0_SameLines.f kj5 t243 (([(⟨false, x5_1⟩ : S39)] : List (S39)))).bind fun t258 => (some t258)) else (some false))) else (some false))) else (some false)))) = some r := H
                  have A36 := Aside0.mk A360
                  clear A360
                  by_cases c37 : (l0.length : Int) = 0
                  · rw [if_pos c37] at H
                    have c37b0 : ((l0.length : Int) == 0) = true := beq_iff_eq.mpr c37
                    have c37b1 : ((l0.length : Int) != 0) = false := bne_eq_false_iff_eq.mpr c37
                    clear c37
                    by_cases c38 : (t243.length : Int) = 0
                    · rw [if_pos c38] at H
                      have c38b0 : ((t243.length : Int) == 0) = true := beq_iff_eq.mpr c38
                      have c38b1 : ((t243.length : Int) != 0) = false := bne_eq_false_iff_eq.mpr c38
                      clear c38
                      replace H := Option.bind_eq_some_iff.mp H
                      obtain ⟨t251, A390, H⟩ := H
                      replace H : (some (t251 == 0)) = some r := H
                      have A39 := Aside0.mk A390
                      clear A390
                      obtain rfl := Option.some.inj H
                      go_wp2_with (first | ((with_reducible refine gate_callee (f := 8) rfl ?_); refine goesL_ (some 56) rfl rfl Tryd.func8 (by kernel_rfl) rfl #[.string (x5_1 ++ (⟨#[10]⟩ : ByteArray))] rfl (by (try simp only [List.map_toArray, List.map_cons, List.map_nil]); first | done | rfl | (simp only [List.length_drop, List.length_take]; rfl)) ?_; (with_reducible refine (lines_Cut.calls (x5_1 ++ (⟨#[10]⟩ : ByteArray)) t243 t244 _ A34.out).mono ?_); rintro e w40 ⟨v245, rfl, ho0, hb⟩; refine ⟨_, rfl, ?_⟩; have n0_ := Aside0.mk (Kd.R_lower ho0 (below_size (by repeat (first | (with_reducible first | exact HB.out | apply below_alloc | apply pw_below_drewN | apply below_drew1) | exact HB.out)))); have n1_ := Aside0.mk (below_step (by repeat (first | (with_reducible first | exact HB.out | apply below_alloc | apply pw_below_drewN | apply below_drew1) | exact HB.out)) hb); clear HB; have HO246 := n0_; have HB := n1_; clear n0_ n1_; (try clear hb); (try clear hb2); (try clear hk); (try clear hi); (try clear ho0)) | ((with_reducible refine gate_callee (f := 8) rfl ?_); refine goesL_ (some 62) rfl rfl Tryd.func8 (by kernel_rfl) rfl #[.string (x6_1 ++ (⟨#[10]⟩ : ByteArray))] rfl (by (try simp only [List.map_toArray, List.map_cons, List.map_nil]); first | done | rfl | (simp only [List.length_drop, List.length_take]; rfl)) ?_; (with_reducible refine (lines_Cut.calls (x6_1 ++ (⟨#[10]⟩ : ByteArray)) t247 t248 _ A36.out).mono ?_); rintro e w41 ⟨v249, rfl, ho0, hb⟩; refine ⟨_, rfl, ?_⟩; have n0_ := Aside0.mk (Kd.R_elder' (by (with_reducible repeat (first | apply Kd.R_alloc | apply Kd.R_drewN | apply Kd.R_drew)); exact HO246.out) (Kd.R_base ho0) hb); have n1_ := Aside0.mk (Kd.R_lower (Kd.R_new' ho0 (Kd.R_lt (by (with_reducible repeat (first | apply Kd.R_alloc | apply Kd.R_drewN | apply Kd.R_drew)); exact HO246.out))) (below_size (by repeat (first | (with_reducible first | exact HB.out | apply below_alloc | apply pw_below_drewN | apply below_drew1) | exact HB.out)))); have n2_ := Aside0.mk (below_step (by repeat (first | (with_reducible first | exact HB.out | apply below_alloc | apply pw_below_drewN | apply below_drew1) | exact HB.out)) hb); clear HO246; clear HB; have HO246 := n0_; have HO250 := n1_; have HB := n2_; clear n0_ n1_ n2_; (try clear hb); (try clear hb2); (try clear hk); (try clear hi); (try clear ho0); obtain ⟨Ao42, co42, eo42⟩ := Kd.R_slice HO246.out; subst eo42) | (go_at_call 11; (with_reducible refine (cruciblelaw0_Num.calls t244 t251 _ A39.out).mono ?_); rintro e w' ⟨rfl, ⟨nd, rfl⟩⟩))
                      go_ret
                      exact ⟨by first | rfl | (simp [errW_none, errW_some] <;> rfl) | (simp [*, errW_none, errW_some] <;> rfl), by repeat (first | (with_reducible first | exact HB.out | apply below_alloc | apply pw_below_drewN | apply below_drew1) | exact HB.out)⟩
                    · rw [if_neg c38] at H
                      have c38b0 : ((t243.length : Int) == 0) = false := beq_eq_false_iff_ne.mpr c38
                      have c38b1 : ((t243.length : Int) != 0) = true := bne_iff_ne.mpr c38
                      have c38b2 : ¬ (t243 = []) := fun h_ => c38 (by rw [h_]; rfl)
                      obtain rfl := Option.some.inj H
                      go_wp2_with (first | ((with_reducible refine gate_callee (f := 8) rfl ?_); refine goesL_ (some 56) rfl rfl Tryd.func8 (by kernel_rfl) rfl #[.string (x5_1 ++ (⟨#[10]⟩ : ByteArray))] rfl (by (try simp only [List.map_toArray, List.map_cons, List.map_nil]); first | done | rfl | (simp only [List.length_drop, List.length_take]; rfl)) ?_; (with_reducible refine (lines_Cut.calls (x5_1 ++ (⟨#[10]⟩ : ByteArray)) t243 t244 _ A34.out).mono ?_); rintro e w43 ⟨v245, rfl, ho0, hb⟩; refine ⟨_, rfl, ?_⟩; have n0_ := Aside0.mk (Kd.R_lower ho0 (below_size (by repeat (first | (with_reducible first | exact HB.out | apply below_alloc | apply pw_below_drewN | apply below_drew1) | exact HB.out)))); have n1_ := Aside0.mk (below_step (by repeat (first | (with_reducible first | exact HB.out | apply below_alloc | apply pw_below_drewN | apply below_drew1) | exact HB.out)) hb); clear HB; have HO246 := n0_; have HB := n1_; clear n0_ n1_; (try clear hb); (try clear hb2); (try clear hk); (try clear hi); (try clear ho0)) | ((with_reducible refine gate_callee (f := 8) rfl ?_); refine goesL_ (some 62) rfl rfl Tryd.func8 (by kernel_rfl) rfl #[.string (x6_1 ++ (⟨#[10]⟩ : ByteArray))] rfl (by (try simp only [List.map_toArray, List.map_cons, List.map_nil]); first | done | rfl | (simp only [List.length_drop, List.length_take]; rfl)) ?_; (with_reducible refine (lines_Cut.calls (x6_1 ++ (⟨#[10]⟩ : ByteArray)) t247 t248 _ A36.out).mono ?_); rintro e w44 ⟨v249, rfl, ho0, hb⟩; refine ⟨_, rfl, ?_⟩; have n0_ := Aside0.mk (Kd.R_elder' (by (with_reducible repeat (first | apply Kd.R_alloc | apply Kd.R_drewN | apply Kd.R_drew)); exact HO246.out) (Kd.R_base ho0) hb); have n1_ := Aside0.mk (Kd.R_lower (Kd.R_new' ho0 (Kd.R_lt (by (with_reducible repeat (first | apply Kd.R_alloc | apply Kd.R_drewN | apply Kd.R_drew)); exact HO246.out))) (below_size (by repeat (first | (with_reducible first | exact HB.out | apply below_alloc | apply pw_below_drewN | apply below_drew1) | exact HB.out)))); have n2_ := Aside0.mk (below_step (by repeat (first | (with_reducible first | exact HB.out | apply below_alloc | apply pw_below_drewN | apply below_drew1) | exact HB.out)) hb); clear HO246; clear HB; have HO246 := n0_; have HO250 := n1_; have HB := n2_; clear n0_ n1_ n2_; (try clear hb); (try clear hb2); (try clear hk); (try clear hi); (try clear ho0); obtain ⟨Ao45, co45, eo45⟩ := Kd.R_slice HO246.out; subst eo45))
                      go_ret
                      exact ⟨by first | rfl | (simp [errW_none, errW_some] <;> rfl) | (simp [*, errW_none, errW_some] <;> rfl), by repeat (first | (with_reducible first | exact HB.out | apply below_alloc | apply pw_below_drewN | apply below_drew1) | exact HB.out)⟩
                  · rw [if_neg c37] at H
                    have c37b0 : ((l0.length : Int) == 0) = false := beq_eq_false_iff_ne.mpr c37
                    have c37b1 : ((l0.length : Int) != 0) = true := bne_iff_ne.mpr c37
                    have c37b2 : ¬ (l0 = []) := fun h_ => c37 (by rw [h_]; rfl)
                    replace H := Option.bind_eq_some_iff.mp H
                    obtain ⟨t252, A460, H⟩ := H
                    replace H : (if t252 = 0 then ((cruciblelaw0_Num.f t248).bind fun t253 => (if t253 = 0 then ((cruciblelaw0_SameLines.f kj5 t243 t247).bind fun t254 => (if t254 = true then ((cruciblelaw0_SameLines.f kj5 t243 (([(⟨false, x5_1⟩ : S39)] : List (S39)))).bind fun t258 => (some t258)) else (some false))) else (some false))) else (some false)) = some r := H
                    have A46 := Aside0.mk A460
                    clear A460
                    by_cases c47 : t252 = 0
                    · rw [if_pos c47] at H
                      have c47b0 : (t252 == 0) = true := beq_iff_eq.mpr c47
                      have c47b1 : (t252 != 0) = false := bne_eq_false_iff_eq.mpr c47
                      clear c47
                      replace H := Option.bind_eq_some_iff.mp H
                      obtain ⟨t253, A480, H⟩ := H
                      replace H : (if t253 = 0 then ((cruciblelaw0_SameLines.f kj5 t243 t247).bind fun t254 => (if t254 = true then ((cruciblelaw0_SameLines.f kj5 t243 (([(⟨false, x5_1⟩ : S39)] : List (S39)))).bind fun t258 => (some t258)) else (some false))) else (some false)) = some r := H
                      have A48 := Aside0.mk A480
                      clear A480
                      by_cases c49 : t253 = 0
                      · rw [if_pos c49] at H
                        have c49b0 : (t253 == 0) = true := beq_iff_eq.mpr c49
                        have c49b1 : (t253 != 0) = false := bne_eq_false_iff_eq.mpr c49
                        clear c49
                        replace H := Option.bind_eq_some_iff.mp H
                        obtain ⟨t254, A500, H⟩ := H
                        replace H : (if t254 = true then ((cruciblelaw0_SameLines.f kj5 t243 (([(⟨false, x5_1⟩ : S39)] : List (S39)))).bind fun t258 => (some t258)) else (some false)) = some r := H
                        have A50 := Aside0.mk A500
                        clear A500
                        by_cases c51 : t254 = true
                        · subst c51
                          have H1 : ((cruciblelaw0_SameLines.f kj5 t243 (([(⟨false, x5_1⟩ : S39)] : List (S39)))).bind fun t258 => (some t258)) = some r := by rw [if_pos rfl] at H; exact H
                          clear H
                          have H := H1
                          clear H1
                          obtain ⟨y255, hy255⟩ : ∃ y_ : List (S39), y_ = (([(⟨false, x5_1⟩ : S39)] : List (S39))) := ⟨_, rfl⟩
                          replace H : ((cruciblelaw0_SameLines.f kj5 t243 y255).bind fun t258 => (some t258)) = some r := by first | (rw [hy255]; with_reducible exact H) | (have H2_ := (Option.bind_some _ _).symm.trans H; rw [hy255]; with_reducible exact H2_) | (have H2_ := (Option.bind_some _ _).symm.trans H; with_reducible exact H2_) | with_reducible exact H | (rw [hy255]; exact H) | exact H
                          have Ny255 := Aside0.mk hy255
                          clear hy255
                          replace H := Option.bind_eq_some_iff.mp H
                          obtain ⟨t258, A520, H⟩ := H
                          replace H : (some t258) = some r := H
                          have A52 := Aside0.mk A520
                          clear A520
                          obtain rfl := Option.some.inj H
                          go_wp2_with (first | ((with_reducible refine gate_callee (f := 8) rfl ?_); refine goesL_ (some 56) rfl rfl Tryd.func8 (by kernel_rfl) rfl #[.string (x5_1 ++ (⟨#[10]⟩ : ByteArray))] rfl (by (try simp only [List.map_toArray, List.map_cons, List.map_nil]); first | done | rfl | (simp only [List.length_drop, List.length_take]; rfl)) ?_; (with_reducible refine (lines_Cut.calls (x5_1 ++ (⟨#[10]⟩ : ByteArray)) t243 t244 _ A34.out).mono ?_); rintro e w53 ⟨v245, rfl, ho0, hb⟩; refine ⟨_, rfl, ?_⟩; have n0_ := Aside0.mk (Kd.R_lower ho0 (below_size (by repeat (first | (with_reducible first | exact HB.out | apply below_alloc | apply pw_below_drewN | apply below_drew1) | exact HB.out)))); have n1_ := Aside0.mk (below_step (by repeat (first | (with_reducible first | exact HB.out | apply below_alloc | apply pw_below_drewN | apply below_drew1) | exact HB.out)) hb); clear HB; have HO246 := n0_; have HB := n1_; clear n0_ n1_; (try clear hb); (try clear hb2); (try clear hk); (try clear hi); (try clear ho0)) | ((with_reducible refine gate_callee (f := 8) rfl ?_); refine goesL_ (some 62) rfl rfl Tryd.func8 (by kernel_rfl) rfl #[.string (x6_1 ++ (⟨#[10]⟩ : ByteArray))] rfl (by (try simp only [List.map_toArray, List.map_cons, List.map_nil]); first | done | rfl | (simp only [List.length_drop, List.length_take]; rfl)) ?_; (with_reducible refine (lines_Cut.calls (x6_1 ++ (⟨#[10]⟩ : ByteArray)) t247 t248 _ A36.out).mono ?_); rintro e w54 ⟨v249, rfl, ho0, hb⟩; refine ⟨_, rfl, ?_⟩; have n0_ := Aside0.mk (Kd.R_elder' (by (with_reducible repeat (first | apply Kd.R_alloc | apply Kd.R_drewN | apply Kd.R_drew)); exact HO246.out) (Kd.R_base ho0) hb); have n1_ := Aside0.mk (Kd.R_lower (Kd.R_new' ho0 (Kd.R_lt (by (with_reducible repeat (first | apply Kd.R_alloc | apply Kd.R_drewN | apply Kd.R_drew)); exact HO246.out))) (below_size (by repeat (first | (with_reducible first | exact HB.out | apply below_alloc | apply pw_below_drewN | apply below_drew1) | exact HB.out)))); have n2_ := Aside0.mk (below_step (by repeat (first | (with_reducible first | exact HB.out | apply below_alloc | apply pw_below_drewN | apply below_drew1) | exact HB.out)) hb); clear HO246; clear HB; have HO246 := n0_; have HO250 := n1_; have HB := n2_; clear n0_ n1_ n2_; (try clear hb); (try clear hb2); (try clear hk); (try clear hi); (try clear ho0)) | ((with_reducible refine gate_callee (f := 11) rfl ?_); refine goesL_ (some 77) rfl rfl Tryd.func11 (by kernel_rfl) rfl #[.int .i64 t244] rfl (by (try simp only [List.map_toArray, List.map_cons, List.map_nil]); first | done | rfl | (simp only [List.length_drop, List.length_take]; rfl)) ?_; (with_reducible refine (cruciblelaw0_Num.calls t244 t252 _ A46.out).mono ?_); rintro e w' ⟨rfl, ⟨nd, rfl⟩⟩; refine ⟨_, rfl, ?_⟩) | (go_at_call 11; (with_reducible refine (cruciblelaw0_Num.calls t248 t253 _ A48.out).mono ?_); rintro e w' ⟨rfl, ⟨nd, rfl⟩⟩; obtain ⟨Ao55, co55, eo55⟩ := Kd.R_slice HO246.out; subst eo55; obtain ⟨Ao56, co56, eo56⟩ := Kd.R_slice HO250.out; subst eo56) | (go_at_call 10; (with_reducible refine (cruciblelaw0_SameLines.calls kj5 _ _ t243 _ _ t247 true _ ?side1 ?side2 ?side3 ?side4 A50.out).mono ?_); (case side1 => repeat (first | exact (Kd.R_reads' HO246.out).2.2 | (with_reducible refine Kd.C_alloc ?_ _) | (with_reducible refine Kd.C_drewN ?_ _) | (with_reducible refine Kd.C_drew ?_))); (case side2 => exact (Kd.R_reads' HO246.out).2.1); (case side3 => repeat (first | exact (Kd.R_reads' HO250.out).2.2 | (with_reducible refine Kd.C_alloc ?_ _) | (with_reducible refine Kd.C_drewN ?_ _) | (with_reducible refine Kd.C_drew ?_))); (case side4 => exact (Kd.R_reads' HO250.out).2.1); rintro e w' ⟨rfl, ⟨nd, rfl⟩⟩) | ((with_reducible refine gate_dst (N := 93) rfl ?_); (try (refine gate_guard (by rfl) ?_; dsimp only)); refine Kd.R_lit k39 _ 39 ?hg (N := 93) ?hd (xs := ([(⟨false, x5_1⟩ : S39)] : List (S39))) (inner := [.bool false, .string x5_1]) (ok := fun _ => True) (okp := fun _ => True) ?hr ?hp (fun _ hk => hk) trivial (Below.refl _ _) (Nat.le_refl _) (by simp) ?_; (case hd => rfl); (case hg => rfl); (case hr => first | (go_simp; done) | (go_simp; rfl)); (case hp => exact (Reps.c2 (show Kd.M k39 _ _ _ (⟨false, x5_1⟩ : S39) [.bool false, .string x5_1] from (k39_mkM _ _ _ (⟨false, x5_1⟩ : S39) )) (Reps.none _ _))); intro v256 w57 ho58 hb hg_ hnew_; clear hg_ hnew_; (first | rw [← Ny255.out] at ho58 | (simp only [Int.reduceToNat] at ho58; rw [← Ny255.out] at ho58)); have n0_ := Aside0.mk (Kd.R_elder' (by (with_reducible repeat (first | apply Kd.R_alloc | apply Kd.R_drewN | apply Kd.R_drew)); exact HO246.out) (Kd.R_base ho58) hb); have n1_ := Aside0.mk (Kd.R_elder' (by (with_reducible repeat (first | apply Kd.R_alloc | apply Kd.R_drewN | apply Kd.R_drew)); exact HO250.out) (Kd.R_base ho58) hb); have n2_ := Aside0.mk (Kd.R_lower (Kd.R_new' (Kd.R_new' ho58 (Kd.R_lt (by (with_reducible repeat (first | apply Kd.R_alloc | apply Kd.R_drewN | apply Kd.R_drew)); exact HO246.out))) (Kd.R_lt (by (with_reducible repeat (first | apply Kd.R_alloc | apply Kd.R_drewN | apply Kd.R_drew)); exact HO250.out))) (below_size (by repeat (first | (with_reducible first | exact HB.out | apply below_alloc | apply pw_below_drewN | apply below_drew1) | exact HB.out)))); have n3_ := Aside0.mk (below_step (by repeat (first | (with_reducible first | exact HB.out | apply below_alloc | apply pw_below_drewN | apply below_drew1) | exact HB.out)) hb); clear HO246; clear HO250; clear HB; have HO246 := n0_; have HO250 := n1_; have HO257 := n2_; have HB := n3_; clear n0_ n1_ n2_ n3_; clear hb ho58; obtain ⟨Ao59, co59, eo59⟩ := Kd.R_slice HO257.out; subst eo59) | (go_at_call 10; (with_reducible refine (cruciblelaw0_SameLines.calls kj5 _ _ t243 _ _ y255 t258 _ ?side1 ?side2 ?side3 ?side4 A52.out).mono ?_); (case side1 => repeat (first | exact (Kd.R_reads' HO246.out).2.2 | (with_reducible refine Kd.C_alloc ?_ _) | (with_reducible refine Kd.C_drewN ?_ _) | (with_reducible refine Kd.C_drew ?_))); (case side2 => exact (Kd.R_reads' HO246.out).2.1); (case side3 => repeat (first | exact (Kd.R_reads' HO257.out).2.2 | (with_reducible refine Kd.C_alloc ?_ _) | (with_reducible refine Kd.C_drewN ?_ _) | (with_reducible refine Kd.C_drew ?_))); (case side4 => exact (Kd.R_reads' HO257.out).2.1); rintro e w' ⟨rfl, ⟨nd, rfl⟩⟩))
                          go_ret
                          exact ⟨by first | rfl | (simp [errW_none, errW_some] <;> rfl) | (simp [*, errW_none, errW_some] <;> rfl), by repeat (first | (with_reducible first | exact HB.out | apply below_alloc | apply pw_below_drewN | apply below_drew1) | exact HB.out)⟩
                        · replace c51 := Bool.eq_false_iff.mpr c51
                          subst c51
                          have H1 : (some false) = some r := by rw [if_neg (show ¬ (false = true) by decide)] at H; exact H
                          clear H
                          have H := H1
                          clear H1
                          obtain rfl := Option.some.inj H
                          go_wp2_with (first | ((with_reducible refine gate_callee (f := 8) rfl ?_); refine goesL_ (some 56) rfl rfl Tryd.func8 (by kernel_rfl) rfl #[.string (x5_1 ++ (⟨#[10]⟩ : ByteArray))] rfl (by (try simp only [List.map_toArray, List.map_cons, List.map_nil]); first | done | rfl | (simp only [List.length_drop, List.length_take]; rfl)) ?_; (with_reducible refine (lines_Cut.calls (x5_1 ++ (⟨#[10]⟩ : ByteArray)) t243 t244 _ A34.out).mono ?_); rintro e w60 ⟨v245, rfl, ho0, hb⟩; refine ⟨_, rfl, ?_⟩; have n0_ := Aside0.mk (Kd.R_lower ho0 (below_size (by repeat (first | (with_reducible first | exact HB.out | apply below_alloc | apply pw_below_drewN | apply below_drew1) | exact HB.out)))); have n1_ := Aside0.mk (below_step (by repeat (first | (with_reducible first | exact HB.out | apply below_alloc | apply pw_below_drewN | apply below_drew1) | exact HB.out)) hb); clear HB; have HO246 := n0_; have HB := n1_; clear n0_ n1_; (try clear hb); (try clear hb2); (try clear hk); (try clear hi); (try clear ho0)) | ((with_reducible refine gate_callee (f := 8) rfl ?_); refine goesL_ (some 62) rfl rfl Tryd.func8 (by kernel_rfl) rfl #[.string (x6_1 ++ (⟨#[10]⟩ : ByteArray))] rfl (by (try simp only [List.map_toArray, List.map_cons, List.map_nil]); first | done | rfl | (simp only [List.length_drop, List.length_take]; rfl)) ?_; (with_reducible refine (lines_Cut.calls (x6_1 ++ (⟨#[10]⟩ : ByteArray)) t247 t248 _ A36.out).mono ?_); rintro e w61 ⟨v249, rfl, ho0, hb⟩; refine ⟨_, rfl, ?_⟩; have n0_ := Aside0.mk (Kd.R_elder' (by (with_reducible repeat (first | apply Kd.R_alloc | apply Kd.R_drewN | apply Kd.R_drew)); exact HO246.out) (Kd.R_base ho0) hb); have n1_ := Aside0.mk (Kd.R_lower (Kd.R_new' ho0 (Kd.R_lt (by (with_reducible repeat (first | apply Kd.R_alloc | apply Kd.R_drewN | apply Kd.R_drew)); exact HO246.out))) (below_size (by repeat (first | (with_reducible first | exact HB.out | apply below_alloc | apply pw_below_drewN | apply below_drew1) | exact HB.out)))); have n2_ := Aside0.mk (below_step (by repeat (first | (with_reducible first | exact HB.out | apply below_alloc | apply pw_below_drewN | apply below_drew1) | exact HB.out)) hb); clear HO246; clear HB; have HO246 := n0_; have HO250 := n1_; have HB := n2_; clear n0_ n1_ n2_; (try clear hb); (try clear hb2); (try clear hk); (try clear hi); (try clear ho0)) | ((with_reducible refine gate_callee (f := 11) rfl ?_); refine goesL_ (some 77) rfl rfl Tryd.func11 (by kernel_rfl) rfl #[.int .i64 t244] rfl (by (try simp only [List.map_toArray, List.map_cons, List.map_nil]); first | done | rfl | (simp only [List.length_drop, List.length_take]; rfl)) ?_; (with_reducible refine (cruciblelaw0_Num.calls t244 t252 _ A46.out).mono ?_); rintro e w' ⟨rfl, ⟨nd, rfl⟩⟩; refine ⟨_, rfl, ?_⟩) | (go_at_call 11; (with_reducible refine (cruciblelaw0_Num.calls t248 t253 _ A48.out).mono ?_); rintro e w' ⟨rfl, ⟨nd, rfl⟩⟩; obtain ⟨Ao62, co62, eo62⟩ := Kd.R_slice HO246.out; subst eo62; obtain ⟨Ao63, co63, eo63⟩ := Kd.R_slice HO250.out; subst eo63) | (go_at_call 10; (with_reducible refine (cruciblelaw0_SameLines.calls kj5 _ _ t243 _ _ t247 false _ ?side1 ?side2 ?side3 ?side4 A50.out).mono ?_); (case side1 => repeat (first | exact (Kd.R_reads' HO246.out).2.2 | (with_reducible refine Kd.C_alloc ?_ _) | (with_reducible refine Kd.C_drewN ?_ _) | (with_reducible refine Kd.C_drew ?_))); (case side2 => exact (Kd.R_reads' HO246.out).2.1); (case side3 => repeat (first | exact (Kd.R_reads' HO250.out).2.2 | (with_reducible refine Kd.C_alloc ?_ _) | (with_reducible refine Kd.C_drewN ?_ _) | (with_reducible refine Kd.C_drew ?_))); (case side4 => exact (Kd.R_reads' HO250.out).2.1); rintro e w' ⟨rfl, ⟨nd, rfl⟩⟩))
                          go_ret
                          exact ⟨by first | rfl | (simp [errW_none, errW_some] <;> rfl) | (simp [*, errW_none, errW_some] <;> rfl), by repeat (first | (with_reducible first | exact HB.out | apply below_alloc | apply pw_below_drewN | apply below_drew1) | exact HB.out)⟩
                      · rw [if_neg c49] at H
                        have c49b0 : (t253 == 0) = false := beq_eq_false_iff_ne.mpr c49
                        have c49b1 : (t253 != 0) = true := bne_iff_ne.mpr c49
                        obtain rfl := Option.some.inj H
                        go_wp2_with (first | ((with_reducible refine gate_callee (f := 8) rfl ?_); refine goesL_ (some 56) rfl rfl Tryd.func8 (by kernel_rfl) rfl #[.string (x5_1 ++ (⟨#[10]⟩ : ByteArray))] rfl (by (try simp only [List.map_toArray, List.map_cons, List.map_nil]); first | done | rfl | (simp only [List.length_drop, List.length_take]; rfl)) ?_; (with_reducible refine (lines_Cut.calls (x5_1 ++ (⟨#[10]⟩ : ByteArray)) t243 t244 _ A34.out).mono ?_); rintro e w64 ⟨v245, rfl, ho0, hb⟩; refine ⟨_, rfl, ?_⟩; have n0_ := Aside0.mk (Kd.R_lower ho0 (below_size (by repeat (first | (with_reducible first | exact HB.out | apply below_alloc | apply pw_below_drewN | apply below_drew1) | exact HB.out)))); have n1_ := Aside0.mk (below_step (by repeat (first | (with_reducible first | exact HB.out | apply below_alloc | apply pw_below_drewN | apply below_drew1) | exact HB.out)) hb); clear HB; have HO246 := n0_; have HB := n1_; clear n0_ n1_; (try clear hb); (try clear hb2); (try clear hk); (try clear hi); (try clear ho0)) | ((with_reducible refine gate_callee (f := 8) rfl ?_); refine goesL_ (some 62) rfl rfl Tryd.func8 (by kernel_rfl) rfl #[.string (x6_1 ++ (⟨#[10]⟩ : ByteArray))] rfl (by (try simp only [List.map_toArray, List.map_cons, List.map_nil]); first | done | rfl | (simp only [List.length_drop, List.length_take]; rfl)) ?_; (with_reducible refine (lines_Cut.calls (x6_1 ++ (⟨#[10]⟩ : ByteArray)) t247 t248 _ A36.out).mono ?_); rintro e w65 ⟨v249, rfl, ho0, hb⟩; refine ⟨_, rfl, ?_⟩; have n0_ := Aside0.mk (Kd.R_elder' (by (with_reducible repeat (first | apply Kd.R_alloc | apply Kd.R_drewN | apply Kd.R_drew)); exact HO246.out) (Kd.R_base ho0) hb); have n1_ := Aside0.mk (Kd.R_lower (Kd.R_new' ho0 (Kd.R_lt (by (with_reducible repeat (first | apply Kd.R_alloc | apply Kd.R_drewN | apply Kd.R_drew)); exact HO246.out))) (below_size (by repeat (first | (with_reducible first | exact HB.out | apply below_alloc | apply pw_below_drewN | apply below_drew1) | exact HB.out)))); have n2_ := Aside0.mk (below_step (by repeat (first | (with_reducible first | exact HB.out | apply below_alloc | apply pw_below_drewN | apply below_drew1) | exact HB.out)) hb); clear HO246; clear HB; have HO246 := n0_; have HO250 := n1_; have HB := n2_; clear n0_ n1_ n2_; (try clear hb); (try clear hb2); (try clear hk); (try clear hi); (try clear ho0)) | ((with_reducible refine gate_callee (f := 11) rfl ?_); refine goesL_ (some 77) rfl rfl Tryd.func11 (by kernel_rfl) rfl #[.int .i64 t244] rfl (by (try simp only [List.map_toArray, List.map_cons, List.map_nil]); first | done | rfl | (simp only [List.length_drop, List.length_take]; rfl)) ?_; (with_reducible refine (cruciblelaw0_Num.calls t244 t252 _ A46.out).mono ?_); rintro e w' ⟨rfl, ⟨nd, rfl⟩⟩; refine ⟨_, rfl, ?_⟩) | (go_at_call 11; (with_reducible refine (cruciblelaw0_Num.calls t248 t253 _ A48.out).mono ?_); rintro e w' ⟨rfl, ⟨nd, rfl⟩⟩))
                        go_ret
                        exact ⟨by first | rfl | (simp [errW_none, errW_some] <;> rfl) | (simp [*, errW_none, errW_some] <;> rfl), by repeat (first | (with_reducible first | exact HB.out | apply below_alloc | apply pw_below_drewN | apply below_drew1) | exact HB.out)⟩
                    · rw [if_neg c47] at H
                      have c47b0 : (t252 == 0) = false := beq_eq_false_iff_ne.mpr c47
                      have c47b1 : (t252 != 0) = true := bne_iff_ne.mpr c47
                      obtain rfl := Option.some.inj H
                      go_wp2_with (first | ((with_reducible refine gate_callee (f := 8) rfl ?_); refine goesL_ (some 56) rfl rfl Tryd.func8 (by kernel_rfl) rfl #[.string (x5_1 ++ (⟨#[10]⟩ : ByteArray))] rfl (by (try simp only [List.map_toArray, List.map_cons, List.map_nil]); first | done | rfl | (simp only [List.length_drop, List.length_take]; rfl)) ?_; (with_reducible refine (lines_Cut.calls (x5_1 ++ (⟨#[10]⟩ : ByteArray)) t243 t244 _ A34.out).mono ?_); rintro e w66 ⟨v245, rfl, ho0, hb⟩; refine ⟨_, rfl, ?_⟩; have n0_ := Aside0.mk (Kd.R_lower ho0 (below_size (by repeat (first | (with_reducible first | exact HB.out | apply below_alloc | apply pw_below_drewN | apply below_drew1) | exact HB.out)))); have n1_ := Aside0.mk (below_step (by repeat (first | (with_reducible first | exact HB.out | apply below_alloc | apply pw_below_drewN | apply below_drew1) | exact HB.out)) hb); clear HB; have HO246 := n0_; have HB := n1_; clear n0_ n1_; (try clear hb); (try clear hb2); (try clear hk); (try clear hi); (try clear ho0)) | ((with_reducible refine gate_callee (f := 8) rfl ?_); refine goesL_ (some 62) rfl rfl Tryd.func8 (by kernel_rfl) rfl #[.string (x6_1 ++ (⟨#[10]⟩ : ByteArray))] rfl (by (try simp only [List.map_toArray, List.map_cons, List.map_nil]); first | done | rfl | (simp only [List.length_drop, List.length_take]; rfl)) ?_; (with_reducible refine (lines_Cut.calls (x6_1 ++ (⟨#[10]⟩ : ByteArray)) t247 t248 _ A36.out).mono ?_); rintro e w67 ⟨v249, rfl, ho0, hb⟩; refine ⟨_, rfl, ?_⟩; have n0_ := Aside0.mk (Kd.R_elder' (by (with_reducible repeat (first | apply Kd.R_alloc | apply Kd.R_drewN | apply Kd.R_drew)); exact HO246.out) (Kd.R_base ho0) hb); have n1_ := Aside0.mk (Kd.R_lower (Kd.R_new' ho0 (Kd.R_lt (by (with_reducible repeat (first | apply Kd.R_alloc | apply Kd.R_drewN | apply Kd.R_drew)); exact HO246.out))) (below_size (by repeat (first | (with_reducible first | exact HB.out | apply below_alloc | apply pw_below_drewN | apply below_drew1) | exact HB.out)))); have n2_ := Aside0.mk (below_step (by repeat (first | (with_reducible first | exact HB.out | apply below_alloc | apply pw_below_drewN | apply below_drew1) | exact HB.out)) hb); clear HO246; clear HB; have HO246 := n0_; have HO250 := n1_; have HB := n2_; clear n0_ n1_ n2_; (try clear hb); (try clear hb2); (try clear hk); (try clear hi); (try clear ho0)) | ((with_reducible refine gate_callee (f := 11) rfl ?_); refine goesL_ (some 77) rfl rfl Tryd.func11 (by kernel_rfl) rfl #[.int .i64 t244] rfl (by (try simp only [List.map_toArray, List.map_cons, List.map_nil]); first | done | rfl | (simp only [List.length_drop, List.length_take]; rfl)) ?_; (with_reducible refine (cruciblelaw0_Num.calls t244 t252 _ A46.out).mono ?_); rintro e w' ⟨rfl, ⟨nd, rfl⟩⟩; refine ⟨_, rfl, ?_⟩))
                      go_ret
                      exact ⟨by first | rfl | (simp [errW_none, errW_some] <;> rfl) | (simp [*, errW_none, errW_some] <;> rfl), by repeat (first | (with_reducible first | exact HB.out | apply below_alloc | apply pw_below_drewN | apply below_drew1) | exact HB.out)⟩
                · rw [if_neg c35] at H
                  exact absurd H (by simp)
              · rw [if_neg c33] at H
                exact absurd H (by simp)
  · replace c4 := Bool.eq_false_iff.mpr c4
    subst c4
    have H1 : (some false) = some r := by rw [if_neg (show ¬ (false = true) by decide)] at H; exact H
    clear H
    have H := H1
    clear H1
    obtain rfl := Option.some.inj H
    go_enter Tryd.func7, Tryd.ntmps7
    go_wp2_with (first | ((with_reducible refine gate_callee (f := 13) rfl ?_); refine goesL_ (some 13) rfl rfl Tryd.func13 (by kernel_rfl) rfl #[] rfl (by (try simp only [List.map_toArray, List.map_cons, List.map_nil]); first | done | rfl | (simp only [List.length_drop, List.length_take]; rfl)) ?_; (with_reducible refine (cruciblelaw6_awake.calls k  false _ A3.out).mono ?_); rintro e w68 ⟨rfl, hb⟩; refine ⟨_, rfl, ?_⟩; have n0_ := Aside0.mk (below_step (by repeat (first | (with_reducible first | exact HB.out | apply below_alloc | apply pw_below_drewN | apply below_drew1) | exact HB.out)) hb); clear HB; have HB := n0_; clear n0_; (try clear hb); (try clear hb2); (try clear hk); (try clear hi)))
    go_ret
    exact ⟨by first | rfl | (simp [errW_none, errW_some] <;> rfl) | (simp [*, errW_none, errW_some] <;> rfl), by repeat (first | (with_reducible first | exact HB.out | apply below_alloc | apply pw_below_drewN | apply below_drew1) | exact HB.out)⟩

/-- THE ONE PURE STATEMENT of cruciblelaw6_LineSplit: yours. -/
def cruciblelaw6_LineSplit.Pure : Prop := ∀ (l0 : List Int) (a1 : Int), l0.length ≤ maxLen → l0.length * 8 ≤ 140737488351232 → (∀ x ∈ l0, (Lit.int .i64 x).wf = true) → (Lit.int .i64 a1).wf = true → ∃ k, cruciblelaw6_LineSplit.f k l0 a1 = some true
theorem cruciblelaw6_LineSplit.walk (P : cruciblelaw6_LineSplit.Pure) (a0 : Option Addr) (len0 cap0 : Nat) (z0 : List Int) (a1 : Int) (w : World) (w0 : (a0 = none ∧ len0 = 0 ∧ cap0 = 0 ∧ z0 = []) ∨ ∃ x, a0 = some x ∧ len0 ≤ cap0 ∧ cap0 ≤ maxLen ∧ z0.length = cap0 ∧ (∀ i, i < z0.length → w.cell? (x.add i) = some (.int .i64 (z0.getD i 0))) ∧ ∀ n ∈ z0, (Lit.int .i64 n).wf = true) (y0 : len0 * 8 ≤ 140737488351232) (w1 : (Lit.int .i64 a1).wf = true) :
    Calls Tryd.prog 7 #[.slice a0 len0 cap0, .int .i64 a1] w fun e w' => e = .returned (.bool true) ∧ Below w.heap.size w w' := by
  obtain ⟨l0, rfl, hr0, hm0, hw0, hc0⟩ := ReadsInt.ofRowC w0
  obtain ⟨k, h⟩ := P l0 a1 hm0 y0 hw0 w1
  refine (cruciblelaw6_LineSplit.calls k _ _ l0 a1 true w (Kd.C_of_reads (d := (0 : Int)) (h1 := fun _ => rfl) hr0) hc0 h).mono ?_
  rintro e w' ⟨rfl, hd⟩
  exact ⟨rfl, hd⟩

end Go.Proofs.YtbkgcdjbkoeejaaDoor.Print
