-- By programs of ours (wip/tools/myprint.sh, sums.py) out of the translation.
import Derived.Test.YtbkgcdjbkoeejaaDoorP0
import Derived.Test.YtbkgcdjbkoeejaaDoorPCruciblelaw0SameLines
import Derived.Test.YtbkgcdjbkoeejaaDoorPCruciblelaw0Num
import Derived.Test.YtbkgcdjbkoeejaaDoorPCruciblelaw6Awake
import Derived.Test.YtbkgcdjbkoeejaaDoorHLines
namespace Go.Proofs.YtbkgcdjbkoeejaaDoor.Print
open Go.RowKit Go.Proofs.YtbkgcdjbkoeejaaDoorW.PrintWords Go.Proofs.YtbkgcdjbkoeejaaDoorW.PrintLast Go.Proofs.YtbkgcdjbkoeejaaDoorW.PrintMore
attribute [local go_sem] max2_int min2_int max_two min_two max_three min_three max_four min_four   -- for this text's walks alone
set_option linter.unusedVariables false
set_option linter.unusedSimpArgs false

/-! ### cruciblelaw6_LineRow: function 5 -/
mutual
def cruciblelaw6_LineRow.l0 : Nat → List Int → ByteArray → List (S39) → Int → Option (Bool)
  | 0, _, _, _, _ => none
  | k + 1, x0, x3, x4, x5 => if x5 < (x0.length : Int) then (cruciblelaw6_LineRow.j1 k x0 x3 x4 x5 (decide (x5 < 30))) else (cruciblelaw6_LineRow.j1 k x0 x3 x4 x5 false)
def cruciblelaw6_LineRow.j1 : Nat → List Int → ByteArray → List (S39) → Int → Bool → Option (Bool)
  | 0, _, _, _, _, _ => none
  | k + 1, x0, x3, x4, x5, x18 => if x18 = true then ((some (([(wrap64 (97 + (Go.bits .and .i64 x5 15))) % 256] : List Int) : List Int)).bind fun y191 => (if 0 ≤ x5 then (if x5 < (x0.length : Int) then (if (wrap64 (Int.tmod (IntKind.u64.wrap (rd x0 x5)) 8)) = 0 then (if x3.size + (strOfNums y191).size ≤ 9223372036854775807 then (if (x3 ++ (strOfNums y191)).size + 1 ≤ 9223372036854775807 then (if x4.length < 5864062014805 then (cruciblelaw6_LineRow.l0 k x0 ((x3 ++ (strOfNums y191)) ++ (⟨#[10]⟩ : ByteArray)) (x4 ++ [(⟨false, strOfNums y191⟩ : S39)]) (wrap64 (x5 + 1))) else (none)) else (none)) else (none)) else (if (wrap64 (Int.tmod (IntKind.u64.wrap (rd x0 x5)) 8)) = 1 then (if x3.size + 2 ≤ 9223372036854775807 then (if (x3 ++ (⟨#[32, 32]⟩ : ByteArray)).size + (strOfNums y191).size ≤ 9223372036854775807 then (if ((x3 ++ (⟨#[32, 32]⟩ : ByteArray)) ++ (strOfNums y191)).size + 2 ≤ 9223372036854775807 then (if x4.length < 5864062014805 then (cruciblelaw6_LineRow.l0 k x0 (((x3 ++ (⟨#[32, 32]⟩ : ByteArray)) ++ (strOfNums y191)) ++ (⟨#[32, 10]⟩ : ByteArray)) (x4 ++ [(⟨true, strOfNums y191⟩ : S39)]) (wrap64 (x5 + 1))) else (none)) else (none)) else (none)) else (none)) else (if (wrap64 (Int.tmod (IntKind.u64.wrap (rd x0 x5)) 8)) = 2 then (if x3.size + 1 ≤ 9223372036854775807 then (cruciblelaw6_LineRow.l0 k x0 (x3 ++ (⟨#[10]⟩ : ByteArray)) x4 (wrap64 (x5 + 1))) else (none)) else (if (wrap64 (Int.tmod (IntKind.u64.wrap (rd x0 x5)) 8)) = 3 then (if x3.size + 4 ≤ 9223372036854775807 then (if (x3 ++ (⟨#[32, 32, 35, 32]⟩ : ByteArray)).size + (strOfNums y191).size ≤ 9223372036854775807 then (if ((x3 ++ (⟨#[32, 32, 35, 32]⟩ : ByteArray)) ++ (strOfNums y191)).size + 1 ≤ 9223372036854775807 then (cruciblelaw6_LineRow.l0 k x0 (((x3 ++ (⟨#[32, 32, 35, 32]⟩ : ByteArray)) ++ (strOfNums y191)) ++ (⟨#[10]⟩ : ByteArray)) x4 (wrap64 (x5 + 1))) else (none)) else (none)) else (none)) else (if (wrap64 (Int.tmod (IntKind.u64.wrap (rd x0 x5)) 8)) = 4 then (if x3.size + (strOfNums y191).size ≤ 9223372036854775807 then (if (x3 ++ (strOfNums y191)).size + 5 ≤ 9223372036854775807 then (if ((x3 ++ (strOfNums y191)) ++ (⟨#[36, 10, 32, 32, 32]⟩ : ByteArray)).size + (strOfNums y191).size ≤ 9223372036854775807 then (if (((x3 ++ (strOfNums y191)) ++ (⟨#[36, 10, 32, 32, 32]⟩ : ByteArray)) ++ (strOfNums y191)).size + 1 ≤ 9223372036854775807 then (if (strOfNums y191).size + (strOfNums y191).size ≤ 9223372036854775807 then (if x4.length < 5864062014805 then (cruciblelaw6_LineRow.l0 k x0 ((((x3 ++ (strOfNums y191)) ++ (⟨#[36, 10, 32, 32, 32]⟩ : ByteArray)) ++ (strOfNums y191)) ++ (⟨#[10]⟩ : ByteArray)) (x4 ++ [(⟨false, (strOfNums y191) ++ (strOfNums y191)⟩ : S39)]) (wrap64 (x5 + 1))) else (none)) else (none)) else (none)) else (none)) else (none)) else (none)) else (if (wrap64 (Int.tmod (IntKind.u64.wrap (rd x0 x5)) 8)) = 5 then (if x3.size + (strOfNums y191).size ≤ 9223372036854775807 then (if (x3 ++ (strOfNums y191)).size + 3 ≤ 9223372036854775807 then (if (strOfNums y191).size + 2 ≤ 9223372036854775807 then (if x4.length < 5864062014805 then (cruciblelaw6_LineRow.l0 k x0 ((x3 ++ (strOfNums y191)) ++ (⟨#[36, 36, 10]⟩ : ByteArray)) (x4 ++ [(⟨false, (strOfNums y191) ++ (⟨#[36, 36]⟩ : ByteArray)⟩ : S39)]) (wrap64 (x5 + 1))) else (none)) else (none)) else (none)) else (none)) else (if (wrap64 (Int.tmod (IntKind.u64.wrap (rd x0 x5)) 8)) = 6 then (if x3.size + 4 ≤ 9223372036854775807 then (cruciblelaw6_LineRow.l0 k x0 (x3 ++ (⟨#[32, 32, 32, 10]⟩ : ByteArray)) x4 (wrap64 (x5 + 1))) else (none)) else (if x3.size + 1 ≤ 9223372036854775807 then (if (x3 ++ (⟨#[32]⟩ : ByteArray)).size + (strOfNums y191).size ≤ 9223372036854775807 then (if ((x3 ++ (⟨#[32]⟩ : ByteArray)) ++ (strOfNums y191)).size + 8 ≤ 9223372036854775807 then (if (strOfNums y191).size + 1 ≤ 9223372036854775807 then (if x4.length < 5864062014805 then (cruciblelaw6_LineRow.l0 k x0 (((x3 ++ (⟨#[32]⟩ : ByteArray)) ++ (strOfNums y191)) ++ (⟨#[36, 10, 36, 10, 32, 32, 120, 10]⟩ : ByteArray)) (x4 ++ [(⟨true, (strOfNums y191) ++ (⟨#[120]⟩ : ByteArray)⟩ : S39)]) (wrap64 (x5 + 1))) else (none)) else (none)) else (none)) else (none)) else (none))))))))) else (none)) else (none))) else ((lines_Cut.f x3).bind fun bt185 => ((cruciblelaw0_Num.f bt185.2).bind fun t189 => (if t189 = 0 then ((cruciblelaw0_SameLines.f k bt185.1 x4).bind fun t190 => (some t190)) else (some false))))
end
def cruciblelaw6_LineRow.f (k : Nat) (l0 : List Int) : Option (Bool) := (cruciblelaw6_awake.f k).bind fun t184 => (if t184 = true then (cruciblelaw6_LineRow.l0 k l0 (⟨#[]⟩ : ByteArray) ([] : List (S39)) 0) else (some false))
theorem cruciblelaw6_LineRow.mono_l : ∀ k, (∀ y0 y1 y2 y3, LeO (cruciblelaw6_LineRow.l0 k y0 y1 y2 y3) (cruciblelaw6_LineRow.l0 (k + 1) y0 y1 y2 y3)) ∧ (∀ y0 y1 y2 y3 y4, LeO (cruciblelaw6_LineRow.j1 k y0 y1 y2 y3 y4) (cruciblelaw6_LineRow.j1 (k + 1) y0 y1 y2 y3 y4))
  | 0 => ⟨fun _ _ _ _ r h => by simp [cruciblelaw6_LineRow.l0] at h, fun _ _ _ _ _ r h => by simp [cruciblelaw6_LineRow.j1] at h⟩
  | k + 1 => by
    obtain ⟨ih0, ih1⟩ := cruciblelaw6_LineRow.mono_l k
    refine ⟨?_, ?_⟩
    · intro y0 y1 y2 y3
      unfold cruciblelaw6_LineRow.l0
      repeat' first
      | (with_reducible exact ih0 _ _ _ _)
      | (with_reducible exact ih1 _ _ _ _ _)
      | (with_reducible exact cruciblelaw0_SameLines.mono _ _ _)
      | (with_reducible exact cruciblelaw6_awake.mono _)
      | (with_reducible exact LeO.refl _)
      | (with_reducible exact LeO.none _)
      | (with_reducible refine LeO.ite ?_ ?_)
      | (with_reducible refine LeO.bind ?_ (fun _ => ?_))
      | exact ih0 _ _ _ _
      | exact ih1 _ _ _ _ _
      | exact cruciblelaw0_SameLines.mono _ _ _
      | exact cruciblelaw6_awake.mono _
      | exact LeO.none _
      | refine LeO.ite ?_ ?_
      | refine LeO.bind ?_ (fun _ => ?_)
    · intro y0 y1 y2 y3 y4
      unfold cruciblelaw6_LineRow.j1
      repeat' first
      | (with_reducible exact ih0 _ _ _ _)
      | (with_reducible exact ih1 _ _ _ _ _)
      | (with_reducible exact cruciblelaw0_SameLines.mono _ _ _)
      | (with_reducible exact cruciblelaw6_awake.mono _)
      | (with_reducible exact LeO.refl _)
      | (with_reducible exact LeO.none _)
      | (with_reducible refine LeO.ite ?_ ?_)
      | (with_reducible refine LeO.bind ?_ (fun _ => ?_))
      | exact ih0 _ _ _ _
      | exact ih1 _ _ _ _ _
      | exact cruciblelaw0_SameLines.mono _ _ _
      | exact cruciblelaw6_awake.mono _
      | exact LeO.none _
      | refine LeO.ite ?_ ?_
      | refine LeO.bind ?_ (fun _ => ?_)
theorem cruciblelaw6_LineRow.mono : ∀ a0 k, LeO (cruciblelaw6_LineRow.f k a0) (cruciblelaw6_LineRow.f (k + 1) a0) := by
  intro a0 k
  obtain ⟨ih0, ih1⟩ := cruciblelaw6_LineRow.mono_l k
  unfold cruciblelaw6_LineRow.f
  repeat' first
      | (with_reducible exact ih0 _ _ _ _)
      | (with_reducible exact ih1 _ _ _ _ _)
      | (with_reducible exact cruciblelaw0_SameLines.mono _ _ _)
      | (with_reducible exact cruciblelaw6_awake.mono _)
      | (with_reducible exact LeO.refl _)
      | (with_reducible exact LeO.none _)
      | (with_reducible refine LeO.ite ?_ ?_)
      | (with_reducible refine LeO.bind ?_ (fun _ => ?_))
      | exact ih0 _ _ _ _
      | exact ih1 _ _ _ _ _
      | exact cruciblelaw0_SameLines.mono _ _ _
      | exact cruciblelaw6_awake.mono _
      | exact LeO.none _
      | refine LeO.ite ?_ ?_
      | refine LeO.bind ?_ (fun _ => ?_)
set_option maxHeartbeats 8000000 in
set_option maxRecDepth 100000 in
theorem cruciblelaw6_LineRow.calls (k : Nat) (A0 : Option Addr) (c0 : Nat) (l0 : List Int) (r : Bool) (w : World) (hr0 : Kd.C (Kd.int .i64) w A0 l0.length l0) (hc0 : l0.length ≤ c0) (h : cruciblelaw6_LineRow.f k l0 = some r) :
    Calls Tryd.prog 5 #[.slice A0 l0.length c0] w fun e w' => e = .returned (.bool r) ∧ Below w.heap.size w w' := by
  have hu39 := Tryd.underlying39
  have HR0 := Aside0.mk hr0
  have HC0 := Aside0.mk hc0
  clear hr0 hc0
  have HB := Aside0.mk (Below.refl w.heap.size w)
  have H : ((cruciblelaw6_awake.f k).bind fun t184 => (if t184 = true then (cruciblelaw6_LineRow.l0 k l0 (⟨#[]⟩ : ByteArray) ([] : List (S39)) 0) else (some false))) = some r := h
  clear h
  replace H := Option.bind_eq_some_iff.mp H
  obtain ⟨t184, A20, H⟩ := H
  replace H : (if t184 = true then (cruciblelaw6_LineRow.l0 k l0 (⟨#[]⟩ : ByteArray) ([] : List (S39)) 0) else (some false)) = some r := H
  have A2 := Aside0.mk A20
  clear A20
  by_cases c3 : t184 = true
  · subst c3
    have H1 : (cruciblelaw6_LineRow.l0 k l0 (⟨#[]⟩ : ByteArray) ([] : List (S39)) 0) = some r := by rw [if_pos rfl] at H; exact H
    clear H
    have H := H1
    clear H1
    have H' := Aside0.mk H
    clear H
    go_enter Tryd.func5, Tryd.ntmps5
    go_wp2_with (first | ((with_reducible refine gate_callee (f := 13) rfl ?_); refine goesL_ (some 9) rfl rfl Tryd.func13 (by kernel_rfl) rfl #[] rfl (by (try simp only [List.map_toArray, List.map_cons, List.map_nil]); first | done | rfl | (simp only [List.length_drop, List.length_take]; rfl)) ?_; (with_reducible refine (cruciblelaw6_awake.calls k  true _ A2.out).mono ?_); rintro e w4 ⟨rfl, hb⟩; refine ⟨_, rfl, ?_⟩; have n0_ := Aside0.mk (below_step (by repeat (first | (with_reducible first | exact HB.out | apply below_alloc | apply pw_below_drewN | apply below_drew1) | exact HB.out)) hb); clear HB; have HB := n0_; clear n0_; (try clear hb); (try clear hb2); (try clear hk); (try clear hi)))
    go_loopg [3, 4, 5] k (fun kq v3 v4 v5 w' => ∃ (x3_1 : ByteArray) (x4_1 : List (S39)) (x5_1 : Int), v3 = .string x3_1 ∧ v5 = .int .i64 x5_1 ∧ Aside0 (cruciblelaw6_LineRow.l0 kq l0 x3_1 x4_1 x5_1 = some r) ∧ Aside0 (kq ≤ k) ∧ Aside0 (Kd.R k39 39 w' w.heap.size (fun _ => True) v4 x4_1) ∧ Aside0 (Below w.heap.size w w'))
    case atStart => exact ⟨((⟨#[]⟩ : ByteArray)), (([] : List (S39))), (0), (by first | rfl | (simp; done) | (simp [*]; done)), (by first | rfl | (simp; done) | (simp [*]; done)), H', ⟨Nat.le_refl _⟩, ⟨by first | exact Kd.R_nil _ _ _ _ _ | exact Kd.N_nil _ _ _ _ _ | exact Kd.V_nil _ _ _ _ _ | exact Kd.Q_nil _ _ _ _ _ | exact Kd.S_nil _ _ _ _ _⟩, ⟨by repeat (first | (with_reducible first | exact HB.out | apply below_alloc | apply pw_below_drewN | apply below_drew1) | exact HB.out)⟩⟩
    case round =>
      clear H'
      try clear c1
      try clear p2
      try clear c3
      obtain ⟨x3_1, x4_1, x5_1, rfl, rfl, HA, HK1, HO_4, HB⟩ := hrel
      cases gk with
      | zero => exact absurd HA.out (by simp [cruciblelaw6_LineRow.l0])
      | succ k1 =>
        have H := HA.out
        clear HA
        simp only [cruciblelaw6_LineRow.l0] at H
        have HC5 := Aside0.mk H
        clear H
        go_upto_region 6 with (fail)
        go_cut [18] (fun v18 wc => ∃ (kq : Nat) (x18_4 : Bool), v18 = .bool x18_4 ∧ Aside0 (cruciblelaw6_LineRow.j1 kq l0 x3_1 x4_1 x5_1 x18_4 = some r) ∧ Aside0 (kq ≤ k1) ∧ Aside0 (Kd.R k39 39 wc w.heap.size (fun _ => True) u4 x4_1) ∧ Aside0 (Below w.heap.size w wc))
        case first =>
          have H := HC5.out
          clear HC5
          by_cases c6 : x5_1 < (l0.length : Int)
          · rw [if_pos c6] at H
            have c6b0 : decide (x5_1 < (l0.length : Int)) = true := decide_eq_true c6
            clear c6
            (first | rw [c6b0] | (simp only [i64_w, i32_w]; rw [c6b0]) | skip)
            have H' := Aside0.mk H
            clear H
            go_wp2
            go_meet
            case rel => exact ⟨_, (decide (x5_1 < 30)), (by first | rfl | (simp; done) | (simp [*]; done)), H', ⟨by have := HK1.out; first | omega | exact Nat.le_refl _⟩, ⟨by (with_reducible repeat (first | apply Kd.R_alloc | apply Kd.R_drewN | apply Kd.R_drew)); exact HO_4.out⟩, ⟨by repeat (first | (with_reducible first | exact HB.out | apply below_alloc | apply pw_below_drewN | apply below_drew1) | exact HB.out)⟩⟩
          · rw [if_neg c6] at H
            have c6b0 : decide (x5_1 < (l0.length : Int)) = false := decide_eq_false c6
            clear c6
            (first | rw [c6b0] | (simp only [i64_w, i32_w]; rw [c6b0]) | skip)
            have H' := Aside0.mk H
            clear H
            go_wp2
            go_meet
            case rel => exact ⟨_, (false), (by first | rfl | (simp; done) | (simp [*]; done)), H', ⟨by have := HK1.out; first | omega | exact Nat.le_refl _⟩, ⟨by (with_reducible repeat (first | apply Kd.R_alloc | apply Kd.R_drewN | apply Kd.R_drew)); exact HO_4.out⟩, ⟨by repeat (first | (with_reducible first | exact HB.out | apply below_alloc | apply pw_below_drewN | apply below_drew1) | exact HB.out)⟩⟩
        case rest =>
          clear HC5
          try clear c1
          try clear p2
          try clear c3
          try clear c5
          try clear c6
          try clear c6b0
          try clear p2
          obtain ⟨kq, x18_4, rfl, HA, HJ4, HO_4, HB⟩ := hcut
          cases kq with
          | zero => exact absurd HA.out (by simp [cruciblelaw6_LineRow.j1])
          | succ kj4 =>
            have H := HA.out
            clear HA
            simp only [cruciblelaw6_LineRow.j1] at H
            by_cases c7 : x18_4 = true
            · subst c7
              have H1 : ((some (([(wrap64 (97 + (Go.bits .and .i64 x5_1 15))) % 256] : List Int) : List Int)).bind fun y191 => (if 0 ≤ x5_1 then (if x5_1 < (l0.length : Int) then (if (wrap64 (Int.tmod (IntKind.u64.wrap (rd l0 x5_1)) 8)) = 0 then (if x3_1.size + (strOfNums y191).size ≤ 9223372036854775807 then (if (x3_1 ++ (strOfNums y191)).size + 1 ≤ 9223372036854775807 then (if x4_1.length < 5864062014805 then (cruciblelaw6_LineRow.l0 kj4 l0 ((x3_1 ++ (strOfNums y191)) ++ (⟨#[10]⟩ : ByteArray)) (x4_1 ++ [(⟨false, strOfNums y191⟩ : S39)]) (wrap64 (x5_1 + 1))) else (none)) else (none)) else (none)) else (if (wrap64 (Int.tmod (IntKind.u64.wrap (rd l0 x5_1)) 8)) = 1 then (if x3_1.size + 2 ≤ 9223372036854775807 then (if (x3_1 ++ (⟨#[32, 32]⟩ : ByteArray)).size + (strOfNums y191).size ≤ 9223372036854775807 then (if ((x3_1 ++ (⟨#[32, 32]⟩ : ByteArray)) ++ (strOfNums y191)).size + 2 ≤ 9223372036854775807 then (if x4_1.length < 5864062014805 then (cruciblelaw6_LineRow.l0 kj4 l0 (((x3_1 ++ (⟨#[32, 32]⟩ : ByteArray)) ++ (strOfNums y191)) ++ (⟨#[32, 10]⟩ : ByteArray)) (x4_1 ++ [(⟨true, strOfNums y191⟩ : S39)]) (wrap64 (x5_1 + 1))) else (none)) else (none)) else (none)) else (none)) else (if (wrap64 (Int.tmod (IntKind.u64.wrap (rd l0 x5_1)) 8)) = 2 then (if x3_1.size + 1 ≤ 9223372036854775807 then (cruciblelaw6_LineRow.l0 kj4 l0 (x3_1 ++ (⟨#[10]⟩ : ByteArray)) x4_1 (wrap64 (x5_1 + 1))) else (none)) else (if (wrap64 (Int.tmod (IntKind.u64.wrap (rd l0 x5_1)) 8)) = 3 then (if x3_1.size + 4 ≤ 9223372036854775807 then (if (x3_1 ++ (⟨#[32, 32, 35, 32]⟩ : ByteArray)).size + (strOfNums y191).size ≤ 9223372036854775807 then (if ((x3_1 ++ (⟨#[32, 32, 35, 32]⟩ : ByteArray)) ++ (strOfNums y191)).size + 1 ≤ 9223372036854775807 then (cruciblelaw6_LineRow.l0 kj4 l0 (((x3_1 ++ (⟨#[32, 32, 35, 32]⟩ : ByteArray)) ++ (strOfNums y191)) ++ (⟨#[10]⟩ : ByteArray)) x4_1 (wrap64 (x5_1 + 1))) else (none)) else (none)) else (none)) else (if (wrap64 (Int.tmod (IntKind.u64.wrap (rd l0 x5_1)) 8)) = 4 then (if x3_1.size + (strOfNums y191).size ≤ 9223372036854775807 then (if (x3_1 ++ (strOfNums y191)).size + 5 ≤ 9223372036854775807 then (if ((x3_1 ++ (strOfNums y191)) ++ (⟨#[36, 10, 32, 32, 32]⟩ : ByteArray)).size + (strOfNums y191).size ≤ 9223372036854775807 then (if (((x3_1 ++ (strOfNums y191)) ++ (⟨#[36, 10, 32, 32, 32]⟩ : ByteArray)) ++ (strOfNums y191)).size + 1 ≤ 9223372036854775807 then (if (strOfNums y191).size + (strOfNums y191).size ≤ 9223372036854775807 then (if x4_1.length < 5864062014805 then (cruciblelaw6_LineRow.l0 kj4 l0 ((((x3_1 ++ (strOfNums y191)) ++ (⟨#[36, 10, 32, 32, 32]⟩ : ByteArray)) ++ (strOfNums y191)) ++ (⟨#[10]⟩ : ByteArray)) (x4_1 ++ [(⟨false, (strOfNums y191) ++ (strOfNums y191)⟩ : S39)]) (wrap64 (x5_1 + 1))) else (none)) else (none)) else (none)) else (none)) else (none)) else (none)) else (if (wrap64 (Int.tmod (IntKind.u64.wrap (rd l0 x5_1)) 8)) = 5 then (if x3_1.size + (strOfNums y191).size ≤ 9223372036854775807 then (if (x3_1 ++ (strOfNums y191)).size + 3 ≤ 9223372036854775807 then (if (strOfNums y191).size + 2 ≤ 9223372036854775807 then (if x4_1.length < 5864062014805 then (cruciblelaw6_LineRow.l0 kj4 l0 ((x3_1 ++ (strOfNums y191)) ++ (⟨#[36, 36, 10]⟩ : ByteArray)) (x4_1 ++ [(⟨false, (strOfNums y191) ++ (⟨#[36, 36]⟩ : ByteArray)⟩ : S39)]) (wrap64 (x5_1 + 1))) else (none)) else (none)) else (none)) else (none)) else (if (wrap64 (Int.tmod (IntKind.u64.wrap (rd l0 x5_1)) 8)) = 6 then (if x3_1.size + 4 ≤ 9223372036854775807 then (cruciblelaw6_LineRow.l0 kj4 l0 (x3_1 ++ (⟨#[32, 32, 32, 10]⟩ : ByteArray)) x4_1 (wrap64 (x5_1 + 1))) else (none)) else (if x3_1.size + 1 ≤ 9223372036854775807 then (if (x3_1 ++ (⟨#[32]⟩ : ByteArray)).size + (strOfNums y191).size ≤ 9223372036854775807 then (if ((x3_1 ++ (⟨#[32]⟩ : ByteArray)) ++ (strOfNums y191)).size + 8 ≤ 9223372036854775807 then (if (strOfNums y191).size + 1 ≤ 9223372036854775807 then (if x4_1.length < 5864062014805 then (cruciblelaw6_LineRow.l0 kj4 l0 (((x3_1 ++ (⟨#[32]⟩ : ByteArray)) ++ (strOfNums y191)) ++ (⟨#[36, 10, 36, 10, 32, 32, 120, 10]⟩ : ByteArray)) (x4_1 ++ [(⟨true, (strOfNums y191) ++ (⟨#[120]⟩ : ByteArray)⟩ : S39)]) (wrap64 (x5_1 + 1))) else (none)) else (none)) else (none)) else (none)) else (none))))))))) else (none)) else (none))) = some r := by rw [if_pos rfl] at H; exact H
              clear H
              have H := H1
              clear H1
              obtain ⟨y191, hy191⟩ : ∃ y_ : List Int, y_ = (([(wrap64 (97 + (Go.bits .and .i64 x5_1 15))) % 256] : List Int)) := ⟨_, rfl⟩
              replace H : (if 0 ≤ x5_1 then (if x5_1 < (l0.length : Int) then (if (wrap64 (Int.tmod (IntKind.u64.wrap (rd l0 x5_1)) 8)) = 0 then (if x3_1.size + (strOfNums y191).size ≤ 9223372036854775807 then (if (x3_1 ++ (strOfNums y191)).size + 1 ≤ 9223372036854775807 then (if x4_1.length < 5864062014805 then (cruciblelaw6_LineRow.l0 kj4 l0 ((x3_1 ++ (strOfNums y191)) ++ (⟨#[10]⟩ : ByteArray)) (x4_1 ++ [(⟨false, strOfNums y191⟩ : S39)]) (wrap64 (x5_1 + 1))) else (none)) else (none)) else (none)) else (if (wrap64 (Int.tmod (IntKind.u64.wrap (rd l0 x5_1)) 8)) = 1 then (if x3_1.size + 2 ≤ 9223372036854775807 then (if (x3_1 ++ (⟨#[32, 32]⟩ : ByteArray)).size + (strOfNums y191).size ≤ 9223372036854775807 then (if ((x3_1 ++ (⟨#[32, 32]⟩ : ByteArray)) ++ (strOfNums y191)).size + 2 ≤ 9223372036854775807 then (if x4_1.length < 5864062014805 then (cruciblelaw6_LineRow.l0 kj4 l0 (((x3_1 ++ (⟨#[32, 32]⟩ : ByteArray)) ++ (strOfNums y191)) ++ (⟨#[32, 10]⟩ : ByteArray)) (x4_1 ++ [(⟨true, strOfNums y191⟩ : S39)]) (wrap64 (x5_1 + 1))) else (none)) else (none)) else (none)) else (none)) else (if (wrap64 (Int.tmod (IntKind.u64.wrap (rd l0 x5_1)) 8)) = 2 then (if x3_1.size + 1 ≤ 9223372036854775807 then (cruciblelaw6_LineRow.l0 kj4 l0 (x3_1 ++ (⟨#[10]⟩ : ByteArray)) x4_1 (wrap64 (x5_1 + 1))) else (none)) else (if (wrap64 (Int.tmod (IntKind.u64.wrap (rd l0 x5_1)) 8)) = 3 then (if x3_1.size + 4 ≤ 9223372036854775807 then (if (x3_1 ++ (⟨#[32, 32, 35, 32]⟩ : ByteArray)).size + (strOfNums y191).size ≤ 9223372036854775807 then (if ((x3_1 ++ (⟨#[32, 32, 35, 32]⟩ : ByteArray)) ++ (strOfNums y191)).size + 1 ≤ 9223372036854775807 then (cruciblelaw6_LineRow.l0 kj4 l0 (((x3_1 ++ (⟨#[32, 32, 35, 32]⟩ : ByteArray)) ++ (strOfNums y191)) ++ (⟨#[10]⟩ : ByteArray)) x4_1 (wrap64 (x5_1 + 1))) else (none)) else (none)) else (none)) else (if (wrap64 (Int.tmod (IntKind.u64.wrap (rd l0 x5_1)) 8)) = 4 then (if x3_1.size + (strOfNums y191).size ≤ 9223372036854775807 then (if (x3_1 ++ (strOfNums y191)).size + 5 ≤ 9223372036854775807 then (if ((x3_1 ++ (strOfNums y191)) ++ (⟨#[36, 10, 32, 32, 32]⟩ : ByteArray)).size + (strOfNums y191).size ≤ 9223372036854775807 then (if (((x3_1 ++ (strOfNums y191)) ++ (⟨#[36, 10, 32, 32, 32]⟩ : ByteArray)) ++ (strOfNums y191)).size + 1 ≤ 9223372036854775807 then (if (strOfNums y191).size + (strOfNums y191).size ≤ 9223372036854775807 then (if x4_1.length < 5864062014805 then (cruciblelaw6_LineRow.l0 kj4 l0 ((((x3_1 ++ (strOfNums y191)) ++ (⟨#[36, 10, 32, 32, 32]⟩ : ByteArray)) ++ (strOfNums y191)) ++ (⟨#[10]⟩ : ByteArray)) (x4_1 ++ [(⟨false, (strOfNums y191) ++ (strOfNums y191)⟩ : S39)]) (wrap64 (x5_1 + 1))) else (none)) else (none)) else (none)) else (none)) else (none)) else (none)) else (if (wrap64 (Int.tmod (IntKind.u64.wrap (rd l0 x5_1)) 8)) = 5 then (if x3_1.size + (strOfNums y191).size ≤ 9223372036854775807 then (if (x3_1 ++ (strOfNums y191)).size + 3 ≤ 9223372036854775807 then (if (strOfNums y191).size + 2 ≤ 9223372036854775807 then (if x4_1.length < 5864062014805 then (cruciblelaw6_LineRow.l0 kj4 l0 ((x3_1 ++ (strOfNums y191)) ++ (⟨#[36, 36, 10]⟩ : ByteArray)) (x4_1 ++ [(⟨false, (strOfNums y191) ++ (⟨#[36, 36]⟩ : ByteArray)⟩ : S39)]) (wrap64 (x5_1 + 1))) else (none)) else (none)) else (none)) else (none)) else (if (wrap64 (Int.tmod (IntKind.u64.wrap (rd l0 x5_1)) 8)) = 6 then (if x3_1.size + 4 ≤ 9223372036854775807 then (cruciblelaw6_LineRow.l0 kj4 l0 (x3_1 ++ (⟨#[32, 32, 32, 10]⟩ : ByteArray)) x4_1 (wrap64 (x5_1 + 1))) else (none)) else (if x3_1.size + 1 ≤ 9223372036854775807 then (if (x3_1 ++ (⟨#[32]⟩ : ByteArray)).size + (strOfNums y191).size ≤ 9223372036854775807 then (if ((x3_1 ++ (⟨#[32]⟩ : ByteArray)) ++ (strOfNums y191)).size + 8 ≤ 9223372036854775807 then (if (strOfNums y191).size + 1 ≤ 9223372036854775807 then (if x4_1.length < 5864062014805 then (cruciblelaw6_LineRow.l0 kj4 l0 (((x3_1 ++ (⟨#[32]⟩ : ByteArray)) ++ (strOfNums y191)) ++ (⟨#[36, 10, 36, 10, 32, 32, 120, 10]⟩ : ByteArray)) (x4_1 ++ [(⟨true, (strOfNums y191) ++ (⟨#[120]⟩ : ByteArray)⟩ : S39)]) (wrap64 (x5_1 + 1))) else (none)) else (none)) else (none)) else (none)) else (none))))))))) else (none)) else (none)) = some r := by first | (rw [hy191]; with_reducible exact H) | (have H2_ := (Option.bind_some _ _).symm.trans H; rw [hy191]; with_reducible exact H2_) | (have H2_ := (Option.bind_some _ _).symm.trans H; with_reducible exact H2_) | with_reducible exact H | (rw [hy191]; exact H) | exact H
              have Ny191 := Aside0.mk hy191
              clear hy191
              by_cases c8 : 0 ≤ x5_1
              · rw [if_pos c8] at H
                have c8b0 : decide (0 ≤ x5_1) = true := decide_eq_true c8
                clear c8
                by_cases c9 : x5_1 < (l0.length : Int)
                · rw [if_pos c9] at H
                  have c9b0 : decide (x5_1 < (l0.length : Int)) = true := decide_eq_true c9
                  clear c9
                  by_cases c10 : (wrap64 (Int.tmod (IntKind.u64.wrap (rd l0 x5_1)) 8)) = 0
                  · rw [if_pos c10] at H
                    have c10b0 : ((wrap64 (Int.tmod (IntKind.u64.wrap (rd l0 x5_1)) 8)) == 0) = true := beq_iff_eq.mpr c10
                    have c10b1 : ((wrap64 (Int.tmod (IntKind.u64.wrap (rd l0 x5_1)) 8)) != 0) = false := bne_eq_false_iff_eq.mpr c10
                    clear c10
                    by_cases c11 : x3_1.size + (strOfNums y191).size ≤ 9223372036854775807
                    · rw [if_pos c11] at H
                      have c11b0 := eq_true c11
                      have c11b1 : decide (x3_1.size + (strOfNums y191).size ≤ 9223372036854775807) = true := decide_eq_true c11
                      try have c11b2 : (9223372036854775807 < x3_1.size + (strOfNums y191).size) = False := eq_false (Nat.not_lt.2 c11)
                      by_cases c12 : (x3_1 ++ (strOfNums y191)).size + 1 ≤ 9223372036854775807
                      · rw [if_pos c12] at H
                        have c12b0 := eq_true c12
                        have c12b1 : decide ((x3_1 ++ (strOfNums y191)).size + 1 ≤ 9223372036854775807) = true := decide_eq_true c12
                        try have c12b2 : (9223372036854775807 < (x3_1 ++ (strOfNums y191)).size + 1) = False := eq_false (Nat.not_lt.2 c12)
                        have c12b3 : (9223372036854775807 < x3_1.size + (strOfNums y191).size + 1) = False := eq_false (by have hh : (x3_1 ++ (strOfNums y191)).size = x3_1.size + (strOfNums y191).size := (by rw [ByteArray.size_append] <;> rfl); omega)
                        by_cases c13 : x4_1.length < 5864062014805
                        · rw [if_pos c13] at H
                          have LMc13 := Aside0.mk c13
                          clear c13
                          obtain ⟨y195, hy195⟩ : ∃ y_ : List (S39), y_ = (x4_1 ++ [(⟨false, strOfNums y191⟩ : S39)]) := ⟨_, rfl⟩
                          replace H : (cruciblelaw6_LineRow.l0 kj4 l0 ((x3_1 ++ (strOfNums y191)) ++ (⟨#[10]⟩ : ByteArray)) y195 (wrap64 (x5_1 + 1))) = some r := by first | (rw [hy195]; with_reducible exact H) | (have H2_ := (Option.bind_some _ _).symm.trans H; rw [hy195]; with_reducible exact H2_) | (have H2_ := (Option.bind_some _ _).symm.trans H; with_reducible exact H2_) | with_reducible exact H | (rw [hy195]; exact H) | exact H
                          have Ny195 := Aside0.mk hy195
                          clear hy195
                          have H' := Aside0.mk H
                          clear H
                          go_wp2_with (first | ((with_reducible refine gate_dst (N := 25) rfl ?_); refine Kd.R_lit (Kd.int .u8) _ 5 ?hg (N := 25) ?hd (xs := ([(wrap64 (97 + (Go.bits .and .i64 x5_1 15))) % 256] : List Int)) (inner := [.int .u8 ((wrap64 (97 + (Go.bits .and .i64 x5_1 15))) % 256)]) (ok := fun _ => True) (okp := fun _ => True) ?hr ?hp (fun _ hk => hk) trivial (Below.refl _ _) (Nat.le_refl _) (by simp) ?_; (case hd => rfl); (case hg => rfl); (case hr => first | (go_simp; done) | (go_simp; rfl)); (case hp => exact (Reps.one (show Kd.M (Kd.int .u8) _ _ _ ((wrap64 (97 + (Go.bits .and .i64 x5_1 15))) % 256) [.int .u8 ((wrap64 (97 + (Go.bits .and .i64 x5_1 15))) % 256)] from rfl) (Reps.none _ _))); intro v192 w14 ho15 hb hg_ hnew_; clear hg_ hnew_; (first | rw [← Ny191.out] at ho15 | (simp only [Int.reduceToNat] at ho15; rw [← Ny191.out] at ho15)); have n0_ := Aside0.mk (Kd.R_below (by (with_reducible repeat (first | apply Kd.R_alloc | apply Kd.R_drewN | apply Kd.R_drew)); exact HO_4.out) hb); have n1_ := Aside0.mk (Kd.R_lower ho15 (below_size (by repeat (first | (with_reducible first | exact HB.out | apply below_alloc | apply pw_below_drewN | apply below_drew1) | exact HB.out)))); have n2_ := Aside0.mk (below_step (by repeat (first | (with_reducible first | exact HB.out | apply below_alloc | apply pw_below_drewN | apply below_drew1) | exact HB.out)) hb); clear HO_4; clear HB; have HO_4 := n0_; have HO193 := n1_; have HB := n2_; clear n0_ n1_ n2_; clear hb ho15; have hcv16 := own_string (P := Tryd.prog) Tryd.underlying36 Tryd.underlying5 Tryd.underlying9 (Kd.own_of_R HO193.out); have p194 : 0 ≤ (x5_1 : Int) := of_decide_eq_true (by first | (with_reducible assumption) | assumption); have q194 : x5_1 < (l0.length : Int) := of_decide_eq_true (by first | (with_reducible assumption) | assumption); obtain ⟨ad194, e194, hx194_0⟩ := Kd.at_int HR0.out x5_1 p194 q194; cases e194; replace hx194_0 := (HB.out.cell (World.block_lt_of_cell? w _ hx194_0)).trans hx194_0; replace p194 := eq_true p194; replace q194 := eq_true q194) | ((with_reducible refine gate_builtin (b := .append) (xs := #[.tmp 51, .tmp 54]) rfl ?_); at_builtin; refine Kd.R_append k39 (w0 := w) w.heap.size rfl (.tmp 51) (.tmp 54) 22 39 (.agg #[(.bool false), (.string ⟨#[]⟩)]) 24 rfl Tryd.underlying22 info39 rfl (by decide) (by omega) u4 x4_1 (⟨false, strOfNums y191⟩ : S39) [.bool false, .string (strOfNums y191)] (fun _ => True) (fun _ => False) rfl rfl ?aP (fun _ hk => hk.elim) ?aF ?aO ?aB ?aS ?aL ?_; (case aP => exact k39_mkM _ _ _ (⟨false, strOfNums y191⟩ : S39)); (case aB => exact (by repeat (first | (with_reducible first | exact HB.out | apply below_alloc | apply pw_below_drewN | apply below_drew1) | exact HB.out))); (case aF => exact (fun _ _ => trivial)); (case aO => exact (by (with_reducible repeat (first | apply Kd.R_alloc | apply Kd.R_drewN | apply Kd.R_drew)); exact HO_4.out)); (case aS => exact (below_size (by repeat (first | (with_reducible first | exact HB.out | apply below_alloc | apply pw_below_drewN | apply below_drew1) | exact HB.out)))); (case aL => have := LMc13.out; omega); intro v196 w17 ho hb hg hat; rw [← Ny195.out] at ho; have n0_ := Aside0.mk (Kd.R_over' (by (with_reducible repeat (first | apply Kd.R_alloc | apply Kd.R_drewN | apply Kd.R_drew)); exact HO193.out) (Kd.R_typed (by (with_reducible repeat (first | apply Kd.R_alloc | apply Kd.R_drewN | apply Kd.R_drew)); exact HO_4.out)) (by decide) hg); have n1_ := Aside0.mk (hb); have n2_ := Aside0.mk (ho); clear HO193; clear HB; clear HO_4; have HO193 := n0_; have HB := n1_; have HO197 := n2_; clear n0_ n1_ n2_; clear ho hb hg hat))
                          go_roundg kj4
                          case measure => have := HK1.out; have := HJ4.out; omega
                          case rel => exact ⟨((x3_1 ++ (strOfNums y191)) ++ (⟨#[10]⟩ : ByteArray)), (y195), (wrap64 (x5_1 + 1)), (by first | rfl | (simp; done) | (simp [*]; done)), (by first | rfl | (simp; done) | (simp [*]; done)), H', ⟨by have := HK1.out; have := HJ4.out; omega⟩, ⟨by (with_reducible repeat (first | apply Kd.R_alloc | apply Kd.R_drewN | apply Kd.R_drew)); exact HO197.out⟩, ⟨by repeat (first | (with_reducible first | exact HB.out | apply below_alloc | apply pw_below_drewN | apply below_drew1) | exact HB.out)⟩⟩
                        · rw [if_neg c13] at H
                          exact absurd H (by simp)
                      · rw [if_neg c12] at H
                        exact absurd H (by simp)
                    · rw [if_neg c11] at H
                      exact absurd H (by simp)
                  · rw [if_neg c10] at H
                    have c10b0 : ((wrap64 (Int.tmod (IntKind.u64.wrap (rd l0 x5_1)) 8)) == 0) = false := beq_eq_false_iff_ne.mpr c10
                    have c10b1 : ((wrap64 (Int.tmod (IntKind.u64.wrap (rd l0 x5_1)) 8)) != 0) = true := bne_iff_ne.mpr c10
                    by_cases c18 : (wrap64 (Int.tmod (IntKind.u64.wrap (rd l0 x5_1)) 8)) = 1
                    · rw [if_pos c18] at H
                      have c18b0 : ((wrap64 (Int.tmod (IntKind.u64.wrap (rd l0 x5_1)) 8)) == 1) = true := beq_iff_eq.mpr c18
                      have c18b1 : ((wrap64 (Int.tmod (IntKind.u64.wrap (rd l0 x5_1)) 8)) != 1) = false := bne_eq_false_iff_eq.mpr c18
                      clear c18
                      by_cases c19 : x3_1.size + 2 ≤ 9223372036854775807
                      · rw [if_pos c19] at H
                        have c19b0 := eq_true c19
                        have c19b1 : decide (x3_1.size + 2 ≤ 9223372036854775807) = true := decide_eq_true c19
                        try have c19b2 : (9223372036854775807 < x3_1.size + 2) = False := eq_false (Nat.not_lt.2 c19)
                        by_cases c20 : (x3_1 ++ (⟨#[32, 32]⟩ : ByteArray)).size + (strOfNums y191).size ≤ 9223372036854775807
                        · rw [if_pos c20] at H
                          have c20b0 := eq_true c20
                          have c20b1 : decide ((x3_1 ++ (⟨#[32, 32]⟩ : ByteArray)).size + (strOfNums y191).size ≤ 9223372036854775807) = true := decide_eq_true c20
                          try have c20b2 : (9223372036854775807 < (x3_1 ++ (⟨#[32, 32]⟩ : ByteArray)).size + (strOfNums y191).size) = False := eq_false (Nat.not_lt.2 c20)
                          have c20b3 : (9223372036854775807 < x3_1.size + 2 + (strOfNums y191).size) = False := eq_false (by have hh : (x3_1 ++ (⟨#[32, 32]⟩ : ByteArray)).size = x3_1.size + 2 := (by rw [ByteArray.size_append] <;> rfl); omega)
                          by_cases c21 : ((x3_1 ++ (⟨#[32, 32]⟩ : ByteArray)) ++ (strOfNums y191)).size + 2 ≤ 9223372036854775807
                          · rw [if_pos c21] at H
                            have c21b0 := eq_true c21
                            have c21b1 : decide (((x3_1 ++ (⟨#[32, 32]⟩ : ByteArray)) ++ (strOfNums y191)).size + 2 ≤ 9223372036854775807) = true := decide_eq_true c21
                            try have c21b2 : (9223372036854775807 < ((x3_1 ++ (⟨#[32, 32]⟩ : ByteArray)) ++ (strOfNums y191)).size + 2) = False := eq_false (Nat.not_lt.2 c21)
                            have c21b3 : (9223372036854775807 < x3_1.size + 2 + (strOfNums y191).size + 2) = False := eq_false (by have hh : ((x3_1 ++ (⟨#[32, 32]⟩ : ByteArray)) ++ (strOfNums y191)).size = x3_1.size + 2 + (strOfNums y191).size := (by rw [ByteArray.size_append, ByteArray.size_append] <;> rfl); omega)
                            by_cases c22 : x4_1.length < 5864062014805
                            · rw [if_pos c22] at H
                              have LMc22 := Aside0.mk c22
                              clear c22
                              obtain ⟨y198, hy198⟩ : ∃ y_ : List (S39), y_ = (x4_1 ++ [(⟨true, strOfNums y191⟩ : S39)]) := ⟨_, rfl⟩
                              replace H : (cruciblelaw6_LineRow.l0 kj4 l0 (((x3_1 ++ (⟨#[32, 32]⟩ : ByteArray)) ++ (strOfNums y191)) ++ (⟨#[32, 10]⟩ : ByteArray)) y198 (wrap64 (x5_1 + 1))) = some r := by first | (rw [hy198]; with_reducible exact H) | (have H2_ := (Option.bind_some _ _).symm.trans H; rw [hy198]; with_reducible exact H2_) | (have H2_ := (Option.bind_some _ _).symm.trans H; with_reducible exact H2_) | with_reducible exact H | (rw [hy198]; exact H) | exact H
                              have Ny198 := Aside0.mk hy198
                              clear hy198
                              have H' := Aside0.mk H
                              clear H
                              go_wp2_with (first | ((with_reducible refine gate_dst (N := 25) rfl ?_); refine Kd.R_lit (Kd.int .u8) _ 5 ?hg (N := 25) ?hd (xs := ([(wrap64 (97 + (Go.bits .and .i64 x5_1 15))) % 256] : List Int)) (inner := [.int .u8 ((wrap64 (97 + (Go.bits .and .i64 x5_1 15))) % 256)]) (ok := fun _ => True) (okp := fun _ => True) ?hr ?hp (fun _ hk => hk) trivial (Below.refl _ _) (Nat.le_refl _) (by simp) ?_; (case hd => rfl); (case hg => rfl); (case hr => first | (go_simp; done) | (go_simp; rfl)); (case hp => exact (Reps.one (show Kd.M (Kd.int .u8) _ _ _ ((wrap64 (97 + (Go.bits .and .i64 x5_1 15))) % 256) [.int .u8 ((wrap64 (97 + (Go.bits .and .i64 x5_1 15))) % 256)] from rfl) (Reps.none _ _))); intro v192 w23 ho24 hb hg_ hnew_; clear hg_ hnew_; (first | rw [← Ny191.out] at ho24 | (simp only [Int.reduceToNat] at ho24; rw [← Ny191.out] at ho24)); have n0_ := Aside0.mk (Kd.R_below (by (with_reducible repeat (first | apply Kd.R_alloc | apply Kd.R_drewN | apply Kd.R_drew)); exact HO_4.out) hb); have n1_ := Aside0.mk (Kd.R_lower ho24 (below_size (by repeat (first | (with_reducible first | exact HB.out | apply below_alloc | apply pw_below_drewN | apply below_drew1) | exact HB.out)))); have n2_ := Aside0.mk (below_step (by repeat (first | (with_reducible first | exact HB.out | apply below_alloc | apply pw_below_drewN | apply below_drew1) | exact HB.out)) hb); clear HO_4; clear HB; have HO_4 := n0_; have HO193 := n1_; have HB := n2_; clear n0_ n1_ n2_; clear hb ho24; have hcv25 := own_string (P := Tryd.prog) Tryd.underlying36 Tryd.underlying5 Tryd.underlying9 (Kd.own_of_R HO193.out); have p194 : 0 ≤ (x5_1 : Int) := of_decide_eq_true (by first | (with_reducible assumption) | assumption); have q194 : x5_1 < (l0.length : Int) := of_decide_eq_true (by first | (with_reducible assumption) | assumption); obtain ⟨ad194, e194, hx194_0⟩ := Kd.at_int HR0.out x5_1 p194 q194; cases e194; replace hx194_0 := (HB.out.cell (World.block_lt_of_cell? w _ hx194_0)).trans hx194_0; replace p194 := eq_true p194; replace q194 := eq_true q194) | ((with_reducible refine gate_builtin (b := .append) (xs := #[.tmp 63, .tmp 66]) rfl ?_); at_builtin; refine Kd.R_append k39 (w0 := w) w.heap.size rfl (.tmp 63) (.tmp 66) 22 39 (.agg #[(.bool false), (.string ⟨#[]⟩)]) 24 rfl Tryd.underlying22 info39 rfl (by decide) (by omega) u4 x4_1 (⟨true, strOfNums y191⟩ : S39) [.bool true, .string (strOfNums y191)] (fun _ => True) (fun _ => False) rfl rfl ?aP (fun _ hk => hk.elim) ?aF ?aO ?aB ?aS ?aL ?_; (case aP => exact k39_mkM _ _ _ (⟨true, strOfNums y191⟩ : S39)); (case aB => exact (by repeat (first | (with_reducible first | exact HB.out | apply below_alloc | apply pw_below_drewN | apply below_drew1) | exact HB.out))); (case aF => exact (fun _ _ => trivial)); (case aO => exact (by (with_reducible repeat (first | apply Kd.R_alloc | apply Kd.R_drewN | apply Kd.R_drew)); exact HO_4.out)); (case aS => exact (below_size (by repeat (first | (with_reducible first | exact HB.out | apply below_alloc | apply pw_below_drewN | apply below_drew1) | exact HB.out)))); (case aL => have := LMc22.out; omega); intro v199 w26 ho hb hg hat; rw [← Ny198.out] at ho; have n0_ := Aside0.mk (Kd.R_over' (by (with_reducible repeat (first | apply Kd.R_alloc | apply Kd.R_drewN | apply Kd.R_drew)); exact HO193.out) (Kd.R_typed (by (with_reducible repeat (first | apply Kd.R_alloc | apply Kd.R_drewN | apply Kd.R_drew)); exact HO_4.out)) (by decide) hg); have n1_ := Aside0.mk (hb); have n2_ := Aside0.mk (ho); clear HO193; clear HB; clear HO_4; have HO193 := n0_; have HB := n1_; have HO200 := n2_; clear n0_ n1_ n2_; clear ho hb hg hat))
                              go_roundg kj4
                              case measure => have := HK1.out; have := HJ4.out; omega
                              case rel => exact ⟨(((x3_1 ++ (⟨#[32, 32]⟩ : ByteArray)) ++ (strOfNums y191)) ++ (⟨#[32, 10]⟩ : ByteArray)), (y198), (wrap64 (x5_1 + 1)), (by first | rfl | (simp; done) | (simp [*]; done)), (by first | rfl | (simp; done) | (simp [*]; done)), H', ⟨by have := HK1.out; have := HJ4.out; omega⟩, ⟨by (with_reducible repeat (first | apply Kd.R_alloc | apply Kd.R_drewN | apply Kd.R_drew)); exact HO200.out⟩, ⟨by repeat (first | (with_reducible first | exact HB.out | apply below_alloc | apply pw_below_drewN | apply below_drew1) | exact HB.out)⟩⟩
                            · rw [if_neg c22] at H
                              exact absurd H (by simp)
                          · rw [if_neg c21] at H
                            exact absurd H (by simp)
                        · rw [if_neg c20] at H
                          exact absurd H (by simp)
                      · rw [if_neg c19] at H
                        exact absurd H (by simp)
                    · rw [if_neg c18] at H
                      have c18b0 : ((wrap64 (Int.tmod (IntKind.u64.wrap (rd l0 x5_1)) 8)) == 1) = false := beq_eq_false_iff_ne.mpr c18
                      have c18b1 : ((wrap64 (Int.tmod (IntKind.u64.wrap (rd l0 x5_1)) 8)) != 1) = true := bne_iff_ne.mpr c18
                      by_cases c27 : (wrap64 (Int.tmod (IntKind.u64.wrap (rd l0 x5_1)) 8)) = 2
                      · rw [if_pos c27] at H
                        have c27b0 : ((wrap64 (Int.tmod (IntKind.u64.wrap (rd l0 x5_1)) 8)) == 2) = true := beq_iff_eq.mpr c27
                        have c27b1 : ((wrap64 (Int.tmod (IntKind.u64.wrap (rd l0 x5_1)) 8)) != 2) = false := bne_eq_false_iff_eq.mpr c27
                        clear c27
                        by_cases c28 : x3_1.size + 1 ≤ 9223372036854775807
                        · rw [if_pos c28] at H
                          have c28b0 := eq_true c28
                          have c28b1 : decide (x3_1.size + 1 ≤ 9223372036854775807) = true := decide_eq_true c28
                          try have c28b2 : (9223372036854775807 < x3_1.size + 1) = False := eq_false (Nat.not_lt.2 c28)
                          have H' := Aside0.mk H
                          clear H
                          go_wp2_with (first | ((with_reducible refine gate_dst (N := 25) rfl ?_); refine Kd.R_lit (Kd.int .u8) _ 5 ?hg (N := 25) ?hd (xs := ([(wrap64 (97 + (Go.bits .and .i64 x5_1 15))) % 256] : List Int)) (inner := [.int .u8 ((wrap64 (97 + (Go.bits .and .i64 x5_1 15))) % 256)]) (ok := fun _ => True) (okp := fun _ => True) ?hr ?hp (fun _ hk => hk) trivial (Below.refl _ _) (Nat.le_refl _) (by simp) ?_; (case hd => rfl); (case hg => rfl); (case hr => first | (go_simp; done) | (go_simp; rfl)); (case hp => exact (Reps.one (show Kd.M (Kd.int .u8) _ _ _ ((wrap64 (97 + (Go.bits .and .i64 x5_1 15))) % 256) [.int .u8 ((wrap64 (97 + (Go.bits .and .i64 x5_1 15))) % 256)] from rfl) (Reps.none _ _))); intro v192 w29 ho30 hb hg_ hnew_; clear hg_ hnew_; (first | rw [← Ny191.out] at ho30 | (simp only [Int.reduceToNat] at ho30; rw [← Ny191.out] at ho30)); have n0_ := Aside0.mk (Kd.R_below (by (with_reducible repeat (first | apply Kd.R_alloc | apply Kd.R_drewN | apply Kd.R_drew)); exact HO_4.out) hb); have n1_ := Aside0.mk (Kd.R_lower ho30 (below_size (by repeat (first | (with_reducible first | exact HB.out | apply below_alloc | apply pw_below_drewN | apply below_drew1) | exact HB.out)))); have n2_ := Aside0.mk (below_step (by repeat (first | (with_reducible first | exact HB.out | apply below_alloc | apply pw_below_drewN | apply below_drew1) | exact HB.out)) hb); clear HO_4; clear HB; have HO_4 := n0_; have HO193 := n1_; have HB := n2_; clear n0_ n1_ n2_; clear hb ho30; have hcv31 := own_string (P := Tryd.prog) Tryd.underlying36 Tryd.underlying5 Tryd.underlying9 (Kd.own_of_R HO193.out); have p194 : 0 ≤ (x5_1 : Int) := of_decide_eq_true (by first | (with_reducible assumption) | assumption); have q194 : x5_1 < (l0.length : Int) := of_decide_eq_true (by first | (with_reducible assumption) | assumption); obtain ⟨ad194, e194, hx194_0⟩ := Kd.at_int HR0.out x5_1 p194 q194; cases e194; replace hx194_0 := (HB.out.cell (World.block_lt_of_cell? w _ hx194_0)).trans hx194_0; replace p194 := eq_true p194; replace q194 := eq_true q194))
                          go_roundg kj4
                          case measure => have := HK1.out; have := HJ4.out; omega
                          case rel => exact ⟨(x3_1 ++ (⟨#[10]⟩ : ByteArray)), (x4_1), (wrap64 (x5_1 + 1)), (by first | rfl | (simp; done) | (simp [*]; done)), (by first | rfl | (simp; done) | (simp [*]; done)), H', ⟨by have := HK1.out; have := HJ4.out; omega⟩, ⟨by (with_reducible repeat (first | apply Kd.R_alloc | apply Kd.R_drewN | apply Kd.R_drew)); exact HO_4.out⟩, ⟨by repeat (first | (with_reducible first | exact HB.out | apply below_alloc | apply pw_below_drewN | apply below_drew1) | exact HB.out)⟩⟩
                        · rw [if_neg c28] at H
                          exact absurd H (by simp)
                      · rw [if_neg c27] at H
                        have c27b0 : ((wrap64 (Int.tmod (IntKind.u64.wrap (rd l0 x5_1)) 8)) == 2) = false := beq_eq_false_iff_ne.mpr c27
                        have c27b1 : ((wrap64 (Int.tmod (IntKind.u64.wrap (rd l0 x5_1)) 8)) != 2) = true := bne_iff_ne.mpr c27
                        by_cases c32 : (wrap64 (Int.tmod (IntKind.u64.wrap (rd l0 x5_1)) 8)) = 3
                        · rw [if_pos c32] at H
                          have c32b0 : ((wrap64 (Int.tmod (IntKind.u64.wrap (rd l0 x5_1)) 8)) == 3) = true := beq_iff_eq.mpr c32
                          have c32b1 : ((wrap64 (Int.tmod (IntKind.u64.wrap (rd l0 x5_1)) 8)) != 3) = false := bne_eq_false_iff_eq.mpr c32
                          clear c32
                          by_cases c33 : x3_1.size + 4 ≤ 9223372036854775807
                          · rw [if_pos c33] at H
                            have c33b0 := eq_true c33
                            have c33b1 : decide (x3_1.size + 4 ≤ 9223372036854775807) = true := decide_eq_true c33
                            try have c33b2 : (9223372036854775807 < x3_1.size + 4) = False := eq_false (Nat.not_lt.2 c33)
                            by_cases c34 : (x3_1 ++ (⟨#[32, 32, 35, 32]⟩ : ByteArray)).size + (strOfNums y191).size ≤ 9223372036854775807
                            · rw [if_pos c34] at H
                              have c34b0 := eq_true c34
                              have c34b1 : decide ((x3_1 ++ (⟨#[32, 32, 35, 32]⟩ : ByteArray)).size + (strOfNums y191).size ≤ 9223372036854775807) = true := decide_eq_true c34
                              try have c34b2 : (9223372036854775807 < (x3_1 ++ (⟨#[32, 32, 35, 32]⟩ : ByteArray)).size + (strOfNums y191).size) = False := eq_false (Nat.not_lt.2 c34)
                              have c34b3 : (9223372036854775807 < x3_1.size + 4 + (strOfNums y191).size) = False := eq_false (by have hh : (x3_1 ++ (⟨#[32, 32, 35, 32]⟩ : ByteArray)).size = x3_1.size + 4 := (by rw [ByteArray.size_append] <;> rfl); omega)
                              by_cases c35 : ((x3_1 ++ (⟨#[32, 32, 35, 32]⟩ : ByteArray)) ++ (strOfNums y191)).size + 1 ≤ 9223372036854775807
                              · rw [if_pos c35] at H
                                have c35b0 := eq_true c35
                                have c35b1 : decide (((x3_1 ++ (⟨#[32, 32, 35, 32]⟩ : ByteArray)) ++ (strOfNums y191)).size + 1 ≤ 9223372036854775807) = true := decide_eq_true c35
                                try have c35b2 : (9223372036854775807 < ((x3_1 ++ (⟨#[32, 32, 35, 32]⟩ : ByteArray)) ++ (strOfNums y191)).size + 1) = False := eq_false (Nat.not_lt.2 c35)
                                have c35b3 : (9223372036854775807 < x3_1.size + 4 + (strOfNums y191).size + 1) = False := eq_false (by have hh : ((x3_1 ++ (⟨#[32, 32, 35, 32]⟩ : ByteArray)) ++ (strOfNums y191)).size = x3_1.size + 4 + (strOfNums y191).size := (by rw [ByteArray.size_append, ByteArray.size_append] <;> rfl); omega)
                                have H' := Aside0.mk H
                                clear H
                                go_wp2_with (first | ((with_reducible refine gate_dst (N := 25) rfl ?_); refine Kd.R_lit (Kd.int .u8) _ 5 ?hg (N := 25) ?hd (xs := ([(wrap64 (97 + (Go.bits .and .i64 x5_1 15))) % 256] : List Int)) (inner := [.int .u8 ((wrap64 (97 + (Go.bits .and .i64 x5_1 15))) % 256)]) (ok := fun _ => True) (okp := fun _ => True) ?hr ?hp (fun _ hk => hk) trivial (Below.refl _ _) (Nat.le_refl _) (by simp) ?_; (case hd => rfl); (case hg => rfl); (case hr => first | (go_simp; done) | (go_simp; rfl)); (case hp => exact (Reps.one (show Kd.M (Kd.int .u8) _ _ _ ((wrap64 (97 + (Go.bits .and .i64 x5_1 15))) % 256) [.int .u8 ((wrap64 (97 + (Go.bits .and .i64 x5_1 15))) % 256)] from rfl) (Reps.none _ _))); intro v192 w36 ho37 hb hg_ hnew_; clear hg_ hnew_; (first | rw [← Ny191.out] at ho37 | (simp only [Int.reduceToNat] at ho37; rw [← Ny191.out] at ho37)); have n0_ := Aside0.mk (Kd.R_below (by (with_reducible repeat (first | apply Kd.R_alloc | apply Kd.R_drewN | apply Kd.R_drew)); exact HO_4.out) hb); have n1_ := Aside0.mk (Kd.R_lower ho37 (below_size (by repeat (first | (with_reducible first | exact HB.out | apply below_alloc | apply pw_below_drewN | apply below_drew1) | exact HB.out)))); have n2_ := Aside0.mk (below_step (by repeat (first | (with_reducible first | exact HB.out | apply below_alloc | apply pw_below_drewN | apply below_drew1) | exact HB.out)) hb); clear HO_4; clear HB; have HO_4 := n0_; have HO193 := n1_; have HB := n2_; clear n0_ n1_ n2_; clear hb ho37; have hcv38 := own_string (P := Tryd.prog) Tryd.underlying36 Tryd.underlying5 Tryd.underlying9 (Kd.own_of_R HO193.out); have p194 : 0 ≤ (x5_1 : Int) := of_decide_eq_true (by first | (with_reducible assumption) | assumption); have q194 : x5_1 < (l0.length : Int) := of_decide_eq_true (by first | (with_reducible assumption) | assumption); obtain ⟨ad194, e194, hx194_0⟩ := Kd.at_int HR0.out x5_1 p194 q194; cases e194; replace hx194_0 := (HB.out.cell (World.block_lt_of_cell? w _ hx194_0)).trans hx194_0; replace p194 := eq_true p194; replace q194 := eq_true q194))
                                go_roundg kj4
                                case measure => have := HK1.out; have := HJ4.out; omega
                                case rel => exact ⟨(((x3_1 ++ (⟨#[32, 32, 35, 32]⟩ : ByteArray)) ++ (strOfNums y191)) ++ (⟨#[10]⟩ : ByteArray)), (x4_1), (wrap64 (x5_1 + 1)), (by first | rfl | (simp; done) | (simp [*]; done)), (by first | rfl | (simp; done) | (simp [*]; done)), H', ⟨by have := HK1.out; have := HJ4.out; omega⟩, ⟨by (with_reducible repeat (first | apply Kd.R_alloc | apply Kd.R_drewN | apply Kd.R_drew)); exact HO_4.out⟩, ⟨by repeat (first | (with_reducible first | exact HB.out | apply below_alloc | apply pw_below_drewN | apply below_drew1) | exact HB.out)⟩⟩
                              · rw [if_neg c35] at H
                                exact absurd H (by simp)
                            · rw [if_neg c34] at H
                              exact absurd H (by simp)
                          · rw [if_neg c33] at H
                            exact absurd H (by simp)
                        · rw [if_neg c32] at H
                          have c32b0 : ((wrap64 (Int.tmod (IntKind.u64.wrap (rd l0 x5_1)) 8)) == 3) = false := beq_eq_false_iff_ne.mpr c32
                          have c32b1 : ((wrap64 (Int.tmod (IntKind.u64.wrap (rd l0 x5_1)) 8)) != 3) = true := bne_iff_ne.mpr c32
                          by_cases c39 : (wrap64 (Int.tmod (IntKind.u64.wrap (rd l0 x5_1)) 8)) = 4
                          · rw [if_pos c39] at H
                            have c39b0 : ((wrap64 (Int.tmod (IntKind.u64.wrap (rd l0 x5_1)) 8)) == 4) = true := beq_iff_eq.mpr c39
                            have c39b1 : ((wrap64 (Int.tmod (IntKind.u64.wrap (rd l0 x5_1)) 8)) != 4) = false := bne_eq_false_iff_eq.mpr c39
                            clear c39
                            by_cases c40 : x3_1.size + (strOfNums y191).size ≤ 9223372036854775807
                            · rw [if_pos c40] at H
                              have c40b0 := eq_true c40
                              have c40b1 : decide (x3_1.size + (strOfNums y191).size ≤ 9223372036854775807) = true := decide_eq_true c40
                              try have c40b2 : (9223372036854775807 < x3_1.size + (strOfNums y191).size) = False := eq_false (Nat.not_lt.2 c40)
                              by_cases c41 : (x3_1 ++ (strOfNums y191)).size + 5 ≤ 9223372036854775807
                              · rw [if_pos c41] at H
                                have c41b0 := eq_true c41
                                have c41b1 : decide ((x3_1 ++ (strOfNums y191)).size + 5 ≤ 9223372036854775807) = true := decide_eq_true c41
                                try have c41b2 : (9223372036854775807 < (x3_1 ++ (strOfNums y191)).size + 5) = False := eq_false (Nat.not_lt.2 c41)
                                have c41b3 : (9223372036854775807 < x3_1.size + (strOfNums y191).size + 5) = False := eq_false (by have hh : (x3_1 ++ (strOfNums y191)).size = x3_1.size + (strOfNums y191).size := (by rw [ByteArray.size_append] <;> rfl); omega)
                                by_cases c42 : ((x3_1 ++ (strOfNums y191)) ++ (⟨#[36, 10, 32, 32, 32]⟩ : ByteArray)).size + (strOfNums y191).size ≤ 9223372036854775807
                                · rw [if_pos c42] at H
                                  have c42b0 := eq_true c42
                                  have c42b1 : decide (((x3_1 ++ (strOfNums y191)) ++ (⟨#[36, 10, 32, 32, 32]⟩ : ByteArray)).size + (strOfNums y191).size ≤ 9223372036854775807) = true := decide_eq_true c42
                                  try have c42b2 : (9223372036854775807 < ((x3_1 ++ (strOfNums y191)) ++ (⟨#[36, 10, 32, 32, 32]⟩ : ByteArray)).size + (strOfNums y191).size) = False := eq_false (Nat.not_lt.2 c42)
                                  have c42b3 : (9223372036854775807 < x3_1.size + (strOfNums y191).size + 5 + (strOfNums y191).size) = False := eq_false (by have hh : ((x3_1 ++ (strOfNums y191)) ++ (⟨#[36, 10, 32, 32, 32]⟩ : ByteArray)).size = x3_1.size + (strOfNums y191).size + 5 := (by rw [ByteArray.size_append, ByteArray.size_append] <;> rfl); omega)
                                  by_cases c43 : (((x3_1 ++ (strOfNums y191)) ++ (⟨#[36, 10, 32, 32, 32]⟩ : ByteArray)) ++ (strOfNums y191)).size + 1 ≤ 9223372036854775807
                                  · rw [if_pos c43] at H
                                    have c43b0 := eq_true c43
                                    have c43b1 : decide ((((x3_1 ++ (strOfNums y191)) ++ (⟨#[36, 10, 32, 32, 32]⟩ : ByteArray)) ++ (strOfNums y191)).size + 1 ≤ 9223372036854775807) = true := decide_eq_true c43
                                    try have c43b2 : (9223372036854775807 < (((x3_1 ++ (strOfNums y191)) ++ (⟨#[36, 10, 32, 32, 32]⟩ : ByteArray)) ++ (strOfNums y191)).size + 1) = False := eq_false (Nat.not_lt.2 c43)
                                    have c43b3 : (9223372036854775807 < x3_1.size + (strOfNums y191).size + 5 + (strOfNums y191).size + 1) = False := eq_false (by have hh : (((x3_1 ++ (strOfNums y191)) ++ (⟨#[36, 10, 32, 32, 32]⟩ : ByteArray)) ++ (strOfNums y191)).size = x3_1.size + (strOfNums y191).size + 5 + (strOfNums y191).size := (by rw [ByteArray.size_append, ByteArray.size_append, ByteArray.size_append] <;> rfl); omega)
                                    by_cases c44 : (strOfNums y191).size + (strOfNums y191).size ≤ 9223372036854775807
                                    · rw [if_pos c44] at H
                                      have c44b0 := eq_true c44
                                      have c44b1 : decide ((strOfNums y191).size + (strOfNums y191).size ≤ 9223372036854775807) = true := decide_eq_true c44
                                      try have c44b2 : (9223372036854775807 < (strOfNums y191).size + (strOfNums y191).size) = False := eq_false (Nat.not_lt.2 c44)
                                      by_cases c45 : x4_1.length < 5864062014805
                                      · rw [if_pos c45] at H
                                        have LMc45 := Aside0.mk c45
                                        clear c45
                                        obtain ⟨y201, hy201⟩ : ∃ y_ : List (S39), y_ = (x4_1 ++ [(⟨false, (strOfNums y191) ++ (strOfNums y191)⟩ : S39)]) := ⟨_, rfl⟩
                                        replace H : (cruciblelaw6_LineRow.l0 kj4 l0 ((((x3_1 ++ (strOfNums y191)) ++ (⟨#[36, 10, 32, 32, 32]⟩ : ByteArray)) ++ (strOfNums y191)) ++ (⟨#[10]⟩ : ByteArray)) y201 (wrap64 (x5_1 + 1))) = some r := by first | (rw [hy201]; with_reducible exact H) | (have H2_ := (Option.bind_some _ _).symm.trans H; rw [hy201]; with_reducible exact H2_) | (have H2_ := (Option.bind_some _ _).symm.trans H; with_reducible exact H2_) | with_reducible exact H | (rw [hy201]; exact H) | exact H
                                        have Ny201 := Aside0.mk hy201
                                        clear hy201
                                        have H' := Aside0.mk H
                                        clear H
                                        go_wp2_with (first | ((with_reducible refine gate_dst (N := 25) rfl ?_); refine Kd.R_lit (Kd.int .u8) _ 5 ?hg (N := 25) ?hd (xs := ([(wrap64 (97 + (Go.bits .and .i64 x5_1 15))) % 256] : List Int)) (inner := [.int .u8 ((wrap64 (97 + (Go.bits .and .i64 x5_1 15))) % 256)]) (ok := fun _ => True) (okp := fun _ => True) ?hr ?hp (fun _ hk => hk) trivial (Below.refl _ _) (Nat.le_refl _) (by simp) ?_; (case hd => rfl); (case hg => rfl); (case hr => first | (go_simp; done) | (go_simp; rfl)); (case hp => exact (Reps.one (show Kd.M (Kd.int .u8) _ _ _ ((wrap64 (97 + (Go.bits .and .i64 x5_1 15))) % 256) [.int .u8 ((wrap64 (97 + (Go.bits .and .i64 x5_1 15))) % 256)] from rfl) (Reps.none _ _))); intro v192 w46 ho47 hb hg_ hnew_; clear hg_ hnew_; (first | rw [← Ny191.out] at ho47 | (simp only [Int.reduceToNat] at ho47; rw [← Ny191.out] at ho47)); have n0_ := Aside0.mk (Kd.R_below (by (with_reducible repeat (first | apply Kd.R_alloc | apply Kd.R_drewN | apply Kd.R_drew)); exact HO_4.out) hb); have n1_ := Aside0.mk (Kd.R_lower ho47 (below_size (by repeat (first | (with_reducible first | exact HB.out | apply below_alloc | apply pw_below_drewN | apply below_drew1) | exact HB.out)))); have n2_ := Aside0.mk (below_step (by repeat (first | (with_reducible first | exact HB.out | apply below_alloc | apply pw_below_drewN | apply below_drew1) | exact HB.out)) hb); clear HO_4; clear HB; have HO_4 := n0_; have HO193 := n1_; have HB := n2_; clear n0_ n1_ n2_; clear hb ho47; have hcv48 := own_string (P := Tryd.prog) Tryd.underlying36 Tryd.underlying5 Tryd.underlying9 (Kd.own_of_R HO193.out); have p194 : 0 ≤ (x5_1 : Int) := of_decide_eq_true (by first | (with_reducible assumption) | assumption); have q194 : x5_1 < (l0.length : Int) := of_decide_eq_true (by first | (with_reducible assumption) | assumption); obtain ⟨ad194, e194, hx194_0⟩ := Kd.at_int HR0.out x5_1 p194 q194; cases e194; replace hx194_0 := (HB.out.cell (World.block_lt_of_cell? w _ hx194_0)).trans hx194_0; replace p194 := eq_true p194; replace q194 := eq_true q194) | ((with_reducible refine gate_builtin (b := .append) (xs := #[.tmp 88, .tmp 93]) rfl ?_); at_builtin; refine Kd.R_append k39 (w0 := w) w.heap.size rfl (.tmp 88) (.tmp 93) 22 39 (.agg #[(.bool false), (.string ⟨#[]⟩)]) 24 rfl Tryd.underlying22 info39 rfl (by decide) (by omega) u4 x4_1 (⟨false, (strOfNums y191) ++ (strOfNums y191)⟩ : S39) [.bool false, .string ((strOfNums y191) ++ (strOfNums y191))] (fun _ => True) (fun _ => False) rfl rfl ?aP (fun _ hk => hk.elim) ?aF ?aO ?aB ?aS ?aL ?_; (case aP => exact k39_mkM _ _ _ (⟨false, (strOfNums y191) ++ (strOfNums y191)⟩ : S39)); (case aB => exact (by repeat (first | (with_reducible first | exact HB.out | apply below_alloc | apply pw_below_drewN | apply below_drew1) | exact HB.out))); (case aF => exact (fun _ _ => trivial)); (case aO => exact (by (with_reducible repeat (first | apply Kd.R_alloc | apply Kd.R_drewN | apply Kd.R_drew)); exact HO_4.out)); (case aS => exact (below_size (by repeat (first | (with_reducible first | exact HB.out | apply below_alloc | apply pw_below_drewN | apply below_drew1) | exact HB.out)))); (case aL => have := LMc45.out; omega); intro v202 w49 ho hb hg hat; rw [← Ny201.out] at ho; have n0_ := Aside0.mk (Kd.R_over' (by (with_reducible repeat (first | apply Kd.R_alloc | apply Kd.R_drewN | apply Kd.R_drew)); exact HO193.out) (Kd.R_typed (by (with_reducible repeat (first | apply Kd.R_alloc | apply Kd.R_drewN | apply Kd.R_drew)); exact HO_4.out)) (by decide) hg); have n1_ := Aside0.mk (hb); have n2_ := Aside0.mk (ho); clear HO193; clear HB; clear HO_4; have HO193 := n0_; have HB := n1_; have HO203 := n2_; clear n0_ n1_ n2_; clear ho hb hg hat))
                                        go_roundg kj4
                                        case measure => have := HK1.out; have := HJ4.out; omega
                                        case rel => exact ⟨((((x3_1 ++ (strOfNums y191)) ++ (⟨#[36, 10, 32, 32, 32]⟩ : ByteArray)) ++ (strOfNums y191)) ++ (⟨#[10]⟩ : ByteArray)), (y201), (wrap64 (x5_1 + 1)), (by first | rfl | (simp; done) | (simp [*]; done)), (by first | rfl | (simp; done) | (simp [*]; done)), H', ⟨by have := HK1.out; have := HJ4.out; omega⟩, ⟨by (with_reducible repeat (first | apply Kd.R_alloc | apply Kd.R_drewN | apply Kd.R_drew)); exact HO203.out⟩, ⟨by repeat (first | (with_reducible first | exact HB.out | apply below_alloc | apply pw_below_drewN | apply below_drew1) | exact HB.out)⟩⟩
                                      · rw [if_neg c45] at H
                                        exact absurd H (by simp)
                                    · rw [if_neg c44] at H
                                      exact absurd H (by simp)
                                  · rw [if_neg c43] at H
                                    exact absurd H (by simp)
                                · rw [if_neg c42] at H
                                  exact absurd H (by simp)
                              · rw [if_neg c41] at H
                                exact absurd H (by simp)
                            · rw [if_neg c40] at H
                              exact absurd H (by simp)
                          · rw [if_neg c39] at H
                            have c39b0 : ((wrap64 (Int.tmod (IntKind.u64.wrap (rd l0 x5_1)) 8)) == 4) = false := beq_eq_false_iff_ne.mpr c39
                            have c39b1 : ((wrap64 (Int.tmod (IntKind.u64.wrap (rd l0 x5_1)) 8)) != 4) = true := bne_iff_ne.mpr c39
                            by_cases c50 : (wrap64 (Int.tmod (IntKind.u64.wrap (rd l0 x5_1)) 8)) = 5
                            · rw [if_pos c50] at H
                              have c50b0 : ((wrap64 (Int.tmod (IntKind.u64.wrap (rd l0 x5_1)) 8)) == 5) = true := beq_iff_eq.mpr c50
                              have c50b1 : ((wrap64 (Int.tmod (IntKind.u64.wrap (rd l0 x5_1)) 8)) != 5) = false := bne_eq_false_iff_eq.mpr c50
                              clear c50
                              by_cases c51 : x3_1.size + (strOfNums y191).size ≤ 9223372036854775807
                              · rw [if_pos c51] at H
                                have c51b0 := eq_true c51
                                have c51b1 : decide (x3_1.size + (strOfNums y191).size ≤ 9223372036854775807) = true := decide_eq_true c51
                                try have c51b2 : (9223372036854775807 < x3_1.size + (strOfNums y191).size) = False := eq_false (Nat.not_lt.2 c51)
                                by_cases c52 : (x3_1 ++ (strOfNums y191)).size + 3 ≤ 9223372036854775807
                                · rw [if_pos c52] at H
                                  have c52b0 := eq_true c52
                                  have c52b1 : decide ((x3_1 ++ (strOfNums y191)).size + 3 ≤ 9223372036854775807) = true := decide_eq_true c52
                                  try have c52b2 : (9223372036854775807 < (x3_1 ++ (strOfNums y191)).size + 3) = False := eq_false (Nat.not_lt.2 c52)
                                  have c52b3 : (9223372036854775807 < x3_1.size + (strOfNums y191).size + 3) = False := eq_false (by have hh : (x3_1 ++ (strOfNums y191)).size = x3_1.size + (strOfNums y191).size := (by rw [ByteArray.size_append] <;> rfl); omega)
                                  by_cases c53 : (strOfNums y191).size + 2 ≤ 9223372036854775807
                                  · rw [if_pos c53] at H
                                    have c53b0 := eq_true c53
                                    have c53b1 : decide ((strOfNums y191).size + 2 ≤ 9223372036854775807) = true := decide_eq_true c53
                                    try have c53b2 : (9223372036854775807 < (strOfNums y191).size + 2) = False := eq_false (Nat.not_lt.2 c53)
                                    by_cases c54 : x4_1.length < 5864062014805
                                    · rw [if_pos c54] at H
                                      have LMc54 := Aside0.mk c54
                                      clear c54
                                      obtain ⟨y204, hy204⟩ : ∃ y_ : List (S39), y_ = (x4_1 ++ [(⟨false, (strOfNums y191) ++ (⟨#[36, 36]⟩ : ByteArray)⟩ : S39)]) := ⟨_, rfl⟩
                                      replace H : (cruciblelaw6_LineRow.l0 kj4 l0 ((x3_1 ++ (strOfNums y191)) ++ (⟨#[36, 36, 10]⟩ : ByteArray)) y204 (wrap64 (x5_1 + 1))) = some r := by first | (rw [hy204]; with_reducible exact H) | (have H2_ := (Option.bind_some _ _).symm.trans H; rw [hy204]; with_reducible exact H2_) | (have H2_ := (Option.bind_some _ _).symm.trans H; with_reducible exact H2_) | with_reducible exact H | (rw [hy204]; exact H) | exact H
                                      have Ny204 := Aside0.mk hy204
                                      clear hy204
                                      have H' := Aside0.mk H
                                      clear H
                                      go_wp2_with (first | ((with_reducible refine gate_dst (N := 25) rfl ?_); refine Kd.R_lit (Kd.int .u8) _ 5 ?hg (N := 25) ?hd (xs := ([(wrap64 (97 + (Go.bits .and .i64 x5_1 15))) % 256] : List Int)) (inner := [.int .u8 ((wrap64 (97 + (Go.bits .and .i64 x5_1 15))) % 256)]) (ok := fun _ => True) (okp := fun _ => True) ?hr ?hp (fun _ hk => hk) trivial (Below.refl _ _) (Nat.le_refl _) (by simp) ?_; (case hd => rfl); (case hg => rfl); (case hr => first | (go_simp; done) | (go_simp; rfl)); (case hp => exact (Reps.one (show Kd.M (Kd.int .u8) _ _ _ ((wrap64 (97 + (Go.bits .and .i64 x5_1 15))) % 256) [.int .u8 ((wrap64 (97 + (Go.bits .and .i64 x5_1 15))) % 256)] from rfl) (Reps.none _ _))); intro v192 w55 ho56 hb hg_ hnew_; clear hg_ hnew_; (first | rw [← Ny191.out] at ho56 | (simp only [Int.reduceToNat] at ho56; rw [← Ny191.out] at ho56)); have n0_ := Aside0.mk (Kd.R_below (by (with_reducible repeat (first | apply Kd.R_alloc | apply Kd.R_drewN | apply Kd.R_drew)); exact HO_4.out) hb); have n1_ := Aside0.mk (Kd.R_lower ho56 (below_size (by repeat (first | (with_reducible first | exact HB.out | apply below_alloc | apply pw_below_drewN | apply below_drew1) | exact HB.out)))); have n2_ := Aside0.mk (below_step (by repeat (first | (with_reducible first | exact HB.out | apply below_alloc | apply pw_below_drewN | apply below_drew1) | exact HB.out)) hb); clear HO_4; clear HB; have HO_4 := n0_; have HO193 := n1_; have HB := n2_; clear n0_ n1_ n2_; clear hb ho56; have hcv57 := own_string (P := Tryd.prog) Tryd.underlying36 Tryd.underlying5 Tryd.underlying9 (Kd.own_of_R HO193.out); have p194 : 0 ≤ (x5_1 : Int) := of_decide_eq_true (by first | (with_reducible assumption) | assumption); have q194 : x5_1 < (l0.length : Int) := of_decide_eq_true (by first | (with_reducible assumption) | assumption); obtain ⟨ad194, e194, hx194_0⟩ := Kd.at_int HR0.out x5_1 p194 q194; cases e194; replace hx194_0 := (HB.out.cell (World.block_lt_of_cell? w _ hx194_0)).trans hx194_0; replace p194 := eq_true p194; replace q194 := eq_true q194) | ((with_reducible refine gate_builtin (b := .append) (xs := #[.tmp 101, .tmp 105]) rfl ?_); at_builtin; refine Kd.R_append k39 (w0 := w) w.heap.size rfl (.tmp 101) (.tmp 105) 22 39 (.agg #[(.bool false), (.string ⟨#[]⟩)]) 24 rfl Tryd.underlying22 info39 rfl (by decide) (by omega) u4 x4_1 (⟨false, (strOfNums y191) ++ (⟨#[36, 36]⟩ : ByteArray)⟩ : S39) [.bool false, .string ((strOfNums y191) ++ (⟨#[36, 36]⟩ : ByteArray))] (fun _ => True) (fun _ => False) rfl rfl ?aP (fun _ hk => hk.elim) ?aF ?aO ?aB ?aS ?aL ?_; (case aP => exact k39_mkM _ _ _ (⟨false, (strOfNums y191) ++ (⟨#[36, 36]⟩ : ByteArray)⟩ : S39)); (case aB => exact (by repeat (first | (with_reducible first | exact HB.out | apply below_alloc | apply pw_below_drewN | apply below_drew1) | exact HB.out))); (case aF => exact (fun _ _ => trivial)); (case aO => exact (by (with_reducible repeat (first | apply Kd.R_alloc | apply Kd.R_drewN | apply Kd.R_drew)); exact HO_4.out)); (case aS => exact (below_size (by repeat (first | (with_reducible first | exact HB.out | apply below_alloc | apply pw_below_drewN | apply below_drew1) | exact HB.out)))); (case aL => have := LMc54.out; omega); intro v205 w58 ho hb hg hat; rw [← Ny204.out] at ho; have n0_ := Aside0.mk (Kd.R_over' (by (with_reducible repeat (first | apply Kd.R_alloc | apply Kd.R_drewN | apply Kd.R_drew)); exact HO193.out) (Kd.R_typed (by (with_reducible repeat (first | apply Kd.R_alloc | apply Kd.R_drewN | apply Kd.R_drew)); exact HO_4.out)) (by decide) hg); have n1_ := Aside0.mk (hb); have n2_ := Aside0.mk (ho); clear HO193; clear HB; clear HO_4; have HO193 := n0_; have HB := n1_; have HO206 := n2_; clear n0_ n1_ n2_; clear ho hb hg hat))
                                      go_roundg kj4
                                      case measure => have := HK1.out; have := HJ4.out; omega
                                      case rel => exact ⟨((x3_1 ++ (strOfNums y191)) ++ (⟨#[36, 36, 10]⟩ : ByteArray)), (y204), (wrap64 (x5_1 + 1)), (by first | rfl | (simp; done) | (simp [*]; done)), (by first | rfl | (simp; done) | (simp [*]; done)), H', ⟨by have := HK1.out; have := HJ4.out; omega⟩, ⟨by (with_reducible repeat (first | apply Kd.R_alloc | apply Kd.R_drewN | apply Kd.R_drew)); exact HO206.out⟩, ⟨by repeat (first | (with_reducible first | exact HB.out | apply below_alloc | apply pw_below_drewN | apply below_drew1) | exact HB.out)⟩⟩
                                    · rw [if_neg c54] at H
                                      exact absurd H (by simp)
                                  · rw [if_neg c53] at H
                                    exact absurd H (by simp)
                                · rw [if_neg c52] at H
                                  exact absurd H (by simp)
                              · rw [if_neg c51] at H
                                exact absurd H (by simp)
                            · rw [if_neg c50] at H
                              have c50b0 : ((wrap64 (Int.tmod (IntKind.u64.wrap (rd l0 x5_1)) 8)) == 5) = false := beq_eq_false_iff_ne.mpr c50
                              have c50b1 : ((wrap64 (Int.tmod (IntKind.u64.wrap (rd l0 x5_1)) 8)) != 5) = true := bne_iff_ne.mpr c50
                              by_cases c59 : (wrap64 (Int.tmod (IntKind.u64.wrap (rd l0 x5_1)) 8)) = 6
                              · rw [if_pos c59] at H
                                have c59b0 : ((wrap64 (Int.tmod (IntKind.u64.wrap (rd l0 x5_1)) 8)) == 6) = true := beq_iff_eq.mpr c59
                                have c59b1 : ((wrap64 (Int.tmod (IntKind.u64.wrap (rd l0 x5_1)) 8)) != 6) = false := bne_eq_false_iff_eq.mpr c59
                                clear c59
                                by_cases c60 : x3_1.size + 4 ≤ 9223372036854775807
                                · rw [if_pos c60] at H
                                  have c60b0 := eq_true c60
                                  have c60b1 : decide (x3_1.size + 4 ≤ 9223372036854775807) = true := decide_eq_true c60
                                  try have c60b2 : (9223372036854775807 < x3_1.size + 4) = False := eq_false (Nat.not_lt.2 c60)
                                  have H' := Aside0.mk H
                                  clear H
                                  go_wp2_with (first | ((with_reducible refine gate_dst (N := 25) rfl ?_); refine Kd.R_lit (Kd.int .u8) _ 5 ?hg (N := 25) ?hd (xs := ([(wrap64 (97 + (Go.bits .and .i64 x5_1 15))) % 256] : List Int)) (inner := [.int .u8 ((wrap64 (97 + (Go.bits .and .i64 x5_1 15))) % 256)]) (ok := fun _ => True) (okp := fun _ => True) ?hr ?hp (fun _ hk => hk) trivial (Below.refl _ _) (Nat.le_refl _) (by simp) ?_; (case hd => rfl); (case hg => rfl); (case hr => first | (go_simp; done) | (go_simp; rfl)); (case hp => exact (Reps.one (show Kd.M (Kd.int .u8) _ _ _ ((wrap64 (97 + (Go.bits .and .i64 x5_1 15))) % 256) [.int .u8 ((wrap64 (97 + (Go.bits .and .i64 x5_1 15))) % 256)] from rfl) (Reps.none _ _))); intro v192 w61 ho62 hb hg_ hnew_; clear hg_ hnew_; (first | rw [← Ny191.out] at ho62 | (simp only [Int.reduceToNat] at ho62; rw [← Ny191.out] at ho62)); have n0_ := Aside0.mk (Kd.R_below (by (with_reducible repeat (first | apply Kd.R_alloc | apply Kd.R_drewN | apply Kd.R_drew)); exact HO_4.out) hb); have n1_ := Aside0.mk (Kd.R_lower ho62 (below_size (by repeat (first | (with_reducible first | exact HB.out | apply below_alloc | apply pw_below_drewN | apply below_drew1) | exact HB.out)))); have n2_ := Aside0.mk (below_step (by repeat (first | (with_reducible first | exact HB.out | apply below_alloc | apply pw_below_drewN | apply below_drew1) | exact HB.out)) hb); clear HO_4; clear HB; have HO_4 := n0_; have HO193 := n1_; have HB := n2_; clear n0_ n1_ n2_; clear hb ho62; have hcv63 := own_string (P := Tryd.prog) Tryd.underlying36 Tryd.underlying5 Tryd.underlying9 (Kd.own_of_R HO193.out); have p194 : 0 ≤ (x5_1 : Int) := of_decide_eq_true (by first | (with_reducible assumption) | assumption); have q194 : x5_1 < (l0.length : Int) := of_decide_eq_true (by first | (with_reducible assumption) | assumption); obtain ⟨ad194, e194, hx194_0⟩ := Kd.at_int HR0.out x5_1 p194 q194; cases e194; replace hx194_0 := (HB.out.cell (World.block_lt_of_cell? w _ hx194_0)).trans hx194_0; replace p194 := eq_true p194; replace q194 := eq_true q194))
                                  go_roundg kj4
                                  case measure => have := HK1.out; have := HJ4.out; omega
                                  case rel => exact ⟨(x3_1 ++ (⟨#[32, 32, 32, 10]⟩ : ByteArray)), (x4_1), (wrap64 (x5_1 + 1)), (by first | rfl | (simp; done) | (simp [*]; done)), (by first | rfl | (simp; done) | (simp [*]; done)), H', ⟨by have := HK1.out; have := HJ4.out; omega⟩, ⟨by (with_reducible repeat (first | apply Kd.R_alloc | apply Kd.R_drewN | apply Kd.R_drew)); exact HO_4.out⟩, ⟨by repeat (first | (with_reducible first | exact HB.out | apply below_alloc | apply pw_below_drewN | apply below_drew1) | exact HB.out)⟩⟩
                                · rw [if_neg c60] at H
                                  exact absurd H (by simp)
                              · rw [if_neg c59] at H
                                have c59b0 : ((wrap64 (Int.tmod (IntKind.u64.wrap (rd l0 x5_1)) 8)) == 6) = false := beq_eq_false_iff_ne.mpr c59
                                have c59b1 : ((wrap64 (Int.tmod (IntKind.u64.wrap (rd l0 x5_1)) 8)) != 6) = true := bne_iff_ne.mpr c59
                                by_cases c64 : x3_1.size + 1 ≤ 9223372036854775807
                                · rw [if_pos c64] at H
                                  have c64b0 := eq_true c64
                                  have c64b1 : decide (x3_1.size + 1 ≤ 9223372036854775807) = true := decide_eq_true c64
                                  try have c64b2 : (9223372036854775807 < x3_1.size + 1) = False := eq_false (Nat.not_lt.2 c64)
                                  by_cases c65 : (x3_1 ++ (⟨#[32]⟩ : ByteArray)).size + (strOfNums y191).size ≤ 9223372036854775807
                                  · rw [if_pos c65] at H
                                    have c65b0 := eq_true c65
                                    have c65b1 : decide ((x3_1 ++ (⟨#[32]⟩ : ByteArray)).size + (strOfNums y191).size ≤ 9223372036854775807) = true := decide_eq_true c65
                                    try have c65b2 : (9223372036854775807 < (x3_1 ++ (⟨#[32]⟩ : ByteArray)).size + (strOfNums y191).size) = False := eq_false (Nat.not_lt.2 c65)
                                    have c65b3 : (9223372036854775807 < x3_1.size + 1 + (strOfNums y191).size) = False := eq_false (by have hh : (x3_1 ++ (⟨#[32]⟩ : ByteArray)).size = x3_1.size + 1 := (by rw [ByteArray.size_append] <;> rfl); omega)
                                    by_cases c66 : ((x3_1 ++ (⟨#[32]⟩ : ByteArray)) ++ (strOfNums y191)).size + 8 ≤ 9223372036854775807
                                    · rw [if_pos c66] at H
                                      have c66b0 := eq_true c66
                                      have c66b1 : decide (((x3_1 ++ (⟨#[32]⟩ : ByteArray)) ++ (strOfNums y191)).size + 8 ≤ 9223372036854775807) = true := decide_eq_true c66
                                      try have c66b2 : (9223372036854775807 < ((x3_1 ++ (⟨#[32]⟩ : ByteArray)) ++ (strOfNums y191)).size + 8) = False := eq_false (Nat.not_lt.2 c66)
                                      have c66b3 : (9223372036854775807 < x3_1.size + 1 + (strOfNums y191).size + 8) = False := eq_false (by have hh : ((x3_1 ++ (⟨#[32]⟩ : ByteArray)) ++ (strOfNums y191)).size = x3_1.size + 1 + (strOfNums y191).size := (by rw [ByteArray.size_append, ByteArray.size_append] <;> rfl); omega)
                                      by_cases c67 : (strOfNums y191).size + 1 ≤ 9223372036854775807
                                      · rw [if_pos c67] at H
                                        have c67b0 := eq_true c67
                                        have c67b1 : decide ((strOfNums y191).size + 1 ≤ 9223372036854775807) = true := decide_eq_true c67
                                        try have c67b2 : (9223372036854775807 < (strOfNums y191).size + 1) = False := eq_false (Nat.not_lt.2 c67)
                                        by_cases c68 : x4_1.length < 5864062014805
                                        · rw [if_pos c68] at H
                                          have LMc68 := Aside0.mk c68
                                          clear c68
                                          obtain ⟨y207, hy207⟩ : ∃ y_ : List (S39), y_ = (x4_1 ++ [(⟨true, (strOfNums y191) ++ (⟨#[120]⟩ : ByteArray)⟩ : S39)]) := ⟨_, rfl⟩
                                          replace H : (cruciblelaw6_LineRow.l0 kj4 l0 (((x3_1 ++ (⟨#[32]⟩ : ByteArray)) ++ (strOfNums y191)) ++ (⟨#[36, 10, 36, 10, 32, 32, 120, 10]⟩ : ByteArray)) y207 (wrap64 (x5_1 + 1))) = some r := by first | (rw [hy207]; with_reducible exact H) | (have H2_ := (Option.bind_some _ _).symm.trans H; rw [hy207]; with_reducible exact H2_) | (have H2_ := (Option.bind_some _ _).symm.trans H; with_reducible exact H2_) | with_reducible exact H | (rw [hy207]; exact H) | exact H
                                          have Ny207 := Aside0.mk hy207
                                          clear hy207
                                          have H' := Aside0.mk H
                                          clear H
                                          go_wp2_with (first | ((with_reducible refine gate_dst (N := 25) rfl ?_); refine Kd.R_lit (Kd.int .u8) _ 5 ?hg (N := 25) ?hd (xs := ([(wrap64 (97 + (Go.bits .and .i64 x5_1 15))) % 256] : List Int)) (inner := [.int .u8 ((wrap64 (97 + (Go.bits .and .i64 x5_1 15))) % 256)]) (ok := fun _ => True) (okp := fun _ => True) ?hr ?hp (fun _ hk => hk) trivial (Below.refl _ _) (Nat.le_refl _) (by simp) ?_; (case hd => rfl); (case hg => rfl); (case hr => first | (go_simp; done) | (go_simp; rfl)); (case hp => exact (Reps.one (show Kd.M (Kd.int .u8) _ _ _ ((wrap64 (97 + (Go.bits .and .i64 x5_1 15))) % 256) [.int .u8 ((wrap64 (97 + (Go.bits .and .i64 x5_1 15))) % 256)] from rfl) (Reps.none _ _))); intro v192 w69 ho70 hb hg_ hnew_; clear hg_ hnew_; (first | rw [← Ny191.out] at ho70 | (simp only [Int.reduceToNat] at ho70; rw [← Ny191.out] at ho70)); have n0_ := Aside0.mk (Kd.R_below (by (with_reducible repeat (first | apply Kd.R_alloc | apply Kd.R_drewN | apply Kd.R_drew)); exact HO_4.out) hb); have n1_ := Aside0.mk (Kd.R_lower ho70 (below_size (by repeat (first | (with_reducible first | exact HB.out | apply below_alloc | apply pw_below_drewN | apply below_drew1) | exact HB.out)))); have n2_ := Aside0.mk (below_step (by repeat (first | (with_reducible first | exact HB.out | apply below_alloc | apply pw_below_drewN | apply below_drew1) | exact HB.out)) hb); clear HO_4; clear HB; have HO_4 := n0_; have HO193 := n1_; have HB := n2_; clear n0_ n1_ n2_; clear hb ho70; have hcv71 := own_string (P := Tryd.prog) Tryd.underlying36 Tryd.underlying5 Tryd.underlying9 (Kd.own_of_R HO193.out); have p194 : 0 ≤ (x5_1 : Int) := of_decide_eq_true (by first | (with_reducible assumption) | assumption); have q194 : x5_1 < (l0.length : Int) := of_decide_eq_true (by first | (with_reducible assumption) | assumption); obtain ⟨ad194, e194, hx194_0⟩ := Kd.at_int HR0.out x5_1 p194 q194; cases e194; replace hx194_0 := (HB.out.cell (World.block_lt_of_cell? w _ hx194_0)).trans hx194_0; replace p194 := eq_true p194; replace q194 := eq_true q194) | ((with_reducible refine gate_builtin (b := .append) (xs := #[.tmp 39, .tmp 43]) rfl ?_); at_builtin; refine Kd.R_append k39 (w0 := w) w.heap.size rfl (.tmp 39) (.tmp 43) 22 39 (.agg #[(.bool false), (.string ⟨#[]⟩)]) 24 rfl Tryd.underlying22 info39 rfl (by decide) (by omega) u4 x4_1 (⟨true, (strOfNums y191) ++ (⟨#[120]⟩ : ByteArray)⟩ : S39) [.bool true, .string ((strOfNums y191) ++ (⟨#[120]⟩ : ByteArray))] (fun _ => True) (fun _ => False) rfl rfl ?aP (fun _ hk => hk.elim) ?aF ?aO ?aB ?aS ?aL ?_; (case aP => exact k39_mkM _ _ _ (⟨true, (strOfNums y191) ++ (⟨#[120]⟩ : ByteArray)⟩ : S39)); (case aB => exact (by repeat (first | (with_reducible first | exact HB.out | apply below_alloc | apply pw_below_drewN | apply below_drew1) | exact HB.out))); (case aF => exact (fun _ _ => trivial)); (case aO => exact (by (with_reducible repeat (first | apply Kd.R_alloc | apply Kd.R_drewN | apply Kd.R_drew)); exact HO_4.out)); (case aS => exact (below_size (by repeat (first | (with_reducible first | exact HB.out | apply below_alloc | apply pw_below_drewN | apply below_drew1) | exact HB.out)))); (case aL => have := LMc68.out; omega); intro v208 w72 ho hb hg hat; rw [← Ny207.out] at ho; have n0_ := Aside0.mk (Kd.R_over' (by (with_reducible repeat (first | apply Kd.R_alloc | apply Kd.R_drewN | apply Kd.R_drew)); exact HO193.out) (Kd.R_typed (by (with_reducible repeat (first | apply Kd.R_alloc | apply Kd.R_drewN | apply Kd.R_drew)); exact HO_4.out)) (by decide) hg); have n1_ := Aside0.mk (hb); have n2_ := Aside0.mk (ho); clear HO193; clear HB; clear HO_4; have HO193 := n0_; have HB := n1_; have HO209 := n2_; clear n0_ n1_ n2_; clear ho hb hg hat))
                                          go_roundg kj4
                                          case measure => have := HK1.out; have := HJ4.out; omega
                                          case rel => exact ⟨(((x3_1 ++ (⟨#[32]⟩ : ByteArray)) ++ (strOfNums y191)) ++ (⟨#[36, 10, 36, 10, 32, 32, 120, 10]⟩ : ByteArray)), (y207), (wrap64 (x5_1 + 1)), (by first | rfl | (simp; done) | (simp [*]; done)), (by first | rfl | (simp; done) | (simp [*]; done)), H', ⟨by have := HK1.out; have := HJ4.out; omega⟩, ⟨by (with_reducible repeat (first | apply Kd.R_alloc | apply Kd.R_drewN | apply Kd.R_drew)); exact HO209.out⟩, ⟨by repeat (first | (with_reducible first | exact HB.out | apply below_alloc | apply pw_below_drewN | apply below_drew1) | exact HB.out)⟩⟩
                                        · rw [if_neg c68] at H
                                          exact absurd H (by simp)
                                      · rw [if_neg c67] at H
                                        exact absurd H (by simp)
                                    · rw [if_neg c66] at H
                                      exact absurd H (by simp)
                                  · rw [if_neg c65] at H
                                    exact absurd H (by simp)
                                · rw [if_neg c64] at H
                                  exact absurd H (by simp)
                · rw [if_neg c9] at H
                  exact absurd H (by simp)
              · rw [if_neg c8] at H
                exact absurd H (by simp)
            · replace c7 := Bool.eq_false_iff.mpr c7
              subst c7
              have H1 : ((lines_Cut.f x3_1).bind fun bt185 => ((cruciblelaw0_Num.f bt185.2).bind fun t189 => (if t189 = 0 then ((cruciblelaw0_SameLines.f kj4 bt185.1 x4_1).bind fun t190 => (some t190)) else (some false)))) = some r := by rw [if_neg (show ¬ (false = true) by decide)] at H; exact H
              clear H
              have H := H1
              clear H1
              replace H := Option.bind_eq_some_iff.mp H
              obtain ⟨⟨t185, t186⟩, A730, H⟩ := H
              replace H : ((cruciblelaw0_Num.f t186).bind fun t189 => (if t189 = 0 then ((cruciblelaw0_SameLines.f kj4 t185 x4_1).bind fun t190 => (some t190)) else (some false))) = some r := H
              have A73 := Aside0.mk A730
              clear A730
              replace H := Option.bind_eq_some_iff.mp H
              obtain ⟨t189, A740, H⟩ := H
              replace H : (if t189 = 0 then ((cruciblelaw0_SameLines.f kj4 t185 x4_1).bind fun t190 => (some t190)) else (some false)) = some r := H
              have A74 := Aside0.mk A740
              clear A740
              by_cases c75 : t189 = 0
              · rw [if_pos c75] at H
                have c75b0 : (t189 == 0) = true := beq_iff_eq.mpr c75
                have c75b1 : (t189 != 0) = false := bne_eq_false_iff_eq.mpr c75
                clear c75
                replace H := Option.bind_eq_some_iff.mp H
                obtain ⟨t190, A760, H⟩ := H
                replace H : (some t190) = some r := H
                have A76 := Aside0.mk A760
                clear A760
                obtain rfl := Option.some.inj H
                go_wp2_with (first | ((with_reducible refine gate_callee (f := 8) rfl ?_); refine goesL_ (some 113) rfl rfl Tryd.func8 (by kernel_rfl) rfl #[.string x3_1] rfl (by (try simp only [List.map_toArray, List.map_cons, List.map_nil]); first | done | rfl | (simp only [List.length_drop, List.length_take]; rfl)) ?_; (with_reducible refine (lines_Cut.calls x3_1 t185 t186 _ A73.out).mono ?_); rintro e w77 ⟨v187, rfl, ho0, hb⟩; refine ⟨_, rfl, ?_⟩; have n0_ := Aside0.mk (Kd.R_elder' (by (with_reducible repeat (first | apply Kd.R_alloc | apply Kd.R_drewN | apply Kd.R_drew)); exact HO_4.out) (Kd.R_base ho0) hb); have n1_ := Aside0.mk (Kd.R_lower (Kd.R_new' ho0 (Kd.R_lt (by (with_reducible repeat (first | apply Kd.R_alloc | apply Kd.R_drewN | apply Kd.R_drew)); exact HO_4.out))) (below_size (by repeat (first | (with_reducible first | exact HB.out | apply below_alloc | apply pw_below_drewN | apply below_drew1) | exact HB.out)))); have n2_ := Aside0.mk (below_step (by repeat (first | (with_reducible first | exact HB.out | apply below_alloc | apply pw_below_drewN | apply below_drew1) | exact HB.out)) hb); clear HO_4; clear HB; have HO_4 := n0_; have HO188 := n1_; have HB := n2_; clear n0_ n1_ n2_; (try clear hb); (try clear hb2); (try clear hk); (try clear hi); (try clear ho0)) | ((with_reducible refine gate_callee (f := 11) rfl ?_); refine goesL_ (some 117) rfl rfl Tryd.func11 (by kernel_rfl) rfl #[.int .i64 t186] rfl (by (try simp only [List.map_toArray, List.map_cons, List.map_nil]); first | done | rfl | (simp only [List.length_drop, List.length_take]; rfl)) ?_; (with_reducible refine (cruciblelaw0_Num.calls t186 t189 _ A74.out).mono ?_); rintro e w' ⟨rfl, ⟨nd, rfl⟩⟩; refine ⟨_, rfl, ?_⟩; obtain ⟨Ao78, co78, eo78⟩ := Kd.R_slice HO188.out; subst eo78; obtain ⟨Ao79, co79, eo79⟩ := Kd.R_slice HO_4.out; subst eo79) | (go_at_call 10; (with_reducible refine (cruciblelaw0_SameLines.calls kj4 _ _ t185 _ _ x4_1 t190 _ ?side1 ?side2 ?side3 ?side4 A76.out).mono ?_); (case side1 => repeat (first | exact (Kd.R_reads' HO188.out).2.2 | (with_reducible refine Kd.C_alloc ?_ _) | (with_reducible refine Kd.C_drewN ?_ _) | (with_reducible refine Kd.C_drew ?_))); (case side2 => exact (Kd.R_reads' HO188.out).2.1); (case side3 => repeat (first | exact (Kd.R_reads' HO_4.out).2.2 | (with_reducible refine Kd.C_alloc ?_ _) | (with_reducible refine Kd.C_drewN ?_ _) | (with_reducible refine Kd.C_drew ?_))); (case side4 => exact (Kd.R_reads' HO_4.out).2.1); rintro e w' ⟨rfl, ⟨nd, rfl⟩⟩))
                go_ret
                exact ⟨by first | rfl | (simp [errW_none, errW_some] <;> rfl) | (simp [*, errW_none, errW_some] <;> rfl), by repeat (first | (with_reducible first | exact HB.out | apply below_alloc | apply pw_below_drewN | apply below_drew1) | exact HB.out)⟩
              · rw [if_neg c75] at H
                have c75b0 : (t189 == 0) = false := beq_eq_false_iff_ne.mpr c75
                have c75b1 : (t189 != 0) = true := bne_iff_ne.mpr c75
                obtain rfl := Option.some.inj H
                go_wp2_with (first | ((with_reducible refine gate_callee (f := 8) rfl ?_); refine goesL_ (some 113) rfl rfl Tryd.func8 (by kernel_rfl) rfl #[.string x3_1] rfl (by (try simp only [List.map_toArray, List.map_cons, List.map_nil]); first | done | rfl | (simp only [List.length_drop, List.length_take]; rfl)) ?_; (with_reducible refine (lines_Cut.calls x3_1 t185 t186 _ A73.out).mono ?_); rintro e w80 ⟨v187, rfl, ho0, hb⟩; refine ⟨_, rfl, ?_⟩; have n0_ := Aside0.mk (Kd.R_elder' (by (with_reducible repeat (first | apply Kd.R_alloc | apply Kd.R_drewN | apply Kd.R_drew)); exact HO_4.out) (Kd.R_base ho0) hb); have n1_ := Aside0.mk (Kd.R_lower (Kd.R_new' ho0 (Kd.R_lt (by (with_reducible repeat (first | apply Kd.R_alloc | apply Kd.R_drewN | apply Kd.R_drew)); exact HO_4.out))) (below_size (by repeat (first | (with_reducible first | exact HB.out | apply below_alloc | apply pw_below_drewN | apply below_drew1) | exact HB.out)))); have n2_ := Aside0.mk (below_step (by repeat (first | (with_reducible first | exact HB.out | apply below_alloc | apply pw_below_drewN | apply below_drew1) | exact HB.out)) hb); clear HO_4; clear HB; have HO_4 := n0_; have HO188 := n1_; have HB := n2_; clear n0_ n1_ n2_; (try clear hb); (try clear hb2); (try clear hk); (try clear hi); (try clear ho0)) | ((with_reducible refine gate_callee (f := 11) rfl ?_); refine goesL_ (some 117) rfl rfl Tryd.func11 (by kernel_rfl) rfl #[.int .i64 t186] rfl (by (try simp only [List.map_toArray, List.map_cons, List.map_nil]); first | done | rfl | (simp only [List.length_drop, List.length_take]; rfl)) ?_; (with_reducible refine (cruciblelaw0_Num.calls t186 t189 _ A74.out).mono ?_); rintro e w' ⟨rfl, ⟨nd, rfl⟩⟩; refine ⟨_, rfl, ?_⟩))
                go_ret
                exact ⟨by first | rfl | (simp [errW_none, errW_some] <;> rfl) | (simp [*, errW_none, errW_some] <;> rfl), by repeat (first | (with_reducible first | exact HB.out | apply below_alloc | apply pw_below_drewN | apply below_drew1) | exact HB.out)⟩
  · replace c3 := Bool.eq_false_iff.mpr c3
    subst c3
    have H1 : (some false) = some r := by rw [if_neg (show ¬ (false = true) by decide)] at H; exact H
    clear H
    have H := H1
    clear H1
    obtain rfl := Option.some.inj H
    go_enter Tryd.func5, Tryd.ntmps5
    go_wp2_with (first | ((with_reducible refine gate_callee (f := 13) rfl ?_); refine goesL_ (some 9) rfl rfl Tryd.func13 (by kernel_rfl) rfl #[] rfl (by (try simp only [List.map_toArray, List.map_cons, List.map_nil]); first | done | rfl | (simp only [List.length_drop, List.length_take]; rfl)) ?_; (with_reducible refine (cruciblelaw6_awake.calls k  false _ A2.out).mono ?_); rintro e w81 ⟨rfl, hb⟩; refine ⟨_, rfl, ?_⟩; have n0_ := Aside0.mk (below_step (by repeat (first | (with_reducible first | exact HB.out | apply below_alloc | apply pw_below_drewN | apply below_drew1) | exact HB.out)) hb); clear HB; have HB := n0_; clear n0_; (try clear hb); (try clear hb2); (try clear hk); (try clear hi)))
    go_ret
    exact ⟨by first | rfl | (simp [errW_none, errW_some] <;> rfl) | (simp [*, errW_none, errW_some] <;> rfl), by repeat (first | (with_reducible first | exact HB.out | apply below_alloc | apply pw_below_drewN | apply below_drew1) | exact HB.out)⟩

/-- THE ONE PURE STATEMENT of cruciblelaw6_LineRow: yours. -/
def cruciblelaw6_LineRow.Pure : Prop := ∀ (l0 : List Int), l0.length ≤ maxLen → l0.length * 8 ≤ 140737488351232 → (∀ x ∈ l0, (Lit.int .i64 x).wf = true) → ∃ k, cruciblelaw6_LineRow.f k l0 = some true
theorem cruciblelaw6_LineRow.walk (P : cruciblelaw6_LineRow.Pure) (a0 : Option Addr) (len0 cap0 : Nat) (z0 : List Int) (w : World) (w0 : (a0 = none ∧ len0 = 0 ∧ cap0 = 0 ∧ z0 = []) ∨ ∃ x, a0 = some x ∧ len0 ≤ cap0 ∧ cap0 ≤ maxLen ∧ z0.length = cap0 ∧ (∀ i, i < z0.length → w.cell? (x.add i) = some (.int .i64 (z0.getD i 0))) ∧ ∀ n ∈ z0, (Lit.int .i64 n).wf = true) (y0 : len0 * 8 ≤ 140737488351232) :
    Calls Tryd.prog 5 #[.slice a0 len0 cap0] w fun e w' => e = .returned (.bool true) ∧ Below w.heap.size w w' := by
  obtain ⟨l0, rfl, hr0, hm0, hw0, hc0⟩ := ReadsInt.ofRowC w0
  obtain ⟨k, h⟩ := P l0 hm0 y0 hw0
  refine (cruciblelaw6_LineRow.calls k _ _ l0 true w (Kd.C_of_reads (d := (0 : Int)) (h1 := fun _ => rfl) hr0) hc0 h).mono ?_
  rintro e w' ⟨rfl, hd⟩
  exact ⟨rfl, hd⟩

end Go.Proofs.YtbkgcdjbkoeejaaDoor.Print
