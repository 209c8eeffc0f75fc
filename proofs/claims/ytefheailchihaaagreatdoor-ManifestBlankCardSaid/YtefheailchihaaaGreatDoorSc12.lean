/- YtefheailchihaaaGreatDoorSc12: out of this seat's texts (wip/tools/shake.py), what is needed alone. -/
import Derived.Test.YtefheailchihaaaGreatDoorSc11
section
namespace Go.Proofs.YtefheailchihaaaGreatDoor.Print
open Go.RowKit Go.Proofs.YtefheailchihaaaGreatDoorW.PrintWords Go.Proofs.YtefheailchihaaaGreatDoorW.PrintLast Go.Proofs.YtefheailchihaaaGreatDoorW.PrintMore
attribute [local go_sem] max2_int min2_int max_two min_two max_three min_three max_four min_four   -- for this text's walks alone
set_option linter.unusedVariables false
set_option linter.unusedSimpArgs false

def cruciblelaw8_ManifestBlank.l0 : Nat → Int → Int → ByteArray → List Int → Int → Option (Bool)
  | 0, _, _, _, _, _ => none
  | k + 1, x0, x1, x5, x6, x7 => if x7 < (x5.size : Int) then (if 0 ≤ x7 then (if (bt x5 x7) = 10 then (if x6.length < 17592186044416 then (cruciblelaw8_ManifestBlank.l0 k x0 x1 x5 (x6 ++ [x7]) (wrap64 (x7 + 1))) else (none)) else (cruciblelaw8_ManifestBlank.l0 k x0 x1 x5 x6 (wrap64 (x7 + 1)))) else (none)) else (if (IntKind.u64.wrap ((x6.length : Int))) = 0 then (none) else (if 0 ≤ (wrap64 (Int.tmod (IntKind.u64.wrap (x0)) (IntKind.u64.wrap ((x6.length : Int))))) then (if (wrap64 (Int.tmod (IntKind.u64.wrap (x0)) (IntKind.u64.wrap ((x6.length : Int))))) < (x6.length : Int) then ((some (([(⟨#[10]⟩ : ByteArray), (⟨#[10, 32, 32, 35, 32, 110, 111, 32, 36, 120]⟩ : ByteArray), (⟨#[32, 32]⟩ : ByteArray), (⟨#[10, 32, 32, 32, 32, 32, 32]⟩ : ByteArray)] : List ByteArray) : List ByteArray)).bind fun y489 => (if 0 ≤ (Go.bits .and .i64 x1 3) then (if (Go.bits .and .i64 x1 3) < (y489.length : Int) then ((manifest_Parse.f x5).bind fun bt493 => (if 0 ≤ (rd x6 (wrap64 (Int.tmod (IntKind.u64.wrap (x0)) (IntKind.u64.wrap ((x6.length : Int)))))) then (if (rd x6 (wrap64 (Int.tmod (IntKind.u64.wrap (x0)) (IntKind.u64.wrap ((x6.length : Int)))))) ≤ (x5.size : Int) then (if (x5.extract 0 ((rd x6 (wrap64 (Int.tmod (IntKind.u64.wrap (x0)) (IntKind.u64.wrap ((x6.length : Int)))))) : Int).toNat).size + (rdOf ByteArray.empty y489 (Go.bits .and .i64 x1 3)).size ≤ 9223372036854775807 then (if ((x5.extract 0 ((rd x6 (wrap64 (Int.tmod (IntKind.u64.wrap (x0)) (IntKind.u64.wrap ((x6.length : Int)))))) : Int).toNat) ++ (rdOf ByteArray.empty y489 (Go.bits .and .i64 x1 3))).size + (x5.extract ((rd x6 (wrap64 (Int.tmod (IntKind.u64.wrap (x0)) (IntKind.u64.wrap ((x6.length : Int)))))) : Int).toNat x5.size).size ≤ 9223372036854775807 then ((manifest_Parse.f (((x5.extract 0 ((rd x6 (wrap64 (Int.tmod (IntKind.u64.wrap (x0)) (IntKind.u64.wrap ((x6.length : Int)))))) : Int).toNat) ++ (rdOf ByteArray.empty y489 (Go.bits .and .i64 x1 3))) ++ (x5.extract ((rd x6 (wrap64 (Int.tmod (IntKind.u64.wrap (x0)) (IntKind.u64.wrap ((x6.length : Int)))))) : Int).toNat x5.size))).bind fun bt504 => ((cruciblelaw0_Num.f bt493.2.2.2).bind fun t515 => (if t515 = 0 then ((cruciblelaw0_Num.f bt504.2.2.2).bind fun t516 => (if t516 = 0 then ((cruciblelaw0_SameGraph.f k bt493.1 bt493.2.1 bt493.2.2.1 bt504.1 bt504.2.1 bt504.2.2.1).bind fun t517 => (some t517)) else (some false))) else (some false)))) else (none)) else (none)) else (none)) else (none))) else (none)) else (none))) else (none)) else (none)))
def cruciblelaw8_ManifestBlank.f (k : Nat) (a0 : Int) (a1 : Int) : Option (Bool) := (cruciblelaw8_awake.f).bind fun t483 => (if t483 = true then ((cruciblelaw8_text.f).bind fun t484 => (cruciblelaw8_ManifestBlank.l0 k a0 a1 t484 ([] : List Int) 0)) else (some false))
theorem cruciblelaw8_ManifestBlank.mono_l : ∀ k, (∀ y0 y1 y2 y3 y4, LeO (cruciblelaw8_ManifestBlank.l0 k y0 y1 y2 y3 y4) (cruciblelaw8_ManifestBlank.l0 (k + 1) y0 y1 y2 y3 y4))
  | 0 => fun _ _ _ _ _ r h => by simp [cruciblelaw8_ManifestBlank.l0] at h
  | k + 1 => by
    have ih0 := cruciblelaw8_ManifestBlank.mono_l k
    · intro y0 y1 y2 y3 y4
      unfold cruciblelaw8_ManifestBlank.l0
      repeat' first
      | (with_reducible exact ih0 _ _ _ _ _)
      | (with_reducible exact cruciblelaw0_SameGraph.mono _ _ _ _ _ _ _)
      | (with_reducible exact LeO.refl _)
      | (with_reducible exact LeO.none _)
      | (with_reducible refine LeO.ite ?_ ?_)
      | (with_reducible refine LeO.bind ?_ (fun _ => ?_))
      | exact ih0 _ _ _ _ _
      | exact cruciblelaw0_SameGraph.mono _ _ _ _ _ _ _
      | exact LeO.none _
      | refine LeO.ite ?_ ?_
      | refine LeO.bind ?_ (fun _ => ?_)
theorem cruciblelaw8_ManifestBlank.mono : ∀ a0 a1 k, LeO (cruciblelaw8_ManifestBlank.f k a0 a1) (cruciblelaw8_ManifestBlank.f (k + 1) a0 a1) := by
  intro a0 a1 k
  have ih0 := cruciblelaw8_ManifestBlank.mono_l k
  unfold cruciblelaw8_ManifestBlank.f
  repeat' first
      | (with_reducible exact ih0 _ _ _ _ _)
      | (with_reducible exact cruciblelaw0_SameGraph.mono _ _ _ _ _ _ _)
      | (with_reducible exact LeO.refl _)
      | (with_reducible exact LeO.none _)
      | (with_reducible refine LeO.ite ?_ ?_)
      | (with_reducible refine LeO.bind ?_ (fun _ => ?_))
      | exact ih0 _ _ _ _ _
      | exact cruciblelaw0_SameGraph.mono _ _ _ _ _ _ _
      | exact LeO.none _
      | refine LeO.ite ?_ ?_
      | refine LeO.bind ?_ (fun _ => ?_)
def cruciblelaw8_ManifestBlank.T13 : Bool × List (List Nat × List Nat) := (true, [([], []), ([], []), ([0, 1], [0, 1]), ([], []), ([2, 3], [2, 3]), ([], []), ([], []), ([5, 6], [5, 6]), ([4, 7], [4, 7]), ([8], [8]), ([9], [9]), ([10], [10]), ([10], [10]), ([], []), ([13, 11, 9, 0, 1, 2, 3, 4, 5, 6, 7, 8, 9, 10, 11, 13], [11, 13]), ([12, 14, 0, 1, 2, 3, 4, 5, 6, 7, 8, 9, 10, 11, 12, 13, 14], [12])])
def cruciblelaw8_ManifestBlank.B13 : List Nat := [0, 0, 3, 0, 15, 0, 0, 96, 255, 511, 1023, 2047, 2047, 0, 12287, 32767]
theorem cruciblelaw8_ManifestBlank.tab13 : rtab .any (opsOf Tryz.f7 13) = cruciblelaw8_ManifestBlank.T13 := by kernel_rfl
theorem cruciblelaw8_ManifestBlank.bits13 : waitsOk cruciblelaw8_ManifestBlank.T13.2 cruciblelaw8_ManifestBlank.B13 = true := by kernel_rfl
set_option maxHeartbeats 8000000 in
set_option maxRecDepth 100000 in
theorem cruciblelaw8_ManifestBlank.calls (k : Nat) (a0 : Int) (a1 : Int) (r : Bool) (w : World) (h : cruciblelaw8_ManifestBlank.f k a0 a1 = some r) :
    Calls Tryz.prog 7 #[.int .i64 a0, .int .i64 a1] w fun e w' => e = .returned (.bool r) ∧ Below w.heap.size w w' := by
  have hu26 := Tryz.underlying26
  have HB := Aside0.mk (Below.refl w.heap.size w)
  have H : ((cruciblelaw8_awake.f).bind fun t483 => (if t483 = true then ((cruciblelaw8_text.f).bind fun t484 => (cruciblelaw8_ManifestBlank.l0 k a0 a1 t484 ([] : List Int) 0)) else (some false))) = some r := h
  clear h
  replace H := Option.bind_eq_some_iff.mp H
  obtain ⟨t483, A30, H⟩ := H
  replace H : (if t483 = true then ((cruciblelaw8_text.f).bind fun t484 => (cruciblelaw8_ManifestBlank.l0 k a0 a1 t484 ([] : List Int) 0)) else (some false)) = some r := H
  have A3 := Aside0.mk A30
  clear A30
  by_cases c4 : t483 = true
  · subst c4
    have H1 : ((cruciblelaw8_text.f).bind fun t484 => (cruciblelaw8_ManifestBlank.l0 k a0 a1 t484 ([] : List Int) 0)) = some r := by rw [if_pos rfl] at H; exact H
    clear H
    have H := H1
    clear H1
    replace H := Option.bind_eq_some_iff.mp H
    obtain ⟨t484, A50, H⟩ := H
    replace H : (cruciblelaw8_ManifestBlank.l0 k a0 a1 t484 ([] : List Int) 0) = some r := H
    have A5 := Aside0.mk A50
    clear A50
    have H' := Aside0.mk H
    clear H
    go_enter Tryz.func7, Tryz.ntmps7
    go_wp2_with (first | ((with_reducible refine gate_callee (f := 15) rfl ?_); refine goesL_ (some 14) rfl rfl Tryz.func15 (by kernel_rfl) rfl #[] rfl (by (try simp only [List.map_toArray, List.map_cons, List.map_nil]); first | done | rfl | (simp only [List.length_drop, List.length_take]; rfl)) ?_; (with_reducible refine (cruciblelaw8_awake.calls  true _ A3.out).mono ?_); rintro e w6 ⟨rfl, hb⟩; refine ⟨_, rfl, ?_⟩; have n0_ := Aside0.mk (below_step (by repeat (first | (with_reducible first | exact HB.out | apply below_alloc | apply pw_below_drewN | apply below_drew1) | exact HB.out)) hb); clear HB; have HB := n0_; clear n0_; (try clear hb); (try clear hb2); (try clear hk); (try clear hi)) | ((with_reducible refine gate_callee (f := 16) rfl ?_); refine goesL_ (some 16) rfl rfl Tryz.func16 (by kernel_rfl) rfl #[] rfl (by (try simp only [List.map_toArray, List.map_cons, List.map_nil]); first | done | rfl | (simp only [List.length_drop, List.length_take]; rfl)) ?_; (with_reducible refine (cruciblelaw8_text.calls  t484 _ A5.out).mono ?_); rintro e w' ⟨rfl, ⟨nd, rfl⟩⟩; refine ⟨_, rfl, ?_⟩))
    go_loopg [6, 7] k (fun kq v6 v7 w' => ∃ (x6_1 : List Int) (x7_1 : Int), v7 = .int .i64 x7_1 ∧ Aside0 (cruciblelaw8_ManifestBlank.l0 kq a0 a1 t484 x6_1 x7_1 = some r) ∧ Aside0 (kq ≤ k) ∧ Aside0 (Kd.R (Kd.int .i64) 3 w' w.heap.size (fun _ => True) v6 x6_1) ∧ Aside0 (Below w.heap.size w w'))
    case atStart => exact ⟨(([] : List Int)), (0), (by first | rfl | (simp; done) | (simp [*]; done)), H', ⟨Nat.le_refl _⟩, ⟨by first | exact Kd.R_nil _ _ _ _ _ | exact Kd.N_nil _ _ _ _ _ | exact Kd.V_nil _ _ _ _ _ | exact Kd.Q_nil _ _ _ _ _ | exact Kd.R_nil _ _ _ _ _⟩, ⟨by repeat (first | (with_reducible first | exact HB.out | apply below_alloc | apply pw_below_drewN | apply below_drew1) | exact HB.out)⟩⟩
    case round =>
      clear H'
      try clear c1
      try clear p2
      try clear c4
      obtain ⟨x6_1, x7_1, rfl, HA, HK1, HO_6, HB⟩ := hrel
      cases gk with
      | zero => exact absurd HA.out (by simp [cruciblelaw8_ManifestBlank.l0])
      | succ k1 =>
        have H := HA.out
        clear HA
        simp only [cruciblelaw8_ManifestBlank.l0] at H
        by_cases c7 : x7_1 < (t484.size : Int)
        · rw [if_pos c7] at H
          have c7b0 : decide (x7_1 < (t484.size : Int)) = true := decide_eq_true c7
          clear c7
          by_cases c8 : 0 ≤ x7_1
          · rw [if_pos c8] at H
            have c8b0 : decide (0 ≤ x7_1) = true := decide_eq_true c8
            clear c8
            by_cases c10 : (bt t484 x7_1) = 10
            · rw [if_pos c10] at H
              have c10b0 : ((bt t484 x7_1) == 10) = true := beq_iff_eq.mpr c10
              have c10b1 : ((bt t484 x7_1) != 10) = false := bne_eq_false_iff_eq.mpr c10
              clear c10
              by_cases c11 : x6_1.length < 17592186044416
              · rw [if_pos c11] at H
                have LMc11 := Aside0.mk c11
                clear c11
                obtain ⟨y485, hy485⟩ : ∃ y_ : List Int, y_ = (x6_1 ++ [x7_1]) := ⟨_, rfl⟩
                replace H : (cruciblelaw8_ManifestBlank.l0 k1 a0 a1 t484 y485 (wrap64 (x7_1 + 1))) = some r := by first | (rw [hy485]; with_reducible exact H) | (have H2_ := (Option.bind_some _ _).symm.trans H; rw [hy485]; with_reducible exact H2_) | (have H2_ := (Option.bind_some _ _).symm.trans H; with_reducible exact H2_) | with_reducible exact H | (rw [hy485]; exact H) | exact H
                have Ny485 := Aside0.mk hy485
                clear hy485
                have H' := Aside0.mk H
                clear H
                have p9 : 0 ≤ (x7_1 : Int) := of_decide_eq_true (by first | (with_reducible assumption) | assumption)
                have q9 : x7_1 < (t484.size : Int) := of_decide_eq_true (by first | (with_reducible assumption) | assumption)
                have hx9 := bt_at t484 x7_1
                replace p9 := eq_true p9
                replace q9 := eq_true q9
                go_wp2_with (first | ((with_reducible refine gate_builtin (b := .append) (xs := #[.tmp 27, .tmp 29]) rfl ?_); at_builtin; refine Kd.R_append (Kd.int .i64) (w0 := w) w.heap.size rfl (.tmp 27) (.tmp 29) 40 3 (.int .i64 0) 8 rfl Tryz.underlying40 info3 rfl (by decide) (by omega) u6 x6_1 x7_1 [.int .i64 x7_1] (fun _ => True) (fun _ => False) rfl rfl ?aP (fun _ hk => hk.elim) ?aF ?aO ?aB ?aS ?aL ?_; (case aP => exact rfl); (case aB => exact (by repeat (first | (with_reducible first | exact HB.out | apply below_alloc | apply pw_below_drewN | apply below_drew1) | exact HB.out))); (case aF => exact (fun _ _ => trivial)); (case aO => exact (by (with_reducible repeat (first | apply Kd.R_alloc | apply Kd.R_drewN | apply Kd.R_drew)); exact HO_6.out)); (case aS => exact (below_size (by repeat (first | (with_reducible first | exact HB.out | apply below_alloc | apply pw_below_drewN | apply below_drew1) | exact HB.out)))); (case aL => have := LMc11.out; omega); intro v486 w12 ho hb hg hat; rw [← Ny485.out] at ho; have n0_ := Aside0.mk (hb); have n1_ := Aside0.mk (ho); clear HB; clear HO_6; have HB := n0_; have HO487 := n1_; clear n0_ n1_; clear ho hb hg hat))
                go_roundg k1
                case measure => have := HK1.out; omega
                case rel => exact ⟨(y485), (wrap64 (x7_1 + 1)), (by first | rfl | (simp; done) | (simp [*]; done)), H', ⟨by have := HK1.out; omega⟩, ⟨by (with_reducible repeat (first | apply Kd.R_alloc | apply Kd.R_drewN | apply Kd.R_drew)); exact HO487.out⟩, ⟨by repeat (first | (with_reducible first | exact HB.out | apply below_alloc | apply pw_below_drewN | apply below_drew1) | exact HB.out)⟩⟩
              · rw [if_neg c11] at H
                exact absurd H (by simp)
            · rw [if_neg c10] at H
              have c10b0 : ((bt t484 x7_1) == 10) = false := beq_eq_false_iff_ne.mpr c10
              have c10b1 : ((bt t484 x7_1) != 10) = true := bne_iff_ne.mpr c10
              have H' := Aside0.mk H
              clear H
              have p9 : 0 ≤ (x7_1 : Int) := of_decide_eq_true (by first | (with_reducible assumption) | assumption)
              have q9 : x7_1 < (t484.size : Int) := of_decide_eq_true (by first | (with_reducible assumption) | assumption)
              have hx9 := bt_at t484 x7_1
              replace p9 := eq_true p9
              replace q9 := eq_true q9
              go_wp2
              go_roundg k1
              case measure => have := HK1.out; omega
              case rel => exact ⟨(x6_1), (wrap64 (x7_1 + 1)), (by first | rfl | (simp; done) | (simp [*]; done)), H', ⟨by have := HK1.out; omega⟩, ⟨by (with_reducible repeat (first | apply Kd.R_alloc | apply Kd.R_drewN | apply Kd.R_drew)); exact HO_6.out⟩, ⟨by repeat (first | (with_reducible first | exact HB.out | apply below_alloc | apply pw_below_drewN | apply below_drew1) | exact HB.out)⟩⟩
          · rw [if_neg c8] at H
            exact absurd H (by simp)
        · rw [if_neg c7] at H
          have c7b0 : decide (x7_1 < (t484.size : Int)) = false := decide_eq_false c7
          clear c7
          by_cases c13 : (IntKind.u64.wrap ((x6_1.length : Int))) = 0
          · rw [if_pos c13] at H
            exact absurd H (by simp)
          · rw [if_neg c13] at H
            have c13b0 : ((IntKind.u64.wrap ((x6_1.length : Int))) == 0) = false := beq_eq_false_iff_ne.mpr c13
            have c13b1 : ((IntKind.u64.wrap ((x6_1.length : Int))) != 0) = true := bne_iff_ne.mpr c13
            obtain ⟨ji14, hji14⟩ : ∃ j_ : Int, (wrap64 (Int.tmod (IntKind.u64.wrap (a0)) (IntKind.u64.wrap ((x6_1.length : Int))))) = j_ := ⟨_, rfl⟩
            replace H : (if 0 ≤ (ji14) then (if (ji14) < (x6_1.length : Int) then ((some (([(⟨#[10]⟩ : ByteArray), (⟨#[10, 32, 32, 35, 32, 110, 111, 32, 36, 120]⟩ : ByteArray), (⟨#[32, 32]⟩ : ByteArray), (⟨#[10, 32, 32, 32, 32, 32, 32]⟩ : ByteArray)] : List ByteArray) : List ByteArray)).bind fun y489 => (if 0 ≤ (Go.bits .and .i64 a1 3) then (if (Go.bits .and .i64 a1 3) < (y489.length : Int) then ((manifest_Parse.f t484).bind fun bt493 => (if 0 ≤ (rd x6_1 (ji14)) then (if (rd x6_1 (ji14)) ≤ (t484.size : Int) then (if (t484.extract 0 ((rd x6_1 (ji14)) : Int).toNat).size + (rdOf ByteArray.empty y489 (Go.bits .and .i64 a1 3)).size ≤ 9223372036854775807 then (if ((t484.extract 0 ((rd x6_1 (ji14)) : Int).toNat) ++ (rdOf ByteArray.empty y489 (Go.bits .and .i64 a1 3))).size + (t484.extract ((rd x6_1 (ji14)) : Int).toNat t484.size).size ≤ 9223372036854775807 then ((manifest_Parse.f (((t484.extract 0 ((rd x6_1 (ji14)) : Int).toNat) ++ (rdOf ByteArray.empty y489 (Go.bits .and .i64 a1 3))) ++ (t484.extract ((rd x6_1 (ji14)) : Int).toNat t484.size))).bind fun bt504 => ((cruciblelaw0_Num.f bt493.2.2.2).bind fun t515 => (if t515 = 0 then ((cruciblelaw0_Num.f bt504.2.2.2).bind fun t516 => (if t516 = 0 then ((cruciblelaw0_SameGraph.f k1 bt493.1 bt493.2.1 bt493.2.2.1 bt504.1 bt504.2.1 bt504.2.2.1).bind fun t517 => (some t517)) else (some false))) else (some false)))) else (none)) else (none)) else (none)) else (none))) else (none)) else (none))) else (none)) else (none)) = some r := by first | (rw [hji14] at H; exact H) | (simp only [hji14] at H ⊢; exact H)
            have hji14w : (IntKind.i64.wrap (Int.tmod (IntKind.u64.wrap (a0)) (IntKind.u64.wrap ((x6_1.length : Int))))) = ji14 := (i64_w _).trans hji14
            by_cases c15 : 0 ≤ (ji14)
            · rw [if_pos c15] at H
              have c15b0 : decide (0 ≤ (ji14)) = true := decide_eq_true c15
              clear c15
              by_cases c16 : (ji14) < (x6_1.length : Int)
              · rw [if_pos c16] at H
                have c16b0 : decide ((ji14) < (x6_1.length : Int)) = true := decide_eq_true c16
                clear c16
                obtain ⟨y489, hy489⟩ : ∃ y_ : List ByteArray, y_ = (([(⟨#[10]⟩ : ByteArray), (⟨#[10, 32, 32, 35, 32, 110, 111, 32, 36, 120]⟩ : ByteArray), (⟨#[32, 32]⟩ : ByteArray), (⟨#[10, 32, 32, 32, 32, 32, 32]⟩ : ByteArray)] : List ByteArray)) := ⟨_, rfl⟩
                replace H : (if 0 ≤ (Go.bits .and .i64 a1 3) then (if (Go.bits .and .i64 a1 3) < (y489.length : Int) then ((manifest_Parse.f t484).bind fun bt493 => (if 0 ≤ (rd x6_1 (ji14)) then (if (rd x6_1 (ji14)) ≤ (t484.size : Int) then (if (t484.extract 0 ((rd x6_1 (ji14)) : Int).toNat).size + (rdOf ByteArray.empty y489 (Go.bits .and .i64 a1 3)).size ≤ 9223372036854775807 then (if ((t484.extract 0 ((rd x6_1 (ji14)) : Int).toNat) ++ (rdOf ByteArray.empty y489 (Go.bits .and .i64 a1 3))).size + (t484.extract ((rd x6_1 (ji14)) : Int).toNat t484.size).size ≤ 9223372036854775807 then ((manifest_Parse.f (((t484.extract 0 ((rd x6_1 (ji14)) : Int).toNat) ++ (rdOf ByteArray.empty y489 (Go.bits .and .i64 a1 3))) ++ (t484.extract ((rd x6_1 (ji14)) : Int).toNat t484.size))).bind fun bt504 => ((cruciblelaw0_Num.f bt493.2.2.2).bind fun t515 => (if t515 = 0 then ((cruciblelaw0_Num.f bt504.2.2.2).bind fun t516 => (if t516 = 0 then ((cruciblelaw0_SameGraph.f k1 bt493.1 bt493.2.1 bt493.2.2.1 bt504.1 bt504.2.1 bt504.2.2.1).bind fun t517 => (some t517)) else (some false))) else (some false)))) else (none)) else (none)) else (none)) else (none))) else (none)) else (none)) = some r := by first | (rw [hy489]; with_reducible exact H) | (have H2_ := (Option.bind_some _ _).symm.trans H; rw [hy489]; with_reducible exact H2_) | (have H2_ := (Option.bind_some _ _).symm.trans H; with_reducible exact H2_) | with_reducible exact H | (rw [hy489]; exact H) | exact H
                have Ny489 := Aside0.mk hy489
                clear hy489
                by_cases c17 : 0 ≤ (Go.bits .and .i64 a1 3)
                · rw [if_pos c17] at H
                  have c17b0 : decide (0 ≤ (Go.bits .and .i64 a1 3)) = true := decide_eq_true c17
                  clear c17
                  by_cases c18 : (Go.bits .and .i64 a1 3) < (y489.length : Int)
                  · rw [if_pos c18] at H
                    have c18b0 : decide ((Go.bits .and .i64 a1 3) < (y489.length : Int)) = true := decide_eq_true c18
                    clear c18
                    replace H := Option.bind_eq_some_iff.mp H
                    obtain ⟨⟨t493, t496, t499, t502⟩, A190, H⟩ := H
                    replace H : (if 0 ≤ (rd x6_1 (ji14)) then (if (rd x6_1 (ji14)) ≤ (t484.size : Int) then (if (t484.extract 0 ((rd x6_1 (ji14)) : Int).toNat).size + (rdOf ByteArray.empty y489 (Go.bits .and .i64 a1 3)).size ≤ 9223372036854775807 then (if ((t484.extract 0 ((rd x6_1 (ji14)) : Int).toNat) ++ (rdOf ByteArray.empty y489 (Go.bits .and .i64 a1 3))).size + (t484.extract ((rd x6_1 (ji14)) : Int).toNat t484.size).size ≤ 9223372036854775807 then ((manifest_Parse.f (((t484.extract 0 ((rd x6_1 (ji14)) : Int).toNat) ++ (rdOf ByteArray.empty y489 (Go.bits .and .i64 a1 3))) ++ (t484.extract ((rd x6_1 (ji14)) : Int).toNat t484.size))).bind fun bt504 => ((cruciblelaw0_Num.f t502).bind fun t515 => (if t515 = 0 then ((cruciblelaw0_Num.f bt504.2.2.2).bind fun t516 => (if t516 = 0 then ((cruciblelaw0_SameGraph.f k1 t493 t496 t499 bt504.1 bt504.2.1 bt504.2.2.1).bind fun t517 => (some t517)) else (some false))) else (some false)))) else (none)) else (none)) else (none)) else (none)) = some r := H
                    have A19 := Aside0.mk A190
                    clear A190
                    by_cases c20 : 0 ≤ (rd x6_1 (ji14))
                    · rw [if_pos c20] at H
                      have c20b0 := eq_true c20
                      have c20b1 : decide (0 ≤ (rd x6_1 (ji14))) = true := decide_eq_true c20
                      clear c20
                      by_cases c21 : (rd x6_1 (ji14)) ≤ (t484.size : Int)
                      · rw [if_pos c21] at H
                        have c21b0 := eq_true c21
                        have c21b1 : decide ((rd x6_1 (ji14)) ≤ (t484.size : Int)) = true := decide_eq_true c21
                        clear c21
                        by_cases c22 : (t484.extract 0 ((rd x6_1 (ji14)) : Int).toNat).size + (rdOf ByteArray.empty y489 (Go.bits .and .i64 a1 3)).size ≤ 9223372036854775807
                        · rw [if_pos c22] at H
                          have c22b0 := eq_true c22
                          have c22b1 : decide ((t484.extract 0 ((rd x6_1 (ji14)) : Int).toNat).size + (rdOf ByteArray.empty y489 (Go.bits .and .i64 a1 3)).size ≤ 9223372036854775807) = true := decide_eq_true c22
                          try have c22b2 : (9223372036854775807 < (t484.extract 0 ((rd x6_1 (ji14)) : Int).toNat).size + (rdOf ByteArray.empty y489 (Go.bits .and .i64 a1 3)).size) = False := eq_false (Nat.not_lt.2 c22)
                          have c23b0 := eq_true (of_decide_eq_true (by first | (with_reducible assumption) | assumption) : 0 ≤ (rd x6_1 (ji14)))
                          have c24b0 := eq_true (of_decide_eq_true (by first | (with_reducible assumption) | assumption) : (rd x6_1 (ji14)) ≤ (t484.size : Int))
                          by_cases c25 : ((t484.extract 0 ((rd x6_1 (ji14)) : Int).toNat) ++ (rdOf ByteArray.empty y489 (Go.bits .and .i64 a1 3))).size + (t484.extract ((rd x6_1 (ji14)) : Int).toNat t484.size).size ≤ 9223372036854775807
                          · rw [if_pos c25] at H
                            have c25b0 := eq_true c25
                            have c25b1 : decide (((t484.extract 0 ((rd x6_1 (ji14)) : Int).toNat) ++ (rdOf ByteArray.empty y489 (Go.bits .and .i64 a1 3))).size + (t484.extract ((rd x6_1 (ji14)) : Int).toNat t484.size).size ≤ 9223372036854775807) = true := decide_eq_true c25
                            try have c25b2 : (9223372036854775807 < ((t484.extract 0 ((rd x6_1 (ji14)) : Int).toNat) ++ (rdOf ByteArray.empty y489 (Go.bits .and .i64 a1 3))).size + (t484.extract ((rd x6_1 (ji14)) : Int).toNat t484.size).size) = False := eq_false (Nat.not_lt.2 c25)
                            have c25b3 : (9223372036854775807 < (t484.extract 0 ((rd x6_1 (ji14)) : Int).toNat).size + (rdOf ByteArray.empty y489 (Go.bits .and .i64 a1 3)).size + (t484.extract ((rd x6_1 (ji14)) : Int).toNat t484.size).size) = False := eq_false (by have hh : ((t484.extract 0 ((rd x6_1 (ji14)) : Int).toNat) ++ (rdOf ByteArray.empty y489 (Go.bits .and .i64 a1 3))).size = (t484.extract 0 ((rd x6_1 (ji14)) : Int).toNat).size + (rdOf ByteArray.empty y489 (Go.bits .and .i64 a1 3)).size := (by rw [ByteArray.size_append] <;> rfl); omega)
                            have hn_ : (rd x6_1 (ji14)).toNat ≤ t484.size := by have h_ := of_decide_eq_true c21b1; omega
                            have hs1_ : (t484.extract 0 ((rd x6_1 (ji14)) : Int).toNat).size = (rd x6_1 (ji14)).toNat := by rw [ByteArray.size_extract]; omega
                            have hs2_ : (t484.extract ((rd x6_1 (ji14)) : Int).toNat t484.size).size = t484.size - (rd x6_1 (ji14)).toNat := by rw [ByteArray.size_extract]; omega
                            have c22b8 : (9223372036854775807 < (rd x6_1 (ji14)).toNat + (rdOf ByteArray.empty y489 (Go.bits .and .i64 a1 3)).size) = False := eq_false (by have h_ := c22; rw [hs1_] at h_; omega)
                            have c25b8 : (9223372036854775807 < (rd x6_1 (ji14)).toNat + (rdOf ByteArray.empty y489 (Go.bits .and .i64 a1 3)).size + (t484.size - (rd x6_1 (ji14)).toNat)) = False := eq_false (by have h_ := c25; rw [ByteArray.size_append, hs1_, hs2_] at h_; omega)
                            clear hn_ hs1_ hs2_
                            replace H := Option.bind_eq_some_iff.mp H
                            obtain ⟨⟨t504, t507, t510, t513⟩, A260, H⟩ := H
                            replace H : ((cruciblelaw0_Num.f t502).bind fun t515 => (if t515 = 0 then ((cruciblelaw0_Num.f t513).bind fun t516 => (if t516 = 0 then ((cruciblelaw0_SameGraph.f k1 t493 t496 t499 t504 t507 t510).bind fun t517 => (some t517)) else (some false))) else (some false))) = some r := H
                            have A26 := Aside0.mk A260
                            clear A260
                            replace H := Option.bind_eq_some_iff.mp H
                            obtain ⟨t515, A270, H⟩ := H
                            replace H : (if t515 = 0 then ((cruciblelaw0_Num.f t513).bind fun t516 => (if t516 = 0 then ((cruciblelaw0_SameGraph.f k1 t493 t496 t499 t504 t507 t510).bind fun t517 => (some t517)) else (some false))) else (some false)) = some r := H
                            have A27 := Aside0.mk A270
                            clear A270
                            by_cases c28 : t515 = 0
                            · rw [if_pos c28] at H
                              have c28b0 : (t515 == 0) = true := beq_iff_eq.mpr c28
                              have c28b1 : (t515 != 0) = false := bne_eq_false_iff_eq.mpr c28
                              clear c28
                              replace H := Option.bind_eq_some_iff.mp H
                              obtain ⟨t516, A290, H⟩ := H
                              replace H : (if t516 = 0 then ((cruciblelaw0_SameGraph.f k1 t493 t496 t499 t504 t507 t510).bind fun t517 => (some t517)) else (some false)) = some r := H
                              have A29 := Aside0.mk A290
                              clear A290
                              by_cases c30 : t516 = 0
                              · rw [if_pos c30] at H
                                have c30b0 : (t516 == 0) = true := beq_iff_eq.mpr c30
                                have c30b1 : (t516 != 0) = false := bne_eq_false_iff_eq.mpr c30
                                clear c30
                                replace H := Option.bind_eq_some_iff.mp H
                                obtain ⟨t517, A310, H⟩ := H
                                replace H : (some t517) = some r := H
                                have A31 := Aside0.mk A310
                                clear A310
                                obtain rfl := Option.some.inj H
                                obtain ⟨Ao32, co32, eo32⟩ := Kd.R_slice HO_6.out
                                subst eo32
                                have p488 : 0 ≤ ((ji14) : Int) := of_decide_eq_true (by first | (with_reducible assumption) | assumption)
                                have q488 : (ji14) < (x6_1.length : Int) := of_decide_eq_true (by first | (with_reducible assumption) | assumption)
                                obtain ⟨ad488, e488, hx488_0⟩ := Kd.at_int (Kd.R_reads' HO_6.out).2.2 (ji14) p488 q488
                                cases e488
                                replace p488 := eq_true p488
                                replace q488 := eq_true q488
                                try go_wp2_with (first | ((with_reducible refine gate_dst (N := 41) rfl ?_); refine Kd.R_lit Kd.string _ 9 ?hg (N := 41) ?hd (xs := ([(⟨#[10]⟩ : ByteArray), (⟨#[10, 32, 32, 35, 32, 110, 111, 32, 36, 120]⟩ : ByteArray), (⟨#[32, 32]⟩ : ByteArray), (⟨#[10, 32, 32, 32, 32, 32, 32]⟩ : ByteArray)] : List ByteArray)) (inner := [.string (⟨#[10]⟩ : ByteArray), .string (⟨#[10, 32, 32, 35, 32, 110, 111, 32, 36, 120]⟩ : ByteArray), .string (⟨#[32, 32]⟩ : ByteArray), .string (⟨#[10, 32, 32, 32, 32, 32, 32]⟩ : ByteArray)]) (ok := fun _ => True) (okp := fun _ => True) ?hr ?hp (fun _ hk => hk) trivial (Below.refl _ _) (Nat.le_refl _) (by simp) ?_; (case hd => rfl); (case hg => rfl); (case hr => first | (go_simp; done) | (go_simp; rfl)); (case hp => exact (Reps.one (show Kd.M Kd.string _ _ _ (⟨#[10]⟩ : ByteArray) [.string (⟨#[10]⟩ : ByteArray)] from rfl) (Reps.one (show Kd.M Kd.string _ _ _ (⟨#[10, 32, 32, 35, 32, 110, 111, 32, 36, 120]⟩ : ByteArray) [.string (⟨#[10, 32, 32, 35, 32, 110, 111, 32, 36, 120]⟩ : ByteArray)] from rfl) (Reps.one (show Kd.M Kd.string _ _ _ (⟨#[32, 32]⟩ : ByteArray) [.string (⟨#[32, 32]⟩ : ByteArray)] from rfl) (Reps.one (show Kd.M Kd.string _ _ _ (⟨#[10, 32, 32, 32, 32, 32, 32]⟩ : ByteArray) [.string (⟨#[10, 32, 32, 32, 32, 32, 32]⟩ : ByteArray)] from rfl) (Reps.none _ _)))))); intro v490 w33 ho34 hb hg_ hnew_; clear hg_ hnew_; (first | rw [← Ny489.out] at ho34 | (simp only [Int.reduceToNat] at ho34; rw [← Ny489.out] at ho34)); have n0_ := Aside0.mk (Kd.R_below (by (with_reducible repeat (first | apply Kd.R_alloc | apply Kd.R_drewN | apply Kd.R_drew)); exact HO_6.out) hb); have n1_ := Aside0.mk (Kd.R_lower ho34 (below_size (by repeat (first | (with_reducible first | exact HB.out | apply below_alloc | apply pw_below_drewN | apply below_drew1) | exact HB.out)))); have n2_ := Aside0.mk (below_step (by repeat (first | (with_reducible first | exact HB.out | apply below_alloc | apply pw_below_drewN | apply below_drew1) | exact HB.out)) hb); clear HO_6; clear HB; have HO_6 := n0_; have HO491 := n1_; have HB := n2_; clear n0_ n1_ n2_; clear hb ho34; obtain ⟨Ao35, co35, eo35⟩ := Kd.R_slice HO491.out; subst eo35; have p492 : 0 ≤ ((Go.bits .and .i64 a1 3) : Int) := of_decide_eq_true (by first | (with_reducible assumption) | assumption); have q492 : (Go.bits .and .i64 a1 3) < (y489.length : Int) := of_decide_eq_true (by first | (with_reducible assumption) | assumption); obtain ⟨ad492, e492, hx492_0⟩ := Kd.at_string (Kd.R_reads' HO491.out).2.2 (Go.bits .and .i64 a1 3) p492 q492; cases e492; replace p492 := eq_true p492; replace q492 := eq_true q492) | ((with_reducible refine gate_callee (f := 10) rfl ?_); refine goesL_ (some 48) rfl rfl Tryz.func10 (by kernel_rfl) rfl #[.string t484] rfl (by (try simp only [List.map_toArray, List.map_cons, List.map_nil]); first | done | rfl | (simp only [List.length_drop, List.length_take]; rfl)) ?_; (with_reducible refine (manifest_Parse.calls t484 t493 t496 t499 t502 _ A19.out).mono ?_); rintro e w36 ⟨v494, v497, v500, rfl, ho0, ho1, ho2, hb⟩; refine ⟨_, rfl, ?_⟩; have n0_ := Aside0.mk (Kd.R_below (by (with_reducible repeat (first | apply Kd.R_alloc | apply Kd.R_drewN | apply Kd.R_drew)); exact HO_6.out) hb); have n1_ := Aside0.mk (Kd.R_elder' (by (with_reducible repeat (first | apply Kd.R_alloc | apply Kd.R_drewN | apply Kd.R_drew)); exact HO491.out) (Kd.R_base ho2) hb); have n2_ := Aside0.mk (Kd.R_lower (Kd.R_new' ho0 (Kd.R_lt (by (with_reducible repeat (first | apply Kd.R_alloc | apply Kd.R_drewN | apply Kd.R_drew)); exact HO491.out))) (below_size (by repeat (first | (with_reducible first | exact HB.out | apply below_alloc | apply pw_below_drewN | apply below_drew1) | exact HB.out)))); have n3_ := Aside0.mk (Kd.R_lower ho1 (below_size (by repeat (first | (with_reducible first | exact HB.out | apply below_alloc | apply pw_below_drewN | apply below_drew1) | exact HB.out)))); have n4_ := Aside0.mk (Kd.R_lower (Kd.R_new' ho2 (Kd.R_lt (by (with_reducible repeat (first | apply Kd.R_alloc | apply Kd.R_drewN | apply Kd.R_drew)); exact HO491.out))) (below_size (by repeat (first | (with_reducible first | exact HB.out | apply below_alloc | apply pw_below_drewN | apply below_drew1) | exact HB.out)))); have n5_ := Aside0.mk (below_step (by repeat (first | (with_reducible first | exact HB.out | apply below_alloc | apply pw_below_drewN | apply below_drew1) | exact HB.out)) hb); clear HO_6; clear HO491; clear HB; have HO_6 := n0_; have HO491 := n1_; have HO495 := n2_; have HO498 := n3_; have HO501 := n4_; have HB := n5_; clear n0_ n1_ n2_ n3_ n4_ n5_; (try clear hb); (try clear hb2); (try clear hk); (try clear hi); (try clear ho0); (try clear ho1); (try clear ho2)) | ((with_reducible refine gate_dst (N := 10) rfl ?_); refine box_event ?hg (N := 10) ?hd (cs := #[.slice none 0 0, .slice none 0 0, .slice none 0 0]) (t := 26) ?hr ?_; (case hd => rfl); (case hg => rfl); (case hr => first | (go_simp; done) | (go_simp; rfl)); intro gb503 hg w37 hbox hb; have n0_ := Aside0.mk (Kd.R_below (by (with_reducible repeat (first | apply Kd.R_alloc | apply Kd.R_drewN | apply Kd.R_drew)); exact HO_6.out) hb); have n1_ := Aside0.mk (Kd.R_below (by (with_reducible repeat (first | apply Kd.R_alloc | apply Kd.R_drewN | apply Kd.R_drew)); exact HO491.out) hb); have n2_ := Aside0.mk (Kd.R_below (by (with_reducible repeat (first | apply Kd.R_alloc | apply Kd.R_drewN | apply Kd.R_drew)); exact HO495.out) hb); have n3_ := Aside0.mk (Kd.R_below (by (with_reducible repeat (first | apply Kd.R_alloc | apply Kd.R_drewN | apply Kd.R_drew)); exact HO498.out) hb); have n4_ := Aside0.mk (Kd.R_below (by (with_reducible repeat (first | apply Kd.R_alloc | apply Kd.R_drewN | apply Kd.R_drew)); exact HO501.out) hb); have n5_ := Aside0.mk (below_step (by repeat (first | (with_reducible first | exact HB.out | apply below_alloc | apply pw_below_drewN | apply below_drew1) | exact HB.out)) hb); have n6_ := Aside0.mk (hbox); have n7_ := Aside0.mk ((by rw [hg]; exact (below_size (by repeat (first | (with_reducible first | exact HB.out | apply below_alloc | apply pw_below_drewN | apply below_drew1) | exact HB.out))) : w.heap.size ≤ gb503)); have n8_ := Aside0.mk ((by rw [hg]; exact (below_size (by repeat (first | (with_reducible first | exact HB.out | apply below_alloc | apply pw_below_drewN | apply below_drew1) | exact HB.out))) : w.heap.size ≤ gb503)); clear HO_6; clear HO491; clear HO495; clear HO498; clear HO501; clear HB; have HO_6 := n0_; have HO491 := n1_; have HO495 := n2_; have HO498 := n3_; have HO501 := n4_; have HB := n5_; have BK503 := n6_; have GW503 := n7_; have GE503 := n8_; clear n0_ n1_ n2_ n3_ n4_ n5_ n6_ n7_ n8_; clear hb hbox hg; obtain ⟨Ao38, co38, eo38⟩ := Kd.R_slice HO495.out; subst eo38; have hcz39_0 : w37.cell? ⟨gb503, 0, none⟩ = some (.slice none 0 0) := (blk_cell BK503.out 0).trans rfl; have hcz39_1 : w37.cell? ⟨gb503, 1, none⟩ = some (.slice none 0 0) := (blk_cell BK503.out 1).trans rfl; have hcz39_2 : w37.cell? ⟨gb503, 2, none⟩ = some (.slice none 0 0) := (blk_cell BK503.out 2).trans rfl; have hfz39_0 := blk_frozen BK503.out 0; have hfz39_1 := blk_frozen BK503.out 1; have hfz39_2 := blk_frozen BK503.out 2; obtain ⟨Ao40, co40, eo40⟩ := Kd.R_slice HO498.out; subst eo40; obtain ⟨Ao41, co41, eo41⟩ := Kd.R_slice HO501.out; subst eo41))
                                have n0_ : Aside0 (Kd.R (Kd.int .i64) 3 (((w37.setCell ⟨gb503, 0, none⟩ (.slice Ao38 t493.length co38)).setCell ⟨gb503, 1, none⟩ (.slice Ao40 t496.length co40)).setCell ⟨gb503, 2, none⟩ (.slice Ao41 t499.length co41)) w.heap.size (fun _ => True) (.slice (some ad488) x6_1.length co32) x6_1) := ⟨by (with_reducible repeat (first | apply Kd.R_alloc | apply Kd.R_drewN | apply Kd.R_drew)); exact Kd.R_mono (Kd.R_far (p := ⟨gb503, 2, none⟩) (Kd.R_far (p := ⟨gb503, 1, none⟩) (Kd.R_far (p := ⟨gb503, 0, none⟩) (Kd.R_types HO_6.out BK503.out (by decide)) (fun _ hk => hk.2) (.slice Ao38 t493.length co38)) (fun _ hk => hk.2) (.slice Ao40 t496.length co40)) (fun _ hk => hk.2) (.slice Ao41 t499.length co41)) (fun _ hk => trivial)⟩
                                have n1_ : Aside0 (Kd.R Kd.string 9 (((w37.setCell ⟨gb503, 0, none⟩ (.slice Ao38 t493.length co38)).setCell ⟨gb503, 1, none⟩ (.slice Ao40 t496.length co40)).setCell ⟨gb503, 2, none⟩ (.slice Ao41 t499.length co41)) w.heap.size (fun k_ => some k_ ≠ (.slice Ao41 t499.length co41 : Value).ownBlock) (.slice (some ad492) y489.length co35) y489) := ⟨by (with_reducible repeat (first | apply Kd.R_alloc | apply Kd.R_drewN | apply Kd.R_drew)); exact Kd.R_mono (Kd.R_far (p := ⟨gb503, 2, none⟩) (Kd.R_far (p := ⟨gb503, 1, none⟩) (Kd.R_far (p := ⟨gb503, 0, none⟩) (Kd.R_types HO491.out BK503.out (by decide)) (fun _ hk => hk.2) (.slice Ao38 t493.length co38)) (fun _ hk => hk.2) (.slice Ao40 t496.length co40)) (fun _ hk => hk.2) (.slice Ao41 t499.length co41)) (fun _ hk => hk.1.2)⟩
                                have n2_ : Aside0 (Kd.R k42 42 (((w37.setCell ⟨gb503, 0, none⟩ (.slice Ao38 t493.length co38)).setCell ⟨gb503, 1, none⟩ (.slice Ao40 t496.length co40)).setCell ⟨gb503, 2, none⟩ (.slice Ao41 t499.length co41)) w.heap.size (fun k_ => some k_ ≠ (.slice (some ad492) y489.length co35 : Value).ownBlock ∧ some k_ ≠ (.slice Ao41 t499.length co41 : Value).ownBlock) (.slice Ao38 t493.length co38) t493) := ⟨by (with_reducible repeat (first | apply Kd.R_alloc | apply Kd.R_drewN | apply Kd.R_drew)); exact Kd.R_mono (Kd.R_far (p := ⟨gb503, 2, none⟩) (Kd.R_far (p := ⟨gb503, 1, none⟩) (Kd.R_far (p := ⟨gb503, 0, none⟩) (Kd.R_types HO495.out BK503.out (by decide)) (fun _ hk => hk.2) (.slice Ao38 t493.length co38)) (fun _ hk => hk.2) (.slice Ao40 t496.length co40)) (fun _ hk => hk.2) (.slice Ao41 t499.length co41)) (fun _ hk => ⟨hk.1.2, hk.1.1⟩)⟩
                                have n3_ : Aside0 (Kd.R k44 44 (((w37.setCell ⟨gb503, 0, none⟩ (.slice Ao38 t493.length co38)).setCell ⟨gb503, 1, none⟩ (.slice Ao40 t496.length co40)).setCell ⟨gb503, 2, none⟩ (.slice Ao41 t499.length co41)) w.heap.size (fun _ => True) (.slice Ao40 t496.length co40) t496) := ⟨by (with_reducible repeat (first | apply Kd.R_alloc | apply Kd.R_drewN | apply Kd.R_drew)); exact Kd.R_mono (Kd.R_far (p := ⟨gb503, 2, none⟩) (Kd.R_far (p := ⟨gb503, 1, none⟩) (Kd.R_far (p := ⟨gb503, 0, none⟩) (Kd.R_types HO498.out BK503.out (by decide)) (fun _ hk => hk.2) (.slice Ao38 t493.length co38)) (fun _ hk => hk.2) (.slice Ao40 t496.length co40)) (fun _ hk => hk.2) (.slice Ao41 t499.length co41)) (fun _ hk => trivial)⟩
                                have n4_ : Aside0 (Kd.R Kd.string 9 (((w37.setCell ⟨gb503, 0, none⟩ (.slice Ao38 t493.length co38)).setCell ⟨gb503, 1, none⟩ (.slice Ao40 t496.length co40)).setCell ⟨gb503, 2, none⟩ (.slice Ao41 t499.length co41)) w.heap.size (fun k_ => some k_ ≠ (.slice (some ad492) y489.length co35 : Value).ownBlock) (.slice Ao41 t499.length co41) t499) := ⟨by (with_reducible repeat (first | apply Kd.R_alloc | apply Kd.R_drewN | apply Kd.R_drew)); exact Kd.R_mono (Kd.R_far (p := ⟨gb503, 2, none⟩) (Kd.R_far (p := ⟨gb503, 1, none⟩) (Kd.R_far (p := ⟨gb503, 0, none⟩) (Kd.R_types HO501.out BK503.out (by decide)) (fun _ hk => hk.2) (.slice Ao38 t493.length co38)) (fun _ hk => hk.2) (.slice Ao40 t496.length co40)) (fun _ hk => hk.2) (.slice Ao41 t499.length co41)) (fun _ hk => hk.1.2)⟩
                                have n5_ : Aside0 ((((w37.setCell ⟨gb503, 0, none⟩ (.slice Ao38 t493.length co38)).setCell ⟨gb503, 1, none⟩ (.slice Ao40 t496.length co40)).setCell ⟨gb503, 2, none⟩ (.slice Ao41 t499.length co41)).heap[gb503]? = some (.cells #[.slice Ao38 t493.length co38, .slice Ao40 t496.length co40, .slice Ao41 t499.length co41] 26 (0, 0))) := ⟨by (with_reducible repeat (first | refine blk_drewN ?_ _ | refine blk_drew ?_ | refine blk_alloc ?_ _)); refine blk_put (cs := #[.slice Ao38 t493.length co38, .slice Ao40 t496.length co40, .slice none 0 0]) ?_ 2 _ rfl; (with_reducible repeat (first | refine blk_drewN ?_ _ | refine blk_drew ?_ | refine blk_alloc ?_ _)); refine blk_put (cs := #[.slice Ao38 t493.length co38, .slice none 0 0, .slice none 0 0]) ?_ 1 _ rfl; (with_reducible repeat (first | refine blk_drewN ?_ _ | refine blk_drew ?_ | refine blk_alloc ?_ _)); refine blk_put (cs := #[.slice none 0 0, .slice none 0 0, .slice none 0 0]) ?_ 0 _ rfl; (with_reducible repeat (first | refine blk_drewN ?_ _ | refine blk_drew ?_ | refine blk_alloc ?_ _)); exact BK503.out⟩
                                have n6_ : Aside0 (Below w.heap.size w (((w37.setCell ⟨gb503, 0, none⟩ (.slice Ao38 t493.length co38)).setCell ⟨gb503, 1, none⟩ (.slice Ao40 t496.length co40)).setCell ⟨gb503, 2, none⟩ (.slice Ao41 t499.length co41))) := ⟨by repeat (first | (with_reducible first | exact HB.out | apply below_alloc | apply pw_below_drewN | apply below_drew1 | refine below_set ?_ GE503.out) | exact HB.out)⟩
                                (try clear HO_6)
                                (try clear HO491)
                                (try clear HO495)
                                (try clear HO498)
                                (try clear HO501)
                                (try clear BK503)
                                (try clear HB)
                                generalize (((w37.setCell ⟨gb503, 0, none⟩ (.slice Ao38 t493.length co38)).setCell ⟨gb503, 1, none⟩ (.slice Ao40 t496.length co40)).setCell ⟨gb503, 2, none⟩ (.slice Ao41 t499.length co41)) = w42 at n0_ n1_ n2_ n3_ n4_ n5_ n6_ ⊢
                                have HO_6 := n0_
                                have HO491 := n1_
                                have HO495 := n2_
                                have HO498 := n3_
                                have HO501 := n4_
                                have BK503 := n5_
                                have HB := n6_
                                clear n0_ n1_ n2_ n3_ n4_ n5_ n6_
                                have n0_ := Aside0.mk (Kd.R_drew HO_6.out)
                                have n1_ := Aside0.mk (Kd.R_drew HO491.out)
                                have n2_ := Aside0.mk (Kd.R_drew HO495.out)
                                have n3_ := Aside0.mk (Kd.R_drew HO498.out)
                                have n4_ := Aside0.mk (Kd.R_drew HO501.out)
                                have n5_ := Aside0.mk (blk_drew BK503.out)
                                have n6_ := Aside0.mk (below_drew1 HB.out)
                                clear HO_6
                                clear HO491
                                clear HO495
                                clear HO498
                                clear HO501
                                clear BK503
                                clear HB
                                have HO_6 := n0_
                                have HO491 := n1_
                                have HO495 := n2_
                                have HO498 := n3_
                                have HO501 := n4_
                                have BK503 := n5_
                                have HB := n6_
                                clear n0_ n1_ n2_ n3_ n4_ n5_ n6_
                                refine start_ (n := 16) (S := fun w' => True) (ds := []) #[false, false, false, false, false, false, false, false, false, false, false, false, false, false, false, false] (by kernel_rfl) rfl rfl trivial (fun hHeld => ?_); refine with_tabW cruciblelaw8_ManifestBlank.tab13 cruciblelaw8_ManifestBlank.bits13 (fun HT_ HW_ => ?_)
                                generalize w42.drew = w43 at HO_6 HO491 HO495 HO498 HO501 BK503 HB hHeld ⊢
                                refine pure_ (i := 0) (N := some 52) (v := ?_) (a' := ?_) #[true, false, false, false, false, false, false, false, false, false, false, false, false, false, false, false] rfl rfl (any_of HT_.out (by kernel_rfl)) (fun _ _ _ h => h) (Or.inl ⟨by rfl, ?_⟩) ?_ ?_
                                rotate_left
                                · intro w'
                                  go_simp
                                  with_reducible rfl
                                rotate_left
                                · simp only [Act.put, List.setIfInBounds_toArray, List.set_cons_zero, List.set_cons_succ, i64_w, i32_w]
                                  rfl
                                refine pure_ (i := 1) (N := some 53) (v := ?_) (a' := ?_) #[true, true, false, false, false, false, false, false, false, false, false, false, false, false, false, false] rfl rfl (any_of HT_.out (by kernel_rfl)) (fun _ _ _ h => h) (Or.inl ⟨by rfl, ?_⟩) ?_ ?_
                                rotate_left
                                · intro w'
                                  go_simp
                                  with_reducible rfl
                                rotate_left
                                · simp only [Act.put, List.setIfInBounds_toArray, List.set_cons_zero, List.set_cons_succ, i64_w, i32_w]
                                  rfl
                                refine pure_ (i := 2) (N := some 54) (v := ?_) (a' := ?_) #[true, true, true, false, false, false, false, false, false, false, false, false, false, false, false, false] rfl rfl (any_of HT_.out (by kernel_rfl)) (fun _ _ _ h => h) (Or.inl ⟨by rfl, ?_⟩) ?_ ?_
                                rotate_left
                                · intro w'
                                  go_simp
                                  with_reducible rfl
                                rotate_left
                                · simp only [Act.put, List.setIfInBounds_toArray, List.set_cons_zero, List.set_cons_succ, i64_w, i32_w]
                                  rfl
                                refine pure_ (i := 3) (N := some 55) (v := ?_) (a' := ?_) #[true, true, true, true, false, false, false, false, false, false, false, false, false, false, false, false] rfl rfl (any_of HT_.out (by kernel_rfl)) (fun _ _ _ h => h) (Or.inl ⟨by rfl, ?_⟩) ?_ ?_
                                rotate_left
                                · intro w'
                                  go_simp
                                  with_reducible rfl
                                rotate_left
                                · simp only [Act.put, List.setIfInBounds_toArray, List.set_cons_zero, List.set_cons_succ, i64_w, i32_w]
                                  rfl
                                refine pure_ (i := 4) (N := some 56) (v := ?_) (a' := ?_) #[true, true, true, true, true, false, false, false, false, false, false, false, false, false, false, false] rfl rfl (any_of HT_.out (by kernel_rfl)) (fun _ _ _ h => h) (Or.inl ⟨by rfl, ?_⟩) ?_ ?_
                                rotate_left
                                · intro w'
                                  go_simp
                                  with_reducible rfl
                                rotate_left
                                · simp only [Act.put, List.setIfInBounds_toArray, List.set_cons_zero, List.set_cons_succ, i64_w, i32_w]
                                  rfl
                                refine pure_ (i := 5) (N := some 57) (v := ?_) (a' := ?_) #[true, true, true, true, true, true, false, false, false, false, false, false, false, false, false, false] rfl rfl (any_of HT_.out (by kernel_rfl)) (fun _ _ _ h => h) (Or.inl ⟨by rfl, ?_⟩) ?_ ?_
                                rotate_left
                                · intro w'
                                  go_simp
                                  with_reducible rfl
                                rotate_left
                                · simp only [Act.put, List.setIfInBounds_toArray, List.set_cons_zero, List.set_cons_succ, i64_w, i32_w]
                                  rfl
                                refine pure_ (i := 6) (N := some 58) (v := ?_) (a' := ?_) #[true, true, true, true, true, true, true, false, false, false, false, false, false, false, false, false] rfl rfl (any_of HT_.out (by kernel_rfl)) (fun _ _ _ h => h) (Or.inl ⟨by rfl, ?_⟩) ?_ ?_
                                rotate_left
                                · intro w'
                                  go_simp
                                  with_reducible rfl
                                rotate_left
                                · simp only [Act.put, List.setIfInBounds_toArray, List.set_cons_zero, List.set_cons_succ, i64_w, i32_w]
                                  rfl
                                refine pure_ (i := 7) (N := some 59) (v := ?_) (a' := ?_) #[true, true, true, true, true, true, true, true, false, false, false, false, false, false, false, false] rfl rfl (any_of HT_.out (by kernel_rfl)) (fun _ _ _ h => h) (Or.inl ⟨by rfl, ?_⟩) ?_ ?_
                                rotate_left
                                · intro w'
                                  go_simp
                                  with_reducible rfl
                                rotate_left
                                · simp only [Act.put, List.setIfInBounds_toArray, List.set_cons_zero, List.set_cons_succ, i64_w, i32_w]
                                  rfl
                                refine pure_ (i := 8) (N := some 60) (v := ?_) (a' := ?_) #[true, true, true, true, true, true, true, true, true, false, false, false, false, false, false, false] rfl rfl (any_of HT_.out (by kernel_rfl)) (fun _ _ _ h => h) (Or.inl ⟨by rfl, ?_⟩) ?_ ?_
                                rotate_left
                                · intro w'
                                  go_simp
                                  with_reducible rfl
                                rotate_left
                                · simp only [Act.put, List.setIfInBounds_toArray, List.set_cons_zero, List.set_cons_succ, i64_w, i32_w]
                                  rfl
                                refine join_ (σ := Value × Value × Value × Nat) 2 #[true, true, true, true, true, true, true, true, true, true, true, true, true, true, false, false] (fun s_ => [(61, .tuple #[.agg #[s_.1, s_.2.1, s_.2.2.1], .int .i64 t513]), (12, .pointer (some ⟨s_.2.2.2, 0, none⟩)), (51, .tuple #[.agg #[s_.1, s_.2.1, s_.2.2.1], .int .i64 t513]), (62, .agg #[s_.1, s_.2.1, s_.2.2.1]), (63, .int .i64 t513)]) (fun s_ w' => (Kd.R Kd.string 9 w' w.heap.size (fun k_ => some k_ ≠ (.slice Ao41 t499.length co41 : Value).ownBlock ∧ some k_ ≠ (s_.2.2.1 : Value).ownBlock) (.slice (some ad492) y489.length co35) y489) ∧ (Kd.R k42 42 w' w.heap.size (fun k_ => some k_ ≠ (.slice (some ad492) y489.length co35 : Value).ownBlock ∧ some k_ ≠ (.slice Ao41 t499.length co41 : Value).ownBlock ∧ some k_ ≠ (s_.1 : Value).ownBlock ∧ some k_ ≠ (s_.2.2.1 : Value).ownBlock) (.slice Ao38 t493.length co38) t493) ∧ (Kd.R k44 44 w' w.heap.size (fun k_ => some k_ ≠ (s_.2.1 : Value).ownBlock) (.slice Ao40 t496.length co40) t496) ∧ (Kd.R Kd.string 9 w' w.heap.size (fun k_ => some k_ ≠ (.slice (some ad492) y489.length co35 : Value).ownBlock ∧ some k_ ≠ (s_.2.2.1 : Value).ownBlock) (.slice Ao41 t499.length co41) t499) ∧ (Kd.R k42 42 w' w.heap.size (fun k_ => some k_ ≠ (.slice (some ad492) y489.length co35 : Value).ownBlock ∧ some k_ ≠ (.slice Ao38 t493.length co38 : Value).ownBlock ∧ some k_ ≠ (.slice Ao41 t499.length co41 : Value).ownBlock ∧ some k_ ≠ (s_.2.2.1 : Value).ownBlock) s_.1 t504) ∧ (Kd.R k44 44 w' w.heap.size (fun k_ => some k_ ≠ (.slice Ao40 t496.length co40 : Value).ownBlock) s_.2.1 t507) ∧ (Kd.R Kd.string 9 w' w.heap.size (fun k_ => some k_ ≠ (.slice (some ad492) y489.length co35 : Value).ownBlock ∧ some k_ ≠ (.slice Ao41 t499.length co41 : Value).ownBlock) s_.2.2.1 t510) ∧ (Kd.R (Kd.int .i64) 3 w' w.heap.size (fun _ => True) (.slice (some ad488) x6_1.length co32) x6_1) ∧ (w'.heap[gb503]? = some (.cells #[.slice Ao38 t493.length co38, .slice Ao40 t496.length co40, .slice Ao41 t499.length co41] 26 (0, 0))) ∧ (w'.heap[s_.2.2.2]? = some (.cells #[.slice none 0 0, .slice none 0 0, .slice none 0 0] 26 (0, 0))) ∧ (w.heap.size ≤ s_.2.2.2) ∧ (w.heap.size ≤ s_.2.2.2) ∧ (gb503 ≠ s_.2.2.2) ∧ (s_.2.2.2 ≠ gb503) ∧ (Below w.heap.size w w')) ?_ ?_
                                rotate_left
                                · intro hCont
                                  refine two_ (i := 9) (j := 13) (Ni := some 61) (Nj := some 12) #[true, true, true, true, true, true, true, true, true, true, false, false, false, false, false, false] #[true, true, true, true, true, true, true, true, true, false, false, false, false, true, false, false] rfl rfl rfl rfl (two_of HT_.out (by kernel_rfl)) (by decide) (by decide) (fun K hK => ?_) (fun K hK => ?_)
                                  · skip
                                    refine goes_ Tryz.func10 (by kernel_rfl) rfl #[.string (((t484.extract 0 ((rd x6_1 (ji14)) : Int).toNat) ++ (rdOf ByteArray.empty y489 (Go.bits .and .i64 a1 3))) ++ (t484.extract ((rd x6_1 (ji14)) : Int).toNat t484.size))] (by rfl) rfl rfl (by (try simp only [List.map_toArray, List.map_cons, List.map_nil]); first | done | (simp only [hji14]; rfl) | rfl | (simp only [List.length_drop, List.length_take]; rfl)) ?_
                                    with_reducible refine (manifest_Parse.calls (((t484.extract 0 ((rd x6_1 (ji14)) : Int).toNat) ++ (rdOf ByteArray.empty y489 (Go.bits .and .i64 a1 3))) ++ (t484.extract ((rd x6_1 (ji14)) : Int).toNat t484.size)) t504 t507 t510 t513 _ A26.out).mono ?_
                                    rintro e w44 ⟨v505, v508, v511, rfl, ho0, ho1, ho2, hb⟩
                                    refine ⟨_, rfl, ?_⟩
                                    have n0_ := Aside0.mk (Kd.R_below (by (with_reducible repeat (first | apply Kd.R_alloc | apply Kd.R_drewN | apply Kd.R_drew)); exact HO_6.out) hb)
                                    have n1_ := Aside0.mk (Kd.R_elder' (by (with_reducible repeat (first | apply Kd.R_alloc | apply Kd.R_drewN | apply Kd.R_drew)); exact HO491.out) (Kd.R_base ho2) hb)
                                    have n2_ := Aside0.mk (Kd.R_mono (Kd.R_told (Kd.R_told (Kd.R_old (by (with_reducible repeat (first | apply Kd.R_alloc | apply Kd.R_drewN | apply Kd.R_drew)); exact HO495.out) hb) (Kd.R_base ho0)) (Kd.R_base ho2)) (fun _ h_ => h_.1))
                                    have n3_ := Aside0.mk (Kd.R_elder' (by (with_reducible repeat (first | apply Kd.R_alloc | apply Kd.R_drewN | apply Kd.R_drew)); exact HO498.out) (Kd.R_base ho1) hb)
                                    have n4_ := Aside0.mk (Kd.R_elder' (by (with_reducible repeat (first | apply Kd.R_alloc | apply Kd.R_drewN | apply Kd.R_drew)); exact HO501.out) (Kd.R_base ho2) hb)
                                    have n5_ := Aside0.mk (Kd.R_lower (Kd.R_new' (Kd.R_new' (Kd.R_new' ho0 (Kd.R_lt (by (with_reducible repeat (first | apply Kd.R_alloc | apply Kd.R_drewN | apply Kd.R_drew)); exact HO491.out))) (Kd.R_lt (by (with_reducible repeat (first | apply Kd.R_alloc | apply Kd.R_drewN | apply Kd.R_drew)); exact HO495.out))) (Kd.R_lt (by (with_reducible repeat (first | apply Kd.R_alloc | apply Kd.R_drewN | apply Kd.R_drew)); exact HO501.out))) (below_size (by repeat (first | (with_reducible first | exact HB.out | apply below_alloc | apply pw_below_drewN | apply below_drew1 | refine below_set ?_ GE503.out) | exact HB.out))))
                                    have n6_ := Aside0.mk (Kd.R_lower (Kd.R_new' ho1 (Kd.R_lt (by (with_reducible repeat (first | apply Kd.R_alloc | apply Kd.R_drewN | apply Kd.R_drew)); exact HO498.out))) (below_size (by repeat (first | (with_reducible first | exact HB.out | apply below_alloc | apply pw_below_drewN | apply below_drew1 | refine below_set ?_ GE503.out) | exact HB.out))))
                                    have n7_ := Aside0.mk (Kd.R_lower (Kd.R_new' (Kd.R_new' ho2 (Kd.R_lt (by (with_reducible repeat (first | apply Kd.R_alloc | apply Kd.R_drewN | apply Kd.R_drew)); exact HO491.out))) (Kd.R_lt (by (with_reducible repeat (first | apply Kd.R_alloc | apply Kd.R_drewN | apply Kd.R_drew)); exact HO501.out))) (below_size (by repeat (first | (with_reducible first | exact HB.out | apply below_alloc | apply pw_below_drewN | apply below_drew1 | refine below_set ?_ GE503.out) | exact HB.out))))
                                    have n8_ := Aside0.mk (blk_below (g := gb503) (o := .cells #[.slice Ao38 t493.length co38, .slice Ao40 t496.length co40, .slice Ao41 t499.length co41] 26 (0, 0)) (by (with_reducible repeat (first | refine blk_drewN ?_ _ | refine blk_drew ?_ | refine blk_alloc ?_ _)); exact BK503.out) hb)
                                    have n9_ := Aside0.mk (below_step (by repeat (first | (with_reducible first | exact HB.out | apply below_alloc | apply pw_below_drewN | apply below_drew1 | refine below_set ?_ GE503.out) | exact HB.out)) hb)
                                    clear HO_6
                                    clear HO491
                                    clear HO495
                                    clear HO498
                                    clear HO501
                                    clear BK503
                                    clear HB
                                    have HO_6 := n0_
                                    have HO491 := n1_
                                    have HO495 := n2_
                                    have HO498 := n3_
                                    have HO501 := n4_
                                    have HO506 := n5_
                                    have HO509 := n6_
                                    have HO512 := n7_
                                    have BK503 := n8_
                                    have HB := n9_
                                    clear n0_ n1_ n2_ n3_ n4_ n5_ n6_ n7_ n8_ n9_
                                    (try clear hb)
                                    (try clear hb2)
                                    (try clear hk)
                                    (try clear hi)
                                    (try clear ho0)
                                    (try clear ho1)
                                    (try clear ho2)
                                    refine hK.out _ _ trivial (fun hHeld => ?_)
                                    clear hK K
                                    refine norm_ (a' := ?_) ?_ ?_
                                    rotate_left
                                    · show Act.put _ (some 61) _ = _
                                      simp only [Act.put, List.setIfInBounds_toArray, List.set_cons_zero, List.set_cons_succ, i64_w, i32_w]
                                      rfl
                                    refine pure_ (i := 10) (N := some 51) (v := ?_) (a' := ?_) #[true, true, true, true, true, true, true, true, true, true, true, false, false, false, false, false] rfl rfl (any_of HT_.out (by kernel_rfl)) (fun _ _ _ h => h) (Or.inl ⟨by rfl, ?_⟩) ?_ ?_
                                    rotate_left
                                    · intro w'
                                      go_simp
                                      with_reducible rfl
                                    rotate_left
                                    · simp only [Act.put, List.setIfInBounds_toArray, List.set_cons_zero, List.set_cons_succ, i64_w, i32_w]
                                      rfl
                                    refine pure_ (i := 11) (N := some 62) (v := ?_) (a' := ?_) #[true, true, true, true, true, true, true, true, true, true, true, true, false, false, false, false] rfl rfl (any_of HT_.out (by kernel_rfl)) (fun _ _ _ h => h) (Or.inl ⟨by rfl, ?_⟩) ?_ ?_
                                    rotate_left
                                    · intro w'
                                      go_simp
                                      with_reducible rfl
                                    rotate_left
                                    · simp only [Act.put, List.setIfInBounds_toArray, List.set_cons_zero, List.set_cons_succ, i64_w, i32_w]
                                      rfl
                                    refine pure_ (i := 12) (N := some 63) (v := ?_) (a' := ?_) #[true, true, true, true, true, true, true, true, true, true, true, true, true, false, false, false] rfl rfl (any_of HT_.out (by kernel_rfl)) (fun _ _ _ h => h) (Or.inl ⟨by rfl, ?_⟩) ?_ ?_
                                    rotate_left
                                    · intro w'
                                      go_simp
                                      with_reducible rfl
                                    rotate_left
                                    · simp only [Act.put, List.setIfInBounds_toArray, List.set_cons_zero, List.set_cons_succ, i64_w, i32_w]
                                      rfl
                                    refine one_ (i := 13) (N := some 12) #[true, true, true, true, true, true, true, true, true, true, true, true, true, true, false, false] rfl rfl (one_of HT_.out (by kernel_rfl)) (by decide) (fun K hK => ?_)
                                    refine box_step ?hg (N := 12) ?hd (cs := #[.slice none 0 0, .slice none 0 0, .slice none 0 0]) (t := 26) ?hr ?_; (case hd => rfl); (case hg => rfl); (case hr => first | (go_simp; done) | (go_simp; rfl))
                                    intro gb514 hg w45 hbox hb
                                    have n0_ := Aside0.mk (Kd.R_below (by (with_reducible repeat (first | apply Kd.R_alloc | apply Kd.R_drewN | apply Kd.R_drew)); exact HO_6.out) hb)
                                    have n1_ := Aside0.mk (Kd.R_below (by (with_reducible repeat (first | apply Kd.R_alloc | apply Kd.R_drewN | apply Kd.R_drew)); exact HO491.out) hb)
                                    have n2_ := Aside0.mk (Kd.R_below (by (with_reducible repeat (first | apply Kd.R_alloc | apply Kd.R_drewN | apply Kd.R_drew)); exact HO495.out) hb)
                                    have n3_ := Aside0.mk (Kd.R_below (by (with_reducible repeat (first | apply Kd.R_alloc | apply Kd.R_drewN | apply Kd.R_drew)); exact HO498.out) hb)
                                    have n4_ := Aside0.mk (Kd.R_below (by (with_reducible repeat (first | apply Kd.R_alloc | apply Kd.R_drewN | apply Kd.R_drew)); exact HO501.out) hb)
                                    have n5_ := Aside0.mk (Kd.R_below (by (with_reducible repeat (first | apply Kd.R_alloc | apply Kd.R_drewN | apply Kd.R_drew)); exact HO506.out) hb)
                                    have n6_ := Aside0.mk (Kd.R_below (by (with_reducible repeat (first | apply Kd.R_alloc | apply Kd.R_drewN | apply Kd.R_drew)); exact HO509.out) hb)
                                    have n7_ := Aside0.mk (Kd.R_below (by (with_reducible repeat (first | apply Kd.R_alloc | apply Kd.R_drewN | apply Kd.R_drew)); exact HO512.out) hb)
                                    have n8_ := Aside0.mk (blk_below (g := gb503) (o := .cells #[.slice Ao38 t493.length co38, .slice Ao40 t496.length co40, .slice Ao41 t499.length co41] 26 (0, 0)) (by (with_reducible repeat (first | refine blk_drewN ?_ _ | refine blk_drew ?_ | refine blk_alloc ?_ _)); exact BK503.out) hb)
                                    have n9_ := Aside0.mk (below_step (by repeat (first | (with_reducible first | exact HB.out | apply below_alloc | apply pw_below_drewN | apply below_drew1 | refine below_set ?_ GE503.out) | exact HB.out)) hb)
                                    have n10_ := Aside0.mk (hbox)
                                    have n11_ := Aside0.mk ((by rw [hg]; exact (below_size (by repeat (first | (with_reducible first | exact HB.out | apply below_alloc | apply pw_below_drewN | apply below_drew1 | refine below_set ?_ GE503.out) | exact HB.out))) : w.heap.size ≤ gb514))
                                    have n12_ := Aside0.mk ((by rw [hg]; exact (below_size (by repeat (first | (with_reducible first | exact HB.out | apply below_alloc | apply pw_below_drewN | apply below_drew1 | refine below_set ?_ GE503.out) | exact HB.out))) : w.heap.size ≤ gb514))
                                    have n13_ := Aside0.mk ((by rw [hg]; exact Nat.ne_of_lt (blk_lt (g := gb503) (o := .cells #[.slice Ao38 t493.length co38, .slice Ao40 t496.length co40, .slice Ao41 t499.length co41] 26 (0, 0)) (by (with_reducible repeat (first | refine blk_drewN ?_ _ | refine blk_drew ?_ | refine blk_alloc ?_ _)); exact BK503.out)) : gb503 ≠ gb514))
                                    have n14_ := Aside0.mk ((by rw [hg]; exact Nat.ne_of_gt (blk_lt (g := gb503) (o := .cells #[.slice Ao38 t493.length co38, .slice Ao40 t496.length co40, .slice Ao41 t499.length co41] 26 (0, 0)) (by (with_reducible repeat (first | refine blk_drewN ?_ _ | refine blk_drew ?_ | refine blk_alloc ?_ _)); exact BK503.out)) : gb514 ≠ gb503))
                                    clear HO_6
                                    clear HO491
                                    clear HO495
                                    clear HO498
                                    clear HO501
                                    clear HO506
                                    clear HO509
                                    clear HO512
                                    clear BK503
                                    clear HB
                                    have HO_6 := n0_
                                    have HO491 := n1_
                                    have HO495 := n2_
                                    have HO498 := n3_
                                    have HO501 := n4_
                                    have HO506 := n5_
                                    have HO509 := n6_
                                    have HO512 := n7_
                                    have BK503 := n8_
                                    have HB := n9_
                                    have BK514 := n10_
                                    have GW514 := n11_
                                    have GE514 := n12_
                                    have NB503_514 := n13_
                                    have NB514_503 := n14_
                                    clear n0_ n1_ n2_ n3_ n4_ n5_ n6_ n7_ n8_ n9_ n10_ n11_ n12_ n13_ n14_
                                    clear hb hbox hg
                                    refine hK.out _ _ trivial (fun hHeld => ?_)
                                    clear hK K
                                    refine norm_ (a' := ?_) ?_ ?_
                                    rotate_left
                                    · show Act.put _ (some 12) _ = _
                                      simp only [Act.put, List.setIfInBounds_toArray, List.set_cons_zero, List.set_cons_succ, i64_w, i32_w]
                                      rfl
                                    exact norm_ (by simp only [putAll, Act.put, List.setIfInBounds_toArray, List.set_cons_zero, List.set_cons_succ]) (hCont (v505, v508, v511, gb514) _ ⟨(by (with_reducible repeat (first | apply Kd.R_alloc | apply Kd.R_drewN | apply Kd.R_drew)); exact HO491.out), (by (with_reducible repeat (first | apply Kd.R_alloc | apply Kd.R_drewN | apply Kd.R_drew)); exact Kd.R_mono HO495.out (fun _ hk => ⟨hk.1.1.1, ⟨hk.1.1.2, ⟨hk.1.2, hk.2⟩⟩⟩)), (by (with_reducible repeat (first | apply Kd.R_alloc | apply Kd.R_drewN | apply Kd.R_drew)); exact Kd.R_mono HO498.out (fun _ hk => hk.2)), (by (with_reducible repeat (first | apply Kd.R_alloc | apply Kd.R_drewN | apply Kd.R_drew)); exact HO501.out), (by (with_reducible repeat (first | apply Kd.R_alloc | apply Kd.R_drewN | apply Kd.R_drew)); exact Kd.R_mono HO506.out (fun _ hk => ⟨hk.1.1.2, ⟨hk.1.2, ⟨hk.2, hk.1.1.1⟩⟩⟩)), (by (with_reducible repeat (first | apply Kd.R_alloc | apply Kd.R_drewN | apply Kd.R_drew)); exact Kd.R_mono HO509.out (fun _ hk => hk.2)), (by (with_reducible repeat (first | apply Kd.R_alloc | apply Kd.R_drewN | apply Kd.R_drew)); exact Kd.R_mono HO512.out (fun _ hk => ⟨hk.1.2, hk.2⟩)), (by (with_reducible repeat (first | apply Kd.R_alloc | apply Kd.R_drewN | apply Kd.R_drew)); exact HO_6.out), (by (with_reducible repeat (first | refine blk_drewN ?_ _ | refine blk_drew ?_ | refine blk_alloc ?_ _)); exact BK503.out), (by (with_reducible repeat (first | refine blk_drewN ?_ _ | refine blk_drew ?_ | refine blk_alloc ?_ _)); exact BK514.out), GW514.out, GE514.out, NB503_514.out, NB514_503.out, (by repeat (first | (with_reducible first | exact HB.out | apply below_alloc | apply pw_below_drewN | apply below_drew1 | refine below_set ?_ GE503.out | refine below_set ?_ GE514.out) | exact HB.out))⟩)
                                  · skip
                                    refine box_step ?hg (N := 12) ?hd (cs := #[.slice none 0 0, .slice none 0 0, .slice none 0 0]) (t := 26) ?hr ?_; (case hd => rfl); (case hg => rfl); (case hr => first | (go_simp; done) | (go_simp; rfl))
                                    intro gb514 hg w44 hbox hb
                                    have n0_ := Aside0.mk (Kd.R_below (by (with_reducible repeat (first | apply Kd.R_alloc | apply Kd.R_drewN | apply Kd.R_drew)); exact HO_6.out) hb)
                                    have n1_ := Aside0.mk (Kd.R_below (by (with_reducible repeat (first | apply Kd.R_alloc | apply Kd.R_drewN | apply Kd.R_drew)); exact HO491.out) hb)
                                    have n2_ := Aside0.mk (Kd.R_below (by (with_reducible repeat (first | apply Kd.R_alloc | apply Kd.R_drewN | apply Kd.R_drew)); exact HO495.out) hb)
                                    have n3_ := Aside0.mk (Kd.R_below (by (with_reducible repeat (first | apply Kd.R_alloc | apply Kd.R_drewN | apply Kd.R_drew)); exact HO498.out) hb)
                                    have n4_ := Aside0.mk (Kd.R_below (by (with_reducible repeat (first | apply Kd.R_alloc | apply Kd.R_drewN | apply Kd.R_drew)); exact HO501.out) hb)
                                    have n5_ := Aside0.mk (blk_below (g := gb503) (o := .cells #[.slice Ao38 t493.length co38, .slice Ao40 t496.length co40, .slice Ao41 t499.length co41] 26 (0, 0)) (by (with_reducible repeat (first | refine blk_drewN ?_ _ | refine blk_drew ?_ | refine blk_alloc ?_ _)); exact BK503.out) hb)
                                    have n6_ := Aside0.mk (below_step (by repeat (first | (with_reducible first | exact HB.out | apply below_alloc | apply pw_below_drewN | apply below_drew1 | refine below_set ?_ GE503.out) | exact HB.out)) hb)
                                    have n7_ := Aside0.mk (hbox)
                                    have n8_ := Aside0.mk ((by rw [hg]; exact (below_size (by repeat (first | (with_reducible first | exact HB.out | apply below_alloc | apply pw_below_drewN | apply below_drew1 | refine below_set ?_ GE503.out) | exact HB.out))) : w.heap.size ≤ gb514))
                                    have n9_ := Aside0.mk ((by rw [hg]; exact (below_size (by repeat (first | (with_reducible first | exact HB.out | apply below_alloc | apply pw_below_drewN | apply below_drew1 | refine below_set ?_ GE503.out) | exact HB.out))) : w.heap.size ≤ gb514))
                                    have n10_ := Aside0.mk ((by rw [hg]; exact Nat.ne_of_lt (blk_lt (g := gb503) (o := .cells #[.slice Ao38 t493.length co38, .slice Ao40 t496.length co40, .slice Ao41 t499.length co41] 26 (0, 0)) (by (with_reducible repeat (first | refine blk_drewN ?_ _ | refine blk_drew ?_ | refine blk_alloc ?_ _)); exact BK503.out)) : gb503 ≠ gb514))
                                    have n11_ := Aside0.mk ((by rw [hg]; exact Nat.ne_of_gt (blk_lt (g := gb503) (o := .cells #[.slice Ao38 t493.length co38, .slice Ao40 t496.length co40, .slice Ao41 t499.length co41] 26 (0, 0)) (by (with_reducible repeat (first | refine blk_drewN ?_ _ | refine blk_drew ?_ | refine blk_alloc ?_ _)); exact BK503.out)) : gb514 ≠ gb503))
                                    clear HO_6
                                    clear HO491
                                    clear HO495
                                    clear HO498
                                    clear HO501
                                    clear BK503
                                    clear HB
                                    have HO_6 := n0_
                                    have HO491 := n1_
                                    have HO495 := n2_
                                    have HO498 := n3_
                                    have HO501 := n4_
                                    have BK503 := n5_
                                    have HB := n6_
                                    have BK514 := n7_
                                    have GW514 := n8_
                                    have GE514 := n9_
                                    have NB503_514 := n10_
                                    have NB514_503 := n11_
                                    clear n0_ n1_ n2_ n3_ n4_ n5_ n6_ n7_ n8_ n9_ n10_ n11_
                                    clear hb hbox hg
                                    refine hK.out _ _ trivial (fun hHeld => ?_)
                                    clear hK K
                                    refine norm_ (a' := ?_) ?_ ?_
                                    rotate_left
                                    · show Act.put _ (some 12) _ = _
                                      simp only [Act.put, List.setIfInBounds_toArray, List.set_cons_zero, List.set_cons_succ, i64_w, i32_w]
                                      rfl
                                    refine one_ (i := 9) (N := some 61) #[true, true, true, true, true, true, true, true, true, true, false, false, false, true, false, false] rfl rfl (one_of HT_.out (by kernel_rfl)) (by decide) (fun K hK => ?_)
                                    refine goes_ Tryz.func10 (by kernel_rfl) rfl #[.string (((t484.extract 0 ((rd x6_1 (ji14)) : Int).toNat) ++ (rdOf ByteArray.empty y489 (Go.bits .and .i64 a1 3))) ++ (t484.extract ((rd x6_1 (ji14)) : Int).toNat t484.size))] (by rfl) rfl rfl (by (try simp only [List.map_toArray, List.map_cons, List.map_nil]); first | done | (simp only [hji14]; rfl) | rfl | (simp only [List.length_drop, List.length_take]; rfl)) ?_
                                    with_reducible refine (manifest_Parse.calls (((t484.extract 0 ((rd x6_1 (ji14)) : Int).toNat) ++ (rdOf ByteArray.empty y489 (Go.bits .and .i64 a1 3))) ++ (t484.extract ((rd x6_1 (ji14)) : Int).toNat t484.size)) t504 t507 t510 t513 _ A26.out).mono ?_
                                    rintro e w45 ⟨v505, v508, v511, rfl, ho0, ho1, ho2, hb⟩
                                    refine ⟨_, rfl, ?_⟩
                                    have n0_ := Aside0.mk (Kd.R_below (by (with_reducible repeat (first | apply Kd.R_alloc | apply Kd.R_drewN | apply Kd.R_drew)); exact HO_6.out) hb)
                                    have n1_ := Aside0.mk (Kd.R_elder' (by (with_reducible repeat (first | apply Kd.R_alloc | apply Kd.R_drewN | apply Kd.R_drew)); exact HO491.out) (Kd.R_base ho2) hb)
                                    have n2_ := Aside0.mk (Kd.R_mono (Kd.R_told (Kd.R_told (Kd.R_old (by (with_reducible repeat (first | apply Kd.R_alloc | apply Kd.R_drewN | apply Kd.R_drew)); exact HO495.out) hb) (Kd.R_base ho0)) (Kd.R_base ho2)) (fun _ h_ => h_.1))
                                    have n3_ := Aside0.mk (Kd.R_elder' (by (with_reducible repeat (first | apply Kd.R_alloc | apply Kd.R_drewN | apply Kd.R_drew)); exact HO498.out) (Kd.R_base ho1) hb)
                                    have n4_ := Aside0.mk (Kd.R_elder' (by (with_reducible repeat (first | apply Kd.R_alloc | apply Kd.R_drewN | apply Kd.R_drew)); exact HO501.out) (Kd.R_base ho2) hb)
                                    have n5_ := Aside0.mk (Kd.R_lower (Kd.R_new' (Kd.R_new' (Kd.R_new' ho0 (Kd.R_lt (by (with_reducible repeat (first | apply Kd.R_alloc | apply Kd.R_drewN | apply Kd.R_drew)); exact HO491.out))) (Kd.R_lt (by (with_reducible repeat (first | apply Kd.R_alloc | apply Kd.R_drewN | apply Kd.R_drew)); exact HO495.out))) (Kd.R_lt (by (with_reducible repeat (first | apply Kd.R_alloc | apply Kd.R_drewN | apply Kd.R_drew)); exact HO501.out))) (below_size (by repeat (first | (with_reducible first | exact HB.out | apply below_alloc | apply pw_below_drewN | apply below_drew1 | refine below_set ?_ GE503.out | refine below_set ?_ GE514.out) | exact HB.out))))
                                    have n6_ := Aside0.mk (Kd.R_lower (Kd.R_new' ho1 (Kd.R_lt (by (with_reducible repeat (first | apply Kd.R_alloc | apply Kd.R_drewN | apply Kd.R_drew)); exact HO498.out))) (below_size (by repeat (first | (with_reducible first | exact HB.out | apply below_alloc | apply pw_below_drewN | apply below_drew1 | refine below_set ?_ GE503.out | refine below_set ?_ GE514.out) | exact HB.out))))
                                    have n7_ := Aside0.mk (Kd.R_lower (Kd.R_new' (Kd.R_new' ho2 (Kd.R_lt (by (with_reducible repeat (first | apply Kd.R_alloc | apply Kd.R_drewN | apply Kd.R_drew)); exact HO491.out))) (Kd.R_lt (by (with_reducible repeat (first | apply Kd.R_alloc | apply Kd.R_drewN | apply Kd.R_drew)); exact HO501.out))) (below_size (by repeat (first | (with_reducible first | exact HB.out | apply below_alloc | apply pw_below_drewN | apply below_drew1 | refine below_set ?_ GE503.out | refine below_set ?_ GE514.out) | exact HB.out))))
                                    have n8_ := Aside0.mk (blk_below (g := gb503) (o := .cells #[.slice Ao38 t493.length co38, .slice Ao40 t496.length co40, .slice Ao41 t499.length co41] 26 (0, 0)) (by (with_reducible repeat (first | refine blk_drewN ?_ _ | refine blk_drew ?_ | refine blk_alloc ?_ _)); exact BK503.out) hb)
                                    have n9_ := Aside0.mk (blk_below (g := gb514) (o := .cells #[.slice none 0 0, .slice none 0 0, .slice none 0 0] 26 (0, 0)) (by (with_reducible repeat (first | refine blk_drewN ?_ _ | refine blk_drew ?_ | refine blk_alloc ?_ _)); exact BK514.out) hb)
                                    have n10_ := Aside0.mk (below_step (by repeat (first | (with_reducible first | exact HB.out | apply below_alloc | apply pw_below_drewN | apply below_drew1 | refine below_set ?_ GE503.out | refine below_set ?_ GE514.out) | exact HB.out)) hb)
                                    clear HO_6
                                    clear HO491
                                    clear HO495
                                    clear HO498
                                    clear HO501
                                    clear BK503
                                    clear BK514
                                    clear HB
                                    have HO_6 := n0_
                                    have HO491 := n1_
                                    have HO495 := n2_
                                    have HO498 := n3_
                                    have HO501 := n4_
                                    have HO506 := n5_
                                    have HO509 := n6_
                                    have HO512 := n7_
                                    have BK503 := n8_
                                    have BK514 := n9_
                                    have HB := n10_
                                    clear n0_ n1_ n2_ n3_ n4_ n5_ n6_ n7_ n8_ n9_ n10_
                                    (try clear hb)
                                    (try clear hb2)
                                    (try clear hk)
                                    (try clear hi)
                                    (try clear ho0)
                                    (try clear ho1)
                                    (try clear ho2)
                                    refine hK.out _ _ trivial (fun hHeld => ?_)
                                    clear hK K
                                    refine norm_ (a' := ?_) ?_ ?_
                                    rotate_left
                                    · show Act.put _ (some 61) _ = _
                                      simp only [Act.put, List.setIfInBounds_toArray, List.set_cons_zero, List.set_cons_succ, i64_w, i32_w]
                                      rfl
                                    refine pure_ (i := 10) (N := some 51) (v := ?_) (a' := ?_) #[true, true, true, true, true, true, true, true, true, true, true, false, false, true, false, false] rfl rfl (any_of HT_.out (by kernel_rfl)) (fun _ _ _ h => h) (Or.inl ⟨by rfl, ?_⟩) ?_ ?_
                                    rotate_left
                                    · intro w'
                                      go_simp
                                      with_reducible rfl
                                    rotate_left
                                    · simp only [Act.put, List.setIfInBounds_toArray, List.set_cons_zero, List.set_cons_succ, i64_w, i32_w]
                                      rfl
                                    refine pure_ (i := 11) (N := some 62) (v := ?_) (a' := ?_) #[true, true, true, true, true, true, true, true, true, true, true, true, false, true, false, false] rfl rfl (any_of HT_.out (by kernel_rfl)) (fun _ _ _ h => h) (Or.inl ⟨by rfl, ?_⟩) ?_ ?_
                                    rotate_left
                                    · intro w'
                                      go_simp
                                      with_reducible rfl
                                    rotate_left
                                    · simp only [Act.put, List.setIfInBounds_toArray, List.set_cons_zero, List.set_cons_succ, i64_w, i32_w]
                                      rfl
                                    refine pure_ (i := 12) (N := some 63) (v := ?_) (a' := ?_) #[true, true, true, true, true, true, true, true, true, true, true, true, true, true, false, false] rfl rfl (any_of HT_.out (by kernel_rfl)) (fun _ _ _ h => h) (Or.inl ⟨by rfl, ?_⟩) ?_ ?_
                                    rotate_left
                                    · intro w'
                                      go_simp
                                      with_reducible rfl
                                    rotate_left
                                    · simp only [Act.put, List.setIfInBounds_toArray, List.set_cons_zero, List.set_cons_succ, i64_w, i32_w]
                                      rfl
                                    exact norm_ (by simp only [putAll, Act.put, List.setIfInBounds_toArray, List.set_cons_zero, List.set_cons_succ]) (hCont (v505, v508, v511, gb514) _ ⟨(by (with_reducible repeat (first | apply Kd.R_alloc | apply Kd.R_drewN | apply Kd.R_drew)); exact HO491.out), (by (with_reducible repeat (first | apply Kd.R_alloc | apply Kd.R_drewN | apply Kd.R_drew)); exact Kd.R_mono HO495.out (fun _ hk => ⟨hk.1.1.1, ⟨hk.1.1.2, ⟨hk.1.2, hk.2⟩⟩⟩)), (by (with_reducible repeat (first | apply Kd.R_alloc | apply Kd.R_drewN | apply Kd.R_drew)); exact Kd.R_mono HO498.out (fun _ hk => hk.2)), (by (with_reducible repeat (first | apply Kd.R_alloc | apply Kd.R_drewN | apply Kd.R_drew)); exact HO501.out), (by (with_reducible repeat (first | apply Kd.R_alloc | apply Kd.R_drewN | apply Kd.R_drew)); exact Kd.R_mono HO506.out (fun _ hk => ⟨hk.1.1.2, ⟨hk.1.2, ⟨hk.2, hk.1.1.1⟩⟩⟩)), (by (with_reducible repeat (first | apply Kd.R_alloc | apply Kd.R_drewN | apply Kd.R_drew)); exact Kd.R_mono HO509.out (fun _ hk => hk.2)), (by (with_reducible repeat (first | apply Kd.R_alloc | apply Kd.R_drewN | apply Kd.R_drew)); exact Kd.R_mono HO512.out (fun _ hk => ⟨hk.1.2, hk.2⟩)), (by (with_reducible repeat (first | apply Kd.R_alloc | apply Kd.R_drewN | apply Kd.R_drew)); exact HO_6.out), (by (with_reducible repeat (first | refine blk_drewN ?_ _ | refine blk_drew ?_ | refine blk_alloc ?_ _)); exact BK503.out), (by (with_reducible repeat (first | refine blk_drewN ?_ _ | refine blk_drew ?_ | refine blk_alloc ?_ _)); exact BK514.out), GW514.out, GE514.out, NB503_514.out, NB514_503.out, (by repeat (first | (with_reducible first | exact HB.out | apply below_alloc | apply pw_below_drewN | apply below_drew1 | refine below_set ?_ GE503.out | refine below_set ?_ GE514.out) | exact HB.out))⟩)
                                rintro ⟨v505, v508, v511, gb514⟩ w46 ⟨h0_, h1_, h2_, h3_, h4_, h5_, h6_, h7_, h8_, h9_, h10_, h11_, h12_, h13_, h14_⟩
                                have n0_ : Aside0 (Kd.R Kd.string 9 w46 w.heap.size (fun k_ => some k_ ≠ (.slice Ao41 t499.length co41 : Value).ownBlock ∧ some k_ ≠ (v511 : Value).ownBlock) (.slice (some ad492) y489.length co35) y489) := ⟨h0_⟩
                                have n1_ : Aside0 (Kd.R k42 42 w46 w.heap.size (fun k_ => some k_ ≠ (.slice (some ad492) y489.length co35 : Value).ownBlock ∧ some k_ ≠ (.slice Ao41 t499.length co41 : Value).ownBlock ∧ some k_ ≠ (v505 : Value).ownBlock ∧ some k_ ≠ (v511 : Value).ownBlock) (.slice Ao38 t493.length co38) t493) := ⟨h1_⟩
                                have n2_ : Aside0 (Kd.R k44 44 w46 w.heap.size (fun k_ => some k_ ≠ (v508 : Value).ownBlock) (.slice Ao40 t496.length co40) t496) := ⟨h2_⟩
                                have n3_ : Aside0 (Kd.R Kd.string 9 w46 w.heap.size (fun k_ => some k_ ≠ (.slice (some ad492) y489.length co35 : Value).ownBlock ∧ some k_ ≠ (v511 : Value).ownBlock) (.slice Ao41 t499.length co41) t499) := ⟨h3_⟩
                                have n4_ : Aside0 (Kd.R k42 42 w46 w.heap.size (fun k_ => some k_ ≠ (.slice (some ad492) y489.length co35 : Value).ownBlock ∧ some k_ ≠ (.slice Ao38 t493.length co38 : Value).ownBlock ∧ some k_ ≠ (.slice Ao41 t499.length co41 : Value).ownBlock ∧ some k_ ≠ (v511 : Value).ownBlock) v505 t504) := ⟨h4_⟩
                                have n5_ : Aside0 (Kd.R k44 44 w46 w.heap.size (fun k_ => some k_ ≠ (.slice Ao40 t496.length co40 : Value).ownBlock) v508 t507) := ⟨h5_⟩
                                have n6_ : Aside0 (Kd.R Kd.string 9 w46 w.heap.size (fun k_ => some k_ ≠ (.slice (some ad492) y489.length co35 : Value).ownBlock ∧ some k_ ≠ (.slice Ao41 t499.length co41 : Value).ownBlock) v511 t510) := ⟨h6_⟩
                                have n7_ : Aside0 (Kd.R (Kd.int .i64) 3 w46 w.heap.size (fun _ => True) (.slice (some ad488) x6_1.length co32) x6_1) := ⟨h7_⟩
                                have n8_ : Aside0 (w46.heap[gb503]? = some (.cells #[.slice Ao38 t493.length co38, .slice Ao40 t496.length co40, .slice Ao41 t499.length co41] 26 (0, 0))) := ⟨h8_⟩
                                have n9_ : Aside0 (w46.heap[gb514]? = some (.cells #[.slice none 0 0, .slice none 0 0, .slice none 0 0] 26 (0, 0))) := ⟨h9_⟩
                                have n10_ : Aside0 (w.heap.size ≤ gb514) := ⟨h10_⟩
                                have n11_ : Aside0 (w.heap.size ≤ gb514) := ⟨h11_⟩
                                have n12_ : Aside0 (gb503 ≠ gb514) := ⟨h12_⟩
                                have n13_ : Aside0 (gb514 ≠ gb503) := ⟨h13_⟩
                                have n14_ : Aside0 (Below w.heap.size w w46) := ⟨h14_⟩
                                clear HO_6
                                clear HO491
                                clear HO495
                                clear HO498
                                clear HO501
                                clear BK503
                                clear HB
                                clear h0_ h1_ h2_ h3_ h4_ h5_ h6_ h7_ h8_ h9_ h10_ h11_ h12_ h13_ h14_
                                have HO491 := n0_
                                have HO495 := n1_
                                have HO498 := n2_
                                have HO501 := n3_
                                have HO506 := n4_
                                have HO509 := n5_
                                have HO512 := n6_
                                have HO_6 := n7_
                                have BK503 := n8_
                                have BK514 := n9_
                                have GW514 := n10_
                                have GE514 := n11_
                                have NB503_514 := n12_
                                have NB514_503 := n13_
                                have HB := n14_
                                clear n0_ n1_ n2_ n3_ n4_ n5_ n6_ n7_ n8_ n9_ n10_ n11_ n12_ n13_ n14_
                                have hHeld := trivial
                                obtain ⟨Ao47, co47, eo47⟩ := Kd.R_slice HO506.out
                                (first | subst eo47 | (injection eo47 with f1_ f2_ f3_; have f4_ := f1_.symm; have f5_ := f3_.symm; clear f1_ f2_ f3_; subst f4_; subst f5_))
                                obtain ⟨Ao49, co49, eo49⟩ := Kd.R_slice HO509.out
                                (first | subst eo49 | (injection eo49 with f1_ f2_ f3_; have f4_ := f1_.symm; have f5_ := f3_.symm; clear f1_ f2_ f3_; subst f4_; subst f5_))
                                obtain ⟨Ao51, co51, eo51⟩ := Kd.R_slice HO512.out
                                (first | subst eo51 | (injection eo51 with f1_ f2_ f3_; have f4_ := f1_.symm; have f5_ := f3_.symm; clear f1_ f2_ f3_; subst f4_; subst f5_))
                                refine norm_ (a' := ?_) ?_ ?_
                                rotate_left
                                · simp only [putAll, Act.put, List.setIfInBounds_toArray, List.set_cons_zero, List.set_cons_succ]
                                  rfl
                                refine one_ (i := 14) (N := none) #[true, true, true, true, true, true, true, true, true, true, true, true, true, true, true, false] rfl rfl (one_of HT_.out (by kernel_rfl)) (by decide) (fun K hK => ?_)
                                have hs48 : w46.cell? ⟨gb514, 0, none⟩ = some (.slice none 0 0) := (blk_cell BK514.out 0).trans rfl
                                have hfs48 := blk_frozen BK514.out 0
                                have hns48_0 := NB503_514.out
                                have hms48_0 := NB514_503.out
                                have hs50 : w46.cell? ⟨gb514, 1, none⟩ = some (.slice none 0 0) := (blk_cell BK514.out 1).trans rfl
                                have hfs50 := blk_frozen BK514.out 1
                                have hns50_0 := NB503_514.out
                                have hms50_0 := NB514_503.out
                                have hs52 : w46.cell? ⟨gb514, 2, none⟩ = some (.slice none 0 0) := (blk_cell BK514.out 2).trans rfl
                                have hfs52 := blk_frozen BK514.out 2
                                have hns52_0 := NB503_514.out
                                have hms52_0 := NB514_503.out
                                refine skip_ (w1 := ?_) (by rfl) rfl ?_ ?_
                                rotate_left
                                · go_simp
                                  rfl
                                refine hK.out _ _ trivial (fun hHeld => ?_)
                                clear hK K
                                refine pure_ (i := 15) (N := some 13) (v := ?_) (a' := ?_) #[true, true, true, true, true, true, true, true, true, true, true, true, true, true, true, true] rfl rfl (any_of HT_.out (by kernel_rfl)) (fun _ _ _ h => h) (Or.inl ⟨by rfl, ?_⟩) ?_ ?_
                                rotate_left
                                · intro w'
                                  go_simp
                                  with_reducible rfl
                                rotate_left
                                · simp only [Act.put, List.setIfInBounds_toArray, List.set_cons_zero, List.set_cons_succ, i64_w, i32_w]
                                  rfl
                                refine done_ (done_of HT_.out (by kernel_rfl)) ?_
                                try go_wp2_with (first | ((with_reducible refine gate_callee (f := 13) rfl ?_); refine goesL_ (some 65) rfl rfl Tryz.func13 (by kernel_rfl) rfl #[.int .i64 t502] rfl (by (try simp only [List.map_toArray, List.map_cons, List.map_nil]); first | done | rfl | (simp only [List.length_drop, List.length_take]; rfl)) ?_; (with_reducible refine (cruciblelaw0_Num.calls t502 t515 _ A27.out).mono ?_); rintro e w' ⟨rfl, ⟨nd, rfl⟩⟩; refine ⟨_, rfl, ?_⟩) | (go_at_call 13; (with_reducible refine (cruciblelaw0_Num.calls t513 t516 _ A29.out).mono ?_); rintro e w' ⟨rfl, ⟨nd, rfl⟩⟩; have hnb53 := NB503_514.out; have hnc53 := NB514_503.out; have hcz54_0 : w46.cell? ⟨gb503, 0, none⟩ = some (.slice Ao38 t493.length co38) := (blk_cell BK503.out 0).trans rfl; have hcz54_1 : w46.cell? ⟨gb503, 1, none⟩ = some (.slice Ao40 t496.length co40) := (blk_cell BK503.out 1).trans rfl; have hcz54_2 : w46.cell? ⟨gb503, 2, none⟩ = some (.slice Ao41 t499.length co41) := (blk_cell BK503.out 2).trans rfl; have hfz54_0 := blk_frozen BK503.out 0; have hfz54_1 := blk_frozen BK503.out 1; have hfz54_2 := blk_frozen BK503.out 2; have hcz55_0 : w46.cell? ⟨gb514, 0, none⟩ = some (.slice none 0 0) := (blk_cell BK514.out 0).trans rfl; have hcz55_1 : w46.cell? ⟨gb514, 1, none⟩ = some (.slice none 0 0) := (blk_cell BK514.out 1).trans rfl; have hcz55_2 : w46.cell? ⟨gb514, 2, none⟩ = some (.slice none 0 0) := (blk_cell BK514.out 2).trans rfl; have hfz55_0 := blk_frozen BK514.out 0; have hfz55_1 := blk_frozen BK514.out 1; have hfz55_2 := blk_frozen BK514.out 2) | (go_at_call 12; (with_reducible refine (cruciblelaw0_SameGraph.calls k1 _ _ t493 _ _ t496 _ _ t499 _ _ t504 _ _ t507 _ _ t510 t517 _ ?side1 ?side2 ?side3 ?side4 ?side5 ?side6 ?side7 ?side8 ?side9 ?side10 ?side11 ?side12 A31.out).mono ?_); (case side1 => refine (Kd.R_reads' (e := 42) (base := w.heap.size) (ok := fun k_ => (some k_ ≠ (.slice (some ad492) y489.length co35 : Value).ownBlock ∧ (some k_ ≠ (.slice Ao41 t499.length co41 : Value).ownBlock ∧ (some k_ ≠ (.slice Ao47 t504.length co47 : Value).ownBlock ∧ some k_ ≠ (.slice Ao51 t510.length co51 : Value).ownBlock)))) (n := t493.length) (c := co38) ?_).2.2; exact (by (with_reducible repeat (first | apply Kd.R_alloc | apply Kd.R_drewN | apply Kd.R_drew)); exact (Kd.R_mono (Kd.R_far (p := ⟨gb514, 2, none⟩) (Kd.R_far (p := ⟨gb514, 1, none⟩) (Kd.R_far (p := ⟨gb514, 0, none⟩) (Kd.R_types HO495.out BK514.out (by decide)) (fun _ hk => hk.2) (.slice Ao47 t504.length co47)) (fun _ hk => hk.2) (.slice Ao49 t507.length co49)) (fun _ hk => hk.2) (.slice Ao51 t510.length co51)) (fun _ h_ => h_.1)))); (case side2 => exact (Kd.R_reads' HO495.out).2.1); (case side3 => refine (Kd.R_reads' (e := 44) (base := w.heap.size) (ok := fun k_ => some k_ ≠ (.slice Ao49 t507.length co49 : Value).ownBlock) (n := t496.length) (c := co40) ?_).2.2; exact (by (with_reducible repeat (first | apply Kd.R_alloc | apply Kd.R_drewN | apply Kd.R_drew)); exact (Kd.R_mono (Kd.R_far (p := ⟨gb514, 2, none⟩) (Kd.R_far (p := ⟨gb514, 1, none⟩) (Kd.R_far (p := ⟨gb514, 0, none⟩) (Kd.R_types HO498.out BK514.out (by decide)) (fun _ hk => hk.2) (.slice Ao47 t504.length co47)) (fun _ hk => hk.2) (.slice Ao49 t507.length co49)) (fun _ hk => hk.2) (.slice Ao51 t510.length co51)) (fun _ h_ => h_.1)))); (case side4 => exact (Kd.R_reads' HO498.out).2.1); (case side5 => refine (Kd.R_reads' (e := 9) (base := w.heap.size) (ok := fun k_ => (some k_ ≠ (.slice (some ad492) y489.length co35 : Value).ownBlock ∧ some k_ ≠ (.slice Ao51 t510.length co51 : Value).ownBlock)) (n := t499.length) (c := co41) ?_).2.2; exact (by (with_reducible repeat (first | apply Kd.R_alloc | apply Kd.R_drewN | apply Kd.R_drew)); exact (Kd.R_mono (Kd.R_far (p := ⟨gb514, 2, none⟩) (Kd.R_far (p := ⟨gb514, 1, none⟩) (Kd.R_far (p := ⟨gb514, 0, none⟩) (Kd.R_types HO501.out BK514.out (by decide)) (fun _ hk => hk.2) (.slice Ao47 t504.length co47)) (fun _ hk => hk.2) (.slice Ao49 t507.length co49)) (fun _ hk => hk.2) (.slice Ao51 t510.length co51)) (fun _ h_ => h_.1)))); (case side6 => exact (Kd.R_reads' HO501.out).2.1); (case side7 => refine (Kd.R_reads' (e := 42) (base := w.heap.size) (ok := fun k_ => (some k_ ≠ (.slice (some ad492) y489.length co35 : Value).ownBlock ∧ (some k_ ≠ (.slice Ao38 t493.length co38 : Value).ownBlock ∧ (some k_ ≠ (.slice Ao41 t499.length co41 : Value).ownBlock ∧ some k_ ≠ (.slice Ao51 t510.length co51 : Value).ownBlock)))) (n := t504.length) (c := co47) ?_).2.2; exact (by (with_reducible repeat (first | apply Kd.R_alloc | apply Kd.R_drewN | apply Kd.R_drew)); exact (Kd.R_mono (Kd.R_far (p := ⟨gb514, 2, none⟩) (Kd.R_far (p := ⟨gb514, 1, none⟩) (Kd.R_far (p := ⟨gb514, 0, none⟩) (Kd.R_types HO506.out BK514.out (by decide)) (fun _ hk => hk.2) (.slice Ao47 t504.length co47)) (fun _ hk => hk.2) (.slice Ao49 t507.length co49)) (fun _ hk => hk.2) (.slice Ao51 t510.length co51)) (fun _ h_ => h_.1)))); (case side8 => exact (Kd.R_reads' HO506.out).2.1); (case side9 => refine (Kd.R_reads' (e := 44) (base := w.heap.size) (ok := fun k_ => some k_ ≠ (.slice Ao40 t496.length co40 : Value).ownBlock) (n := t507.length) (c := co49) ?_).2.2; exact (by (with_reducible repeat (first | apply Kd.R_alloc | apply Kd.R_drewN | apply Kd.R_drew)); exact (Kd.R_mono (Kd.R_far (p := ⟨gb514, 2, none⟩) (Kd.R_far (p := ⟨gb514, 1, none⟩) (Kd.R_far (p := ⟨gb514, 0, none⟩) (Kd.R_types HO509.out BK514.out (by decide)) (fun _ hk => hk.2) (.slice Ao47 t504.length co47)) (fun _ hk => hk.2) (.slice Ao49 t507.length co49)) (fun _ hk => hk.2) (.slice Ao51 t510.length co51)) (fun _ h_ => h_.1)))); (case side10 => exact (Kd.R_reads' HO509.out).2.1); (case side11 => refine (Kd.R_reads' (e := 9) (base := w.heap.size) (ok := fun k_ => (some k_ ≠ (.slice (some ad492) y489.length co35 : Value).ownBlock ∧ some k_ ≠ (.slice Ao41 t499.length co41 : Value).ownBlock)) (n := t510.length) (c := co51) ?_).2.2; exact (by (with_reducible repeat (first | apply Kd.R_alloc | apply Kd.R_drewN | apply Kd.R_drew)); exact (Kd.R_mono (Kd.R_far (p := ⟨gb514, 2, none⟩) (Kd.R_far (p := ⟨gb514, 1, none⟩) (Kd.R_far (p := ⟨gb514, 0, none⟩) (Kd.R_types HO512.out BK514.out (by decide)) (fun _ hk => hk.2) (.slice Ao47 t504.length co47)) (fun _ hk => hk.2) (.slice Ao49 t507.length co49)) (fun _ hk => hk.2) (.slice Ao51 t510.length co51)) (fun _ h_ => h_.1)))); (case side12 => exact (Kd.R_reads' HO512.out).2.1); rintro e w56 ⟨rfl, hb⟩; have n0_ := Aside0.mk (Kd.R_below (by (with_reducible repeat (first | apply Kd.R_alloc | apply Kd.R_drewN | apply Kd.R_drew)); exact (Kd.R_mono (Kd.R_far (p := ⟨gb514, 2, none⟩) (Kd.R_far (p := ⟨gb514, 1, none⟩) (Kd.R_far (p := ⟨gb514, 0, none⟩) (Kd.R_types HO_6.out BK514.out (by decide)) (fun _ hk => hk.2) (.slice Ao47 t504.length co47)) (fun _ hk => hk.2) (.slice Ao49 t507.length co49)) (fun _ hk => hk.2) (.slice Ao51 t510.length co51)) (fun _ h_ => h_.1))) hb); have n1_ := Aside0.mk (Kd.R_below (by (with_reducible repeat (first | apply Kd.R_alloc | apply Kd.R_drewN | apply Kd.R_drew)); exact (Kd.R_mono (Kd.R_far (p := ⟨gb514, 2, none⟩) (Kd.R_far (p := ⟨gb514, 1, none⟩) (Kd.R_far (p := ⟨gb514, 0, none⟩) (Kd.R_types HO491.out BK514.out (by decide)) (fun _ hk => hk.2) (.slice Ao47 t504.length co47)) (fun _ hk => hk.2) (.slice Ao49 t507.length co49)) (fun _ hk => hk.2) (.slice Ao51 t510.length co51)) (fun _ h_ => h_.1))) hb); have n2_ := Aside0.mk (Kd.R_below (by (with_reducible repeat (first | apply Kd.R_alloc | apply Kd.R_drewN | apply Kd.R_drew)); exact (Kd.R_mono (Kd.R_far (p := ⟨gb514, 2, none⟩) (Kd.R_far (p := ⟨gb514, 1, none⟩) (Kd.R_far (p := ⟨gb514, 0, none⟩) (Kd.R_types HO495.out BK514.out (by decide)) (fun _ hk => hk.2) (.slice Ao47 t504.length co47)) (fun _ hk => hk.2) (.slice Ao49 t507.length co49)) (fun _ hk => hk.2) (.slice Ao51 t510.length co51)) (fun _ h_ => h_.1))) hb); have n3_ := Aside0.mk (Kd.R_below (by (with_reducible repeat (first | apply Kd.R_alloc | apply Kd.R_drewN | apply Kd.R_drew)); exact (Kd.R_mono (Kd.R_far (p := ⟨gb514, 2, none⟩) (Kd.R_far (p := ⟨gb514, 1, none⟩) (Kd.R_far (p := ⟨gb514, 0, none⟩) (Kd.R_types HO498.out BK514.out (by decide)) (fun _ hk => hk.2) (.slice Ao47 t504.length co47)) (fun _ hk => hk.2) (.slice Ao49 t507.length co49)) (fun _ hk => hk.2) (.slice Ao51 t510.length co51)) (fun _ h_ => h_.1))) hb); have n4_ := Aside0.mk (Kd.R_below (by (with_reducible repeat (first | apply Kd.R_alloc | apply Kd.R_drewN | apply Kd.R_drew)); exact (Kd.R_mono (Kd.R_far (p := ⟨gb514, 2, none⟩) (Kd.R_far (p := ⟨gb514, 1, none⟩) (Kd.R_far (p := ⟨gb514, 0, none⟩) (Kd.R_types HO501.out BK514.out (by decide)) (fun _ hk => hk.2) (.slice Ao47 t504.length co47)) (fun _ hk => hk.2) (.slice Ao49 t507.length co49)) (fun _ hk => hk.2) (.slice Ao51 t510.length co51)) (fun _ h_ => h_.1))) hb); have n5_ := Aside0.mk (Kd.R_below (by (with_reducible repeat (first | apply Kd.R_alloc | apply Kd.R_drewN | apply Kd.R_drew)); exact (Kd.R_mono (Kd.R_far (p := ⟨gb514, 2, none⟩) (Kd.R_far (p := ⟨gb514, 1, none⟩) (Kd.R_far (p := ⟨gb514, 0, none⟩) (Kd.R_types HO506.out BK514.out (by decide)) (fun _ hk => hk.2) (.slice Ao47 t504.length co47)) (fun _ hk => hk.2) (.slice Ao49 t507.length co49)) (fun _ hk => hk.2) (.slice Ao51 t510.length co51)) (fun _ h_ => h_.1))) hb); have n6_ := Aside0.mk (Kd.R_below (by (with_reducible repeat (first | apply Kd.R_alloc | apply Kd.R_drewN | apply Kd.R_drew)); exact (Kd.R_mono (Kd.R_far (p := ⟨gb514, 2, none⟩) (Kd.R_far (p := ⟨gb514, 1, none⟩) (Kd.R_far (p := ⟨gb514, 0, none⟩) (Kd.R_types HO509.out BK514.out (by decide)) (fun _ hk => hk.2) (.slice Ao47 t504.length co47)) (fun _ hk => hk.2) (.slice Ao49 t507.length co49)) (fun _ hk => hk.2) (.slice Ao51 t510.length co51)) (fun _ h_ => h_.1))) hb); have n7_ := Aside0.mk (Kd.R_below (by (with_reducible repeat (first | apply Kd.R_alloc | apply Kd.R_drewN | apply Kd.R_drew)); exact (Kd.R_mono (Kd.R_far (p := ⟨gb514, 2, none⟩) (Kd.R_far (p := ⟨gb514, 1, none⟩) (Kd.R_far (p := ⟨gb514, 0, none⟩) (Kd.R_types HO512.out BK514.out (by decide)) (fun _ hk => hk.2) (.slice Ao47 t504.length co47)) (fun _ hk => hk.2) (.slice Ao49 t507.length co49)) (fun _ hk => hk.2) (.slice Ao51 t510.length co51)) (fun _ h_ => h_.1))) hb); have n8_ := Aside0.mk (blk_below (g := gb503) (o := .cells #[.slice Ao38 t493.length co38, .slice Ao40 t496.length co40, .slice Ao41 t499.length co41] 26 (0, 0)) (by (with_reducible repeat (first | refine blk_drewN ?_ _ | refine blk_drew ?_ | refine blk_alloc ?_ _)); refine blk_far ?_ NB503_514.out _; (with_reducible repeat (first | refine blk_drewN ?_ _ | refine blk_drew ?_ | refine blk_alloc ?_ _)); refine blk_far ?_ NB503_514.out _; (with_reducible repeat (first | refine blk_drewN ?_ _ | refine blk_drew ?_ | refine blk_alloc ?_ _)); refine blk_far ?_ NB503_514.out _; (with_reducible repeat (first | refine blk_drewN ?_ _ | refine blk_drew ?_ | refine blk_alloc ?_ _)); exact BK503.out) hb); have n9_ := Aside0.mk (blk_below (g := gb514) (o := .cells #[.slice Ao47 t504.length co47, .slice Ao49 t507.length co49, .slice Ao51 t510.length co51] 26 (0, 0)) (by (with_reducible repeat (first | refine blk_drewN ?_ _ | refine blk_drew ?_ | refine blk_alloc ?_ _)); refine blk_put (cs := #[.slice Ao47 t504.length co47, .slice Ao49 t507.length co49, .slice none 0 0]) ?_ 2 _ rfl; (with_reducible repeat (first | refine blk_drewN ?_ _ | refine blk_drew ?_ | refine blk_alloc ?_ _)); refine blk_put (cs := #[.slice Ao47 t504.length co47, .slice none 0 0, .slice none 0 0]) ?_ 1 _ rfl; (with_reducible repeat (first | refine blk_drewN ?_ _ | refine blk_drew ?_ | refine blk_alloc ?_ _)); refine blk_put (cs := #[.slice none 0 0, .slice none 0 0, .slice none 0 0]) ?_ 0 _ rfl; (with_reducible repeat (first | refine blk_drewN ?_ _ | refine blk_drew ?_ | refine blk_alloc ?_ _)); exact BK514.out) hb); have n10_ := Aside0.mk (below_step (by repeat (first | (with_reducible first | exact HB.out | apply below_alloc | apply pw_below_drewN | apply below_drew1 | refine below_set ?_ GE503.out | refine below_set ?_ GE514.out) | exact HB.out)) hb); clear HO_6; clear HO491; clear HO495; clear HO498; clear HO501; clear HO506; clear HO509; clear HO512; clear BK503; clear BK514; clear HB; have HO_6 := n0_; have HO491 := n1_; have HO495 := n2_; have HO498 := n3_; have HO501 := n4_; have HO506 := n5_; have HO509 := n6_; have HO512 := n7_; have BK503 := n8_; have BK514 := n9_; have HB := n10_; clear n0_ n1_ n2_ n3_ n4_ n5_ n6_ n7_ n8_ n9_ n10_; (try clear hb); (try clear hb2); (try clear hk); (try clear hi)))
                                go_ret
                                exact ⟨by first | rfl | (simp [errW_none, errW_some] <;> rfl) | (simp only [← hji14]; first | rfl | (simp [errW_none, errW_some] <;> rfl)) | (simp [*, errW_none, errW_some] <;> rfl), by repeat (first | (with_reducible first | exact HB.out | apply below_alloc | apply pw_below_drewN | apply below_drew1 | refine below_set ?_ GE503.out | refine below_set ?_ GE514.out) | exact HB.out)⟩
                              · rw [if_neg c30] at H
                                have c30b0 : (t516 == 0) = false := beq_eq_false_iff_ne.mpr c30
                                have c30b1 : (t516 != 0) = true := bne_iff_ne.mpr c30
                                obtain rfl := Option.some.inj H
                                obtain ⟨Ao57, co57, eo57⟩ := Kd.R_slice HO_6.out
                                subst eo57
                                have p488 : 0 ≤ ((ji14) : Int) := of_decide_eq_true (by first | (with_reducible assumption) | assumption)
                                have q488 : (ji14) < (x6_1.length : Int) := of_decide_eq_true (by first | (with_reducible assumption) | assumption)
                                obtain ⟨ad488, e488, hx488_0⟩ := Kd.at_int (Kd.R_reads' HO_6.out).2.2 (ji14) p488 q488
                                cases e488
                                replace p488 := eq_true p488
                                replace q488 := eq_true q488
                                try go_wp2_with (first | ((with_reducible refine gate_dst (N := 41) rfl ?_); refine Kd.R_lit Kd.string _ 9 ?hg (N := 41) ?hd (xs := ([(⟨#[10]⟩ : ByteArray), (⟨#[10, 32, 32, 35, 32, 110, 111, 32, 36, 120]⟩ : ByteArray), (⟨#[32, 32]⟩ : ByteArray), (⟨#[10, 32, 32, 32, 32, 32, 32]⟩ : ByteArray)] : List ByteArray)) (inner := [.string (⟨#[10]⟩ : ByteArray), .string (⟨#[10, 32, 32, 35, 32, 110, 111, 32, 36, 120]⟩ : ByteArray), .string (⟨#[32, 32]⟩ : ByteArray), .string (⟨#[10, 32, 32, 32, 32, 32, 32]⟩ : ByteArray)]) (ok := fun _ => True) (okp := fun _ => True) ?hr ?hp (fun _ hk => hk) trivial (Below.refl _ _) (Nat.le_refl _) (by simp) ?_; (case hd => rfl); (case hg => rfl); (case hr => first | (go_simp; done) | (go_simp; rfl)); (case hp => exact (Reps.one (show Kd.M Kd.string _ _ _ (⟨#[10]⟩ : ByteArray) [.string (⟨#[10]⟩ : ByteArray)] from rfl) (Reps.one (show Kd.M Kd.string _ _ _ (⟨#[10, 32, 32, 35, 32, 110, 111, 32, 36, 120]⟩ : ByteArray) [.string (⟨#[10, 32, 32, 35, 32, 110, 111, 32, 36, 120]⟩ : ByteArray)] from rfl) (Reps.one (show Kd.M Kd.string _ _ _ (⟨#[32, 32]⟩ : ByteArray) [.string (⟨#[32, 32]⟩ : ByteArray)] from rfl) (Reps.one (show Kd.M Kd.string _ _ _ (⟨#[10, 32, 32, 32, 32, 32, 32]⟩ : ByteArray) [.string (⟨#[10, 32, 32, 32, 32, 32, 32]⟩ : ByteArray)] from rfl) (Reps.none _ _)))))); intro v490 w58 ho59 hb hg_ hnew_; clear hg_ hnew_; (first | rw [← Ny489.out] at ho59 | (simp only [Int.reduceToNat] at ho59; rw [← Ny489.out] at ho59)); have n0_ := Aside0.mk (Kd.R_below (by (with_reducible repeat (first | apply Kd.R_alloc | apply Kd.R_drewN | apply Kd.R_drew)); exact HO_6.out) hb); have n1_ := Aside0.mk (Kd.R_lower ho59 (below_size (by repeat (first | (with_reducible first | exact HB.out | apply below_alloc | apply pw_below_drewN | apply below_drew1) | exact HB.out)))); have n2_ := Aside0.mk (below_step (by repeat (first | (with_reducible first | exact HB.out | apply below_alloc | apply pw_below_drewN | apply below_drew1) | exact HB.out)) hb); clear HO_6; clear HB; have HO_6 := n0_; have HO491 := n1_; have HB := n2_; clear n0_ n1_ n2_; clear hb ho59; obtain ⟨Ao60, co60, eo60⟩ := Kd.R_slice HO491.out; subst eo60; have p492 : 0 ≤ ((Go.bits .and .i64 a1 3) : Int) := of_decide_eq_true (by first | (with_reducible assumption) | assumption); have q492 : (Go.bits .and .i64 a1 3) < (y489.length : Int) := of_decide_eq_true (by first | (with_reducible assumption) | assumption); obtain ⟨ad492, e492, hx492_0⟩ := Kd.at_string (Kd.R_reads' HO491.out).2.2 (Go.bits .and .i64 a1 3) p492 q492; cases e492; replace p492 := eq_true p492; replace q492 := eq_true q492) | ((with_reducible refine gate_callee (f := 10) rfl ?_); refine goesL_ (some 48) rfl rfl Tryz.func10 (by kernel_rfl) rfl #[.string t484] rfl (by (try simp only [List.map_toArray, List.map_cons, List.map_nil]); first | done | rfl | (simp only [List.length_drop, List.length_take]; rfl)) ?_; (with_reducible refine (manifest_Parse.calls t484 t493 t496 t499 t502 _ A19.out).mono ?_); rintro e w61 ⟨v494, v497, v500, rfl, ho0, ho1, ho2, hb⟩; refine ⟨_, rfl, ?_⟩; have n0_ := Aside0.mk (Kd.R_below (by (with_reducible repeat (first | apply Kd.R_alloc | apply Kd.R_drewN | apply Kd.R_drew)); exact HO_6.out) hb); have n1_ := Aside0.mk (Kd.R_elder' (by (with_reducible repeat (first | apply Kd.R_alloc | apply Kd.R_drewN | apply Kd.R_drew)); exact HO491.out) (Kd.R_base ho2) hb); have n2_ := Aside0.mk (Kd.R_lower (Kd.R_new' ho0 (Kd.R_lt (by (with_reducible repeat (first | apply Kd.R_alloc | apply Kd.R_drewN | apply Kd.R_drew)); exact HO491.out))) (below_size (by repeat (first | (with_reducible first | exact HB.out | apply below_alloc | apply pw_below_drewN | apply below_drew1) | exact HB.out)))); have n3_ := Aside0.mk (Kd.R_lower ho1 (below_size (by repeat (first | (with_reducible first | exact HB.out | apply below_alloc | apply pw_below_drewN | apply below_drew1) | exact HB.out)))); have n4_ := Aside0.mk (Kd.R_lower (Kd.R_new' ho2 (Kd.R_lt (by (with_reducible repeat (first | apply Kd.R_alloc | apply Kd.R_drewN | apply Kd.R_drew)); exact HO491.out))) (below_size (by repeat (first | (with_reducible first | exact HB.out | apply below_alloc | apply pw_below_drewN | apply below_drew1) | exact HB.out)))); have n5_ := Aside0.mk (below_step (by repeat (first | (with_reducible first | exact HB.out | apply below_alloc | apply pw_below_drewN | apply below_drew1) | exact HB.out)) hb); clear HO_6; clear HO491; clear HB; have HO_6 := n0_; have HO491 := n1_; have HO495 := n2_; have HO498 := n3_; have HO501 := n4_; have HB := n5_; clear n0_ n1_ n2_ n3_ n4_ n5_; (try clear hb); (try clear hb2); (try clear hk); (try clear hi); (try clear ho0); (try clear ho1); (try clear ho2)) | ((with_reducible refine gate_dst (N := 10) rfl ?_); refine box_event ?hg (N := 10) ?hd (cs := #[.slice none 0 0, .slice none 0 0, .slice none 0 0]) (t := 26) ?hr ?_; (case hd => rfl); (case hg => rfl); (case hr => first | (go_simp; done) | (go_simp; rfl)); intro gb503 hg w62 hbox hb; have n0_ := Aside0.mk (Kd.R_below (by (with_reducible repeat (first | apply Kd.R_alloc | apply Kd.R_drewN | apply Kd.R_drew)); exact HO_6.out) hb); have n1_ := Aside0.mk (Kd.R_below (by (with_reducible repeat (first | apply Kd.R_alloc | apply Kd.R_drewN | apply Kd.R_drew)); exact HO491.out) hb); have n2_ := Aside0.mk (Kd.R_below (by (with_reducible repeat (first | apply Kd.R_alloc | apply Kd.R_drewN | apply Kd.R_drew)); exact HO495.out) hb); have n3_ := Aside0.mk (Kd.R_below (by (with_reducible repeat (first | apply Kd.R_alloc | apply Kd.R_drewN | apply Kd.R_drew)); exact HO498.out) hb); have n4_ := Aside0.mk (Kd.R_below (by (with_reducible repeat (first | apply Kd.R_alloc | apply Kd.R_drewN | apply Kd.R_drew)); exact HO501.out) hb); have n5_ := Aside0.mk (below_step (by repeat (first | (with_reducible first | exact HB.out | apply below_alloc | apply pw_below_drewN | apply below_drew1) | exact HB.out)) hb); have n6_ := Aside0.mk (hbox); have n7_ := Aside0.mk ((by rw [hg]; exact (below_size (by repeat (first | (with_reducible first | exact HB.out | apply below_alloc | apply pw_below_drewN | apply below_drew1) | exact HB.out))) : w.heap.size ≤ gb503)); have n8_ := Aside0.mk ((by rw [hg]; exact (below_size (by repeat (first | (with_reducible first | exact HB.out | apply below_alloc | apply pw_below_drewN | apply below_drew1) | exact HB.out))) : w.heap.size ≤ gb503)); clear HO_6; clear HO491; clear HO495; clear HO498; clear HO501; clear HB; have HO_6 := n0_; have HO491 := n1_; have HO495 := n2_; have HO498 := n3_; have HO501 := n4_; have HB := n5_; have BK503 := n6_; have GW503 := n7_; have GE503 := n8_; clear n0_ n1_ n2_ n3_ n4_ n5_ n6_ n7_ n8_; clear hb hbox hg; obtain ⟨Ao63, co63, eo63⟩ := Kd.R_slice HO495.out; subst eo63; have hcz64_0 : w62.cell? ⟨gb503, 0, none⟩ = some (.slice none 0 0) := (blk_cell BK503.out 0).trans rfl; have hcz64_1 : w62.cell? ⟨gb503, 1, none⟩ = some (.slice none 0 0) := (blk_cell BK503.out 1).trans rfl; have hcz64_2 : w62.cell? ⟨gb503, 2, none⟩ = some (.slice none 0 0) := (blk_cell BK503.out 2).trans rfl; have hfz64_0 := blk_frozen BK503.out 0; have hfz64_1 := blk_frozen BK503.out 1; have hfz64_2 := blk_frozen BK503.out 2; obtain ⟨Ao65, co65, eo65⟩ := Kd.R_slice HO498.out; subst eo65; obtain ⟨Ao66, co66, eo66⟩ := Kd.R_slice HO501.out; subst eo66))
                                have n0_ : Aside0 (Kd.R (Kd.int .i64) 3 (((w62.setCell ⟨gb503, 0, none⟩ (.slice Ao63 t493.length co63)).setCell ⟨gb503, 1, none⟩ (.slice Ao65 t496.length co65)).setCell ⟨gb503, 2, none⟩ (.slice Ao66 t499.length co66)) w.heap.size (fun _ => True) (.slice (some ad488) x6_1.length co57) x6_1) := ⟨by (with_reducible repeat (first | apply Kd.R_alloc | apply Kd.R_drewN | apply Kd.R_drew)); exact Kd.R_mono (Kd.R_far (p := ⟨gb503, 2, none⟩) (Kd.R_far (p := ⟨gb503, 1, none⟩) (Kd.R_far (p := ⟨gb503, 0, none⟩) (Kd.R_types HO_6.out BK503.out (by decide)) (fun _ hk => hk.2) (.slice Ao63 t493.length co63)) (fun _ hk => hk.2) (.slice Ao65 t496.length co65)) (fun _ hk => hk.2) (.slice Ao66 t499.length co66)) (fun _ hk => trivial)⟩
                                have n1_ : Aside0 (Kd.R Kd.string 9 (((w62.setCell ⟨gb503, 0, none⟩ (.slice Ao63 t493.length co63)).setCell ⟨gb503, 1, none⟩ (.slice Ao65 t496.length co65)).setCell ⟨gb503, 2, none⟩ (.slice Ao66 t499.length co66)) w.heap.size (fun k_ => some k_ ≠ (.slice Ao66 t499.length co66 : Value).ownBlock) (.slice (some ad492) y489.length co60) y489) := ⟨by (with_reducible repeat (first | apply Kd.R_alloc | apply Kd.R_drewN | apply Kd.R_drew)); exact Kd.R_mono (Kd.R_far (p := ⟨gb503, 2, none⟩) (Kd.R_far (p := ⟨gb503, 1, none⟩) (Kd.R_far (p := ⟨gb503, 0, none⟩) (Kd.R_types HO491.out BK503.out (by decide)) (fun _ hk => hk.2) (.slice Ao63 t493.length co63)) (fun _ hk => hk.2) (.slice Ao65 t496.length co65)) (fun _ hk => hk.2) (.slice Ao66 t499.length co66)) (fun _ hk => hk.1.2)⟩
                                have n2_ : Aside0 (Kd.R k42 42 (((w62.setCell ⟨gb503, 0, none⟩ (.slice Ao63 t493.length co63)).setCell ⟨gb503, 1, none⟩ (.slice Ao65 t496.length co65)).setCell ⟨gb503, 2, none⟩ (.slice Ao66 t499.length co66)) w.heap.size (fun k_ => some k_ ≠ (.slice (some ad492) y489.length co60 : Value).ownBlock ∧ some k_ ≠ (.slice Ao66 t499.length co66 : Value).ownBlock) (.slice Ao63 t493.length co63) t493) := ⟨by (with_reducible repeat (first | apply Kd.R_alloc | apply Kd.R_drewN | apply Kd.R_drew)); exact Kd.R_mono (Kd.R_far (p := ⟨gb503, 2, none⟩) (Kd.R_far (p := ⟨gb503, 1, none⟩) (Kd.R_far (p := ⟨gb503, 0, none⟩) (Kd.R_types HO495.out BK503.out (by decide)) (fun _ hk => hk.2) (.slice Ao63 t493.length co63)) (fun _ hk => hk.2) (.slice Ao65 t496.length co65)) (fun _ hk => hk.2) (.slice Ao66 t499.length co66)) (fun _ hk => ⟨hk.1.2, hk.1.1⟩)⟩
                                have n3_ : Aside0 (Kd.R k44 44 (((w62.setCell ⟨gb503, 0, none⟩ (.slice Ao63 t493.length co63)).setCell ⟨gb503, 1, none⟩ (.slice Ao65 t496.length co65)).setCell ⟨gb503, 2, none⟩ (.slice Ao66 t499.length co66)) w.heap.size (fun _ => True) (.slice Ao65 t496.length co65) t496) := ⟨by (with_reducible repeat (first | apply Kd.R_alloc | apply Kd.R_drewN | apply Kd.R_drew)); exact Kd.R_mono (Kd.R_far (p := ⟨gb503, 2, none⟩) (Kd.R_far (p := ⟨gb503, 1, none⟩) (Kd.R_far (p := ⟨gb503, 0, none⟩) (Kd.R_types HO498.out BK503.out (by decide)) (fun _ hk => hk.2) (.slice Ao63 t493.length co63)) (fun _ hk => hk.2) (.slice Ao65 t496.length co65)) (fun _ hk => hk.2) (.slice Ao66 t499.length co66)) (fun _ hk => trivial)⟩
                                have n4_ : Aside0 (Kd.R Kd.string 9 (((w62.setCell ⟨gb503, 0, none⟩ (.slice Ao63 t493.length co63)).setCell ⟨gb503, 1, none⟩ (.slice Ao65 t496.length co65)).setCell ⟨gb503, 2, none⟩ (.slice Ao66 t499.length co66)) w.heap.size (fun k_ => some k_ ≠ (.slice (some ad492) y489.length co60 : Value).ownBlock) (.slice Ao66 t499.length co66) t499) := ⟨by (with_reducible repeat (first | apply Kd.R_alloc | apply Kd.R_drewN | apply Kd.R_drew)); exact Kd.R_mono (Kd.R_far (p := ⟨gb503, 2, none⟩) (Kd.R_far (p := ⟨gb503, 1, none⟩) (Kd.R_far (p := ⟨gb503, 0, none⟩) (Kd.R_types HO501.out BK503.out (by decide)) (fun _ hk => hk.2) (.slice Ao63 t493.length co63)) (fun _ hk => hk.2) (.slice Ao65 t496.length co65)) (fun _ hk => hk.2) (.slice Ao66 t499.length co66)) (fun _ hk => hk.1.2)⟩
                                have n5_ : Aside0 ((((w62.setCell ⟨gb503, 0, none⟩ (.slice Ao63 t493.length co63)).setCell ⟨gb503, 1, none⟩ (.slice Ao65 t496.length co65)).setCell ⟨gb503, 2, none⟩ (.slice Ao66 t499.length co66)).heap[gb503]? = some (.cells #[.slice Ao63 t493.length co63, .slice Ao65 t496.length co65, .slice Ao66 t499.length co66] 26 (0, 0))) := ⟨by (with_reducible repeat (first | refine blk_drewN ?_ _ | refine blk_drew ?_ | refine blk_alloc ?_ _)); refine blk_put (cs := #[.slice Ao63 t493.length co63, .slice Ao65 t496.length co65, .slice none 0 0]) ?_ 2 _ rfl; (with_reducible repeat (first | refine blk_drewN ?_ _ | refine blk_drew ?_ | refine blk_alloc ?_ _)); refine blk_put (cs := #[.slice Ao63 t493.length co63, .slice none 0 0, .slice none 0 0]) ?_ 1 _ rfl; (with_reducible repeat (first | refine blk_drewN ?_ _ | refine blk_drew ?_ | refine blk_alloc ?_ _)); refine blk_put (cs := #[.slice none 0 0, .slice none 0 0, .slice none 0 0]) ?_ 0 _ rfl; (with_reducible repeat (first | refine blk_drewN ?_ _ | refine blk_drew ?_ | refine blk_alloc ?_ _)); exact BK503.out⟩
                                have n6_ : Aside0 (Below w.heap.size w (((w62.setCell ⟨gb503, 0, none⟩ (.slice Ao63 t493.length co63)).setCell ⟨gb503, 1, none⟩ (.slice Ao65 t496.length co65)).setCell ⟨gb503, 2, none⟩ (.slice Ao66 t499.length co66))) := ⟨by repeat (first | (with_reducible first | exact HB.out | apply below_alloc | apply pw_below_drewN | apply below_drew1 | refine below_set ?_ GE503.out) | exact HB.out)⟩
                                (try clear HO_6)
                                (try clear HO491)
                                (try clear HO495)
                                (try clear HO498)
                                (try clear HO501)
                                (try clear BK503)
                                (try clear HB)
                                generalize (((w62.setCell ⟨gb503, 0, none⟩ (.slice Ao63 t493.length co63)).setCell ⟨gb503, 1, none⟩ (.slice Ao65 t496.length co65)).setCell ⟨gb503, 2, none⟩ (.slice Ao66 t499.length co66)) = w67 at n0_ n1_ n2_ n3_ n4_ n5_ n6_ ⊢
                                have HO_6 := n0_
                                have HO491 := n1_
                                have HO495 := n2_
                                have HO498 := n3_
                                have HO501 := n4_
                                have BK503 := n5_
                                have HB := n6_
                                clear n0_ n1_ n2_ n3_ n4_ n5_ n6_
                                have n0_ := Aside0.mk (Kd.R_drew HO_6.out)
                                have n1_ := Aside0.mk (Kd.R_drew HO491.out)
                                have n2_ := Aside0.mk (Kd.R_drew HO495.out)
                                have n3_ := Aside0.mk (Kd.R_drew HO498.out)
                                have n4_ := Aside0.mk (Kd.R_drew HO501.out)
                                have n5_ := Aside0.mk (blk_drew BK503.out)
                                have n6_ := Aside0.mk (below_drew1 HB.out)
                                clear HO_6
                                clear HO491
                                clear HO495
                                clear HO498
                                clear HO501
                                clear BK503
                                clear HB
                                have HO_6 := n0_
                                have HO491 := n1_
                                have HO495 := n2_
                                have HO498 := n3_
                                have HO501 := n4_
                                have BK503 := n5_
                                have HB := n6_
                                clear n0_ n1_ n2_ n3_ n4_ n5_ n6_
                                refine start_ (n := 16) (S := fun w' => True) (ds := []) #[false, false, false, false, false, false, false, false, false, false, false, false, false, false, false, false] (by kernel_rfl) rfl rfl trivial (fun hHeld => ?_); refine with_tabW cruciblelaw8_ManifestBlank.tab13 cruciblelaw8_ManifestBlank.bits13 (fun HT_ HW_ => ?_)
                                generalize w67.drew = w68 at HO_6 HO491 HO495 HO498 HO501 BK503 HB hHeld ⊢
                                refine pure_ (i := 0) (N := some 52) (v := ?_) (a' := ?_) #[true, false, false, false, false, false, false, false, false, false, false, false, false, false, false, false] rfl rfl (any_of HT_.out (by kernel_rfl)) (fun _ _ _ h => h) (Or.inl ⟨by rfl, ?_⟩) ?_ ?_
                                rotate_left
                                · intro w'
                                  go_simp
                                  with_reducible rfl
                                rotate_left
                                · simp only [Act.put, List.setIfInBounds_toArray, List.set_cons_zero, List.set_cons_succ, i64_w, i32_w]
                                  rfl
                                refine pure_ (i := 1) (N := some 53) (v := ?_) (a' := ?_) #[true, true, false, false, false, false, false, false, false, false, false, false, false, false, false, false] rfl rfl (any_of HT_.out (by kernel_rfl)) (fun _ _ _ h => h) (Or.inl ⟨by rfl, ?_⟩) ?_ ?_
                                rotate_left
                                · intro w'
                                  go_simp
                                  with_reducible rfl
                                rotate_left
                                · simp only [Act.put, List.setIfInBounds_toArray, List.set_cons_zero, List.set_cons_succ, i64_w, i32_w]
                                  rfl
                                refine pure_ (i := 2) (N := some 54) (v := ?_) (a' := ?_) #[true, true, true, false, false, false, false, false, false, false, false, false, false, false, false, false] rfl rfl (any_of HT_.out (by kernel_rfl)) (fun _ _ _ h => h) (Or.inl ⟨by rfl, ?_⟩) ?_ ?_
                                rotate_left
                                · intro w'
                                  go_simp
                                  with_reducible rfl
                                rotate_left
                                · simp only [Act.put, List.setIfInBounds_toArray, List.set_cons_zero, List.set_cons_succ, i64_w, i32_w]
                                  rfl
                                refine pure_ (i := 3) (N := some 55) (v := ?_) (a' := ?_) #[true, true, true, true, false, false, false, false, false, false, false, false, false, false, false, false] rfl rfl (any_of HT_.out (by kernel_rfl)) (fun _ _ _ h => h) (Or.inl ⟨by rfl, ?_⟩) ?_ ?_
                                rotate_left
                                · intro w'
                                  go_simp
                                  with_reducible rfl
                                rotate_left
                                · simp only [Act.put, List.setIfInBounds_toArray, List.set_cons_zero, List.set_cons_succ, i64_w, i32_w]
                                  rfl
                                refine pure_ (i := 4) (N := some 56) (v := ?_) (a' := ?_) #[true, true, true, true, true, false, false, false, false, false, false, false, false, false, false, false] rfl rfl (any_of HT_.out (by kernel_rfl)) (fun _ _ _ h => h) (Or.inl ⟨by rfl, ?_⟩) ?_ ?_
                                rotate_left
                                · intro w'
                                  go_simp
                                  with_reducible rfl
                                rotate_left
                                · simp only [Act.put, List.setIfInBounds_toArray, List.set_cons_zero, List.set_cons_succ, i64_w, i32_w]
                                  rfl
                                refine pure_ (i := 5) (N := some 57) (v := ?_) (a' := ?_) #[true, true, true, true, true, true, false, false, false, false, false, false, false, false, false, false] rfl rfl (any_of HT_.out (by kernel_rfl)) (fun _ _ _ h => h) (Or.inl ⟨by rfl, ?_⟩) ?_ ?_
                                rotate_left
                                · intro w'
                                  go_simp
                                  with_reducible rfl
                                rotate_left
                                · simp only [Act.put, List.setIfInBounds_toArray, List.set_cons_zero, List.set_cons_succ, i64_w, i32_w]
                                  rfl
                                refine pure_ (i := 6) (N := some 58) (v := ?_) (a' := ?_) #[true, true, true, true, true, true, true, false, false, false, false, false, false, false, false, false] rfl rfl (any_of HT_.out (by kernel_rfl)) (fun _ _ _ h => h) (Or.inl ⟨by rfl, ?_⟩) ?_ ?_
                                rotate_left
                                · intro w'
                                  go_simp
                                  with_reducible rfl
                                rotate_left
                                · simp only [Act.put, List.setIfInBounds_toArray, List.set_cons_zero, List.set_cons_succ, i64_w, i32_w]
                                  rfl
                                refine pure_ (i := 7) (N := some 59) (v := ?_) (a' := ?_) #[true, true, true, true, true, true, true, true, false, false, false, false, false, false, false, false] rfl rfl (any_of HT_.out (by kernel_rfl)) (fun _ _ _ h => h) (Or.inl ⟨by rfl, ?_⟩) ?_ ?_
                                rotate_left
                                · intro w'
                                  go_simp
                                  with_reducible rfl
                                rotate_left
                                · simp only [Act.put, List.setIfInBounds_toArray, List.set_cons_zero, List.set_cons_succ, i64_w, i32_w]
                                  rfl
                                refine pure_ (i := 8) (N := some 60) (v := ?_) (a' := ?_) #[true, true, true, true, true, true, true, true, true, false, false, false, false, false, false, false] rfl rfl (any_of HT_.out (by kernel_rfl)) (fun _ _ _ h => h) (Or.inl ⟨by rfl, ?_⟩) ?_ ?_
                                rotate_left
                                · intro w'
                                  go_simp
                                  with_reducible rfl
                                rotate_left
                                · simp only [Act.put, List.setIfInBounds_toArray, List.set_cons_zero, List.set_cons_succ, i64_w, i32_w]
                                  rfl
                                refine join_ (σ := Value × Value × Value × Nat) 2 #[true, true, true, true, true, true, true, true, true, true, true, true, true, true, false, false] (fun s_ => [(61, .tuple #[.agg #[s_.1, s_.2.1, s_.2.2.1], .int .i64 t513]), (12, .pointer (some ⟨s_.2.2.2, 0, none⟩)), (51, .tuple #[.agg #[s_.1, s_.2.1, s_.2.2.1], .int .i64 t513]), (62, .agg #[s_.1, s_.2.1, s_.2.2.1]), (63, .int .i64 t513)]) (fun s_ w' => (Kd.R Kd.string 9 w' w.heap.size (fun k_ => some k_ ≠ (.slice Ao66 t499.length co66 : Value).ownBlock ∧ some k_ ≠ (s_.2.2.1 : Value).ownBlock) (.slice (some ad492) y489.length co60) y489) ∧ (Kd.R k42 42 w' w.heap.size (fun k_ => some k_ ≠ (.slice (some ad492) y489.length co60 : Value).ownBlock ∧ some k_ ≠ (.slice Ao66 t499.length co66 : Value).ownBlock ∧ some k_ ≠ (s_.1 : Value).ownBlock ∧ some k_ ≠ (s_.2.2.1 : Value).ownBlock) (.slice Ao63 t493.length co63) t493) ∧ (Kd.R k44 44 w' w.heap.size (fun k_ => some k_ ≠ (s_.2.1 : Value).ownBlock) (.slice Ao65 t496.length co65) t496) ∧ (Kd.R Kd.string 9 w' w.heap.size (fun k_ => some k_ ≠ (.slice (some ad492) y489.length co60 : Value).ownBlock ∧ some k_ ≠ (s_.2.2.1 : Value).ownBlock) (.slice Ao66 t499.length co66) t499) ∧ (Kd.R k42 42 w' w.heap.size (fun k_ => some k_ ≠ (.slice (some ad492) y489.length co60 : Value).ownBlock ∧ some k_ ≠ (.slice Ao63 t493.length co63 : Value).ownBlock ∧ some k_ ≠ (.slice Ao66 t499.length co66 : Value).ownBlock ∧ some k_ ≠ (s_.2.2.1 : Value).ownBlock) s_.1 t504) ∧ (Kd.R k44 44 w' w.heap.size (fun k_ => some k_ ≠ (.slice Ao65 t496.length co65 : Value).ownBlock) s_.2.1 t507) ∧ (Kd.R Kd.string 9 w' w.heap.size (fun k_ => some k_ ≠ (.slice (some ad492) y489.length co60 : Value).ownBlock ∧ some k_ ≠ (.slice Ao66 t499.length co66 : Value).ownBlock) s_.2.2.1 t510) ∧ (Kd.R (Kd.int .i64) 3 w' w.heap.size (fun _ => True) (.slice (some ad488) x6_1.length co57) x6_1) ∧ (w'.heap[gb503]? = some (.cells #[.slice Ao63 t493.length co63, .slice Ao65 t496.length co65, .slice Ao66 t499.length co66] 26 (0, 0))) ∧ (w'.heap[s_.2.2.2]? = some (.cells #[.slice none 0 0, .slice none 0 0, .slice none 0 0] 26 (0, 0))) ∧ (w.heap.size ≤ s_.2.2.2) ∧ (w.heap.size ≤ s_.2.2.2) ∧ (gb503 ≠ s_.2.2.2) ∧ (s_.2.2.2 ≠ gb503) ∧ (Below w.heap.size w w')) ?_ ?_
                                rotate_left
                                · intro hCont
                                  refine two_ (i := 9) (j := 13) (Ni := some 61) (Nj := some 12) #[true, true, true, true, true, true, true, true, true, true, false, false, false, false, false, false] #[true, true, true, true, true, true, true, true, true, false, false, false, false, true, false, false] rfl rfl rfl rfl (two_of HT_.out (by kernel_rfl)) (by decide) (by decide) (fun K hK => ?_) (fun K hK => ?_)
                                  · skip
                                    refine goes_ Tryz.func10 (by kernel_rfl) rfl #[.string (((t484.extract 0 ((rd x6_1 (ji14)) : Int).toNat) ++ (rdOf ByteArray.empty y489 (Go.bits .and .i64 a1 3))) ++ (t484.extract ((rd x6_1 (ji14)) : Int).toNat t484.size))] (by rfl) rfl rfl (by (try simp only [List.map_toArray, List.map_cons, List.map_nil]); first | done | (simp only [hji14]; rfl) | rfl | (simp only [List.length_drop, List.length_take]; rfl)) ?_
                                    with_reducible refine (manifest_Parse.calls (((t484.extract 0 ((rd x6_1 (ji14)) : Int).toNat) ++ (rdOf ByteArray.empty y489 (Go.bits .and .i64 a1 3))) ++ (t484.extract ((rd x6_1 (ji14)) : Int).toNat t484.size)) t504 t507 t510 t513 _ A26.out).mono ?_
                                    rintro e w69 ⟨v505, v508, v511, rfl, ho0, ho1, ho2, hb⟩
                                    refine ⟨_, rfl, ?_⟩
                                    have n0_ := Aside0.mk (Kd.R_below (by (with_reducible repeat (first | apply Kd.R_alloc | apply Kd.R_drewN | apply Kd.R_drew)); exact HO_6.out) hb)
                                    have n1_ := Aside0.mk (Kd.R_elder' (by (with_reducible repeat (first | apply Kd.R_alloc | apply Kd.R_drewN | apply Kd.R_drew)); exact HO491.out) (Kd.R_base ho2) hb)
                                    have n2_ := Aside0.mk (Kd.R_mono (Kd.R_told (Kd.R_told (Kd.R_old (by (with_reducible repeat (first | apply Kd.R_alloc | apply Kd.R_drewN | apply Kd.R_drew)); exact HO495.out) hb) (Kd.R_base ho0)) (Kd.R_base ho2)) (fun _ h_ => h_.1))
                                    have n3_ := Aside0.mk (Kd.R_elder' (by (with_reducible repeat (first | apply Kd.R_alloc | apply Kd.R_drewN | apply Kd.R_drew)); exact HO498.out) (Kd.R_base ho1) hb)
                                    have n4_ := Aside0.mk (Kd.R_elder' (by (with_reducible repeat (first | apply Kd.R_alloc | apply Kd.R_drewN | apply Kd.R_drew)); exact HO501.out) (Kd.R_base ho2) hb)
                                    have n5_ := Aside0.mk (Kd.R_lower (Kd.R_new' (Kd.R_new' (Kd.R_new' ho0 (Kd.R_lt (by (with_reducible repeat (first | apply Kd.R_alloc | apply Kd.R_drewN | apply Kd.R_drew)); exact HO491.out))) (Kd.R_lt (by (with_reducible repeat (first | apply Kd.R_alloc | apply Kd.R_drewN | apply Kd.R_drew)); exact HO495.out))) (Kd.R_lt (by (with_reducible repeat (first | apply Kd.R_alloc | apply Kd.R_drewN | apply Kd.R_drew)); exact HO501.out))) (below_size (by repeat (first | (with_reducible first | exact HB.out | apply below_alloc | apply pw_below_drewN | apply below_drew1 | refine below_set ?_ GE503.out) | exact HB.out))))
                                    have n6_ := Aside0.mk (Kd.R_lower (Kd.R_new' ho1 (Kd.R_lt (by (with_reducible repeat (first | apply Kd.R_alloc | apply Kd.R_drewN | apply Kd.R_drew)); exact HO498.out))) (below_size (by repeat (first | (with_reducible first | exact HB.out | apply below_alloc | apply pw_below_drewN | apply below_drew1 | refine below_set ?_ GE503.out) | exact HB.out))))
                                    have n7_ := Aside0.mk (Kd.R_lower (Kd.R_new' (Kd.R_new' ho2 (Kd.R_lt (by (with_reducible repeat (first | apply Kd.R_alloc | apply Kd.R_drewN | apply Kd.R_drew)); exact HO491.out))) (Kd.R_lt (by (with_reducible repeat (first | apply Kd.R_alloc | apply Kd.R_drewN | apply Kd.R_drew)); exact HO501.out))) (below_size (by repeat (first | (with_reducible first | exact HB.out | apply below_alloc | apply pw_below_drewN | apply below_drew1 | refine below_set ?_ GE503.out) | exact HB.out))))
                                    have n8_ := Aside0.mk (blk_below (g := gb503) (o := .cells #[.slice Ao63 t493.length co63, .slice Ao65 t496.length co65, .slice Ao66 t499.length co66] 26 (0, 0)) (by (with_reducible repeat (first | refine blk_drewN ?_ _ | refine blk_drew ?_ | refine blk_alloc ?_ _)); exact BK503.out) hb)
                                    have n9_ := Aside0.mk (below_step (by repeat (first | (with_reducible first | exact HB.out | apply below_alloc | apply pw_below_drewN | apply below_drew1 | refine below_set ?_ GE503.out) | exact HB.out)) hb)
                                    clear HO_6
                                    clear HO491
                                    clear HO495
                                    clear HO498
                                    clear HO501
                                    clear BK503
                                    clear HB
                                    have HO_6 := n0_
                                    have HO491 := n1_
                                    have HO495 := n2_
                                    have HO498 := n3_
                                    have HO501 := n4_
                                    have HO506 := n5_
                                    have HO509 := n6_
                                    have HO512 := n7_
                                    have BK503 := n8_
                                    have HB := n9_
                                    clear n0_ n1_ n2_ n3_ n4_ n5_ n6_ n7_ n8_ n9_
                                    (try clear hb)
                                    (try clear hb2)
                                    (try clear hk)
                                    (try clear hi)
                                    (try clear ho0)
                                    (try clear ho1)
                                    (try clear ho2)
                                    refine hK.out _ _ trivial (fun hHeld => ?_)
                                    clear hK K
                                    refine norm_ (a' := ?_) ?_ ?_
                                    rotate_left
                                    · show Act.put _ (some 61) _ = _
                                      simp only [Act.put, List.setIfInBounds_toArray, List.set_cons_zero, List.set_cons_succ, i64_w, i32_w]
                                      rfl
                                    refine pure_ (i := 10) (N := some 51) (v := ?_) (a' := ?_) #[true, true, true, true, true, true, true, true, true, true, true, false, false, false, false, false] rfl rfl (any_of HT_.out (by kernel_rfl)) (fun _ _ _ h => h) (Or.inl ⟨by rfl, ?_⟩) ?_ ?_
                                    rotate_left
                                    · intro w'
                                      go_simp
                                      with_reducible rfl
                                    rotate_left
                                    · simp only [Act.put, List.setIfInBounds_toArray, List.set_cons_zero, List.set_cons_succ, i64_w, i32_w]
                                      rfl
                                    refine pure_ (i := 11) (N := some 62) (v := ?_) (a' := ?_) #[true, true, true, true, true, true, true, true, true, true, true, true, false, false, false, false] rfl rfl (any_of HT_.out (by kernel_rfl)) (fun _ _ _ h => h) (Or.inl ⟨by rfl, ?_⟩) ?_ ?_
                                    rotate_left
                                    · intro w'
                                      go_simp
                                      with_reducible rfl
                                    rotate_left
                                    · simp only [Act.put, List.setIfInBounds_toArray, List.set_cons_zero, List.set_cons_succ, i64_w, i32_w]
                                      rfl
                                    refine pure_ (i := 12) (N := some 63) (v := ?_) (a' := ?_) #[true, true, true, true, true, true, true, true, true, true, true, true, true, false, false, false] rfl rfl (any_of HT_.out (by kernel_rfl)) (fun _ _ _ h => h) (Or.inl ⟨by rfl, ?_⟩) ?_ ?_
                                    rotate_left
                                    · intro w'
                                      go_simp
                                      with_reducible rfl
                                    rotate_left
                                    · simp only [Act.put, List.setIfInBounds_toArray, List.set_cons_zero, List.set_cons_succ, i64_w, i32_w]
                                      rfl
                                    refine one_ (i := 13) (N := some 12) #[true, true, true, true, true, true, true, true, true, true, true, true, true, true, false, false] rfl rfl (one_of HT_.out (by kernel_rfl)) (by decide) (fun K hK => ?_)
                                    refine box_step ?hg (N := 12) ?hd (cs := #[.slice none 0 0, .slice none 0 0, .slice none 0 0]) (t := 26) ?hr ?_; (case hd => rfl); (case hg => rfl); (case hr => first | (go_simp; done) | (go_simp; rfl))
                                    intro gb514 hg w70 hbox hb
                                    have n0_ := Aside0.mk (Kd.R_below (by (with_reducible repeat (first | apply Kd.R_alloc | apply Kd.R_drewN | apply Kd.R_drew)); exact HO_6.out) hb)
                                    have n1_ := Aside0.mk (Kd.R_below (by (with_reducible repeat (first | apply Kd.R_alloc | apply Kd.R_drewN | apply Kd.R_drew)); exact HO491.out) hb)
                                    have n2_ := Aside0.mk (Kd.R_below (by (with_reducible repeat (first | apply Kd.R_alloc | apply Kd.R_drewN | apply Kd.R_drew)); exact HO495.out) hb)
                                    have n3_ := Aside0.mk (Kd.R_below (by (with_reducible repeat (first | apply Kd.R_alloc | apply Kd.R_drewN | apply Kd.R_drew)); exact HO498.out) hb)
                                    have n4_ := Aside0.mk (Kd.R_below (by (with_reducible repeat (first | apply Kd.R_alloc | apply Kd.R_drewN | apply Kd.R_drew)); exact HO501.out) hb)
                                    have n5_ := Aside0.mk (Kd.R_below (by (with_reducible repeat (first | apply Kd.R_alloc | apply Kd.R_drewN | apply Kd.R_drew)); exact HO506.out) hb)
                                    have n6_ := Aside0.mk (Kd.R_below (by (with_reducible repeat (first | apply Kd.R_alloc | apply Kd.R_drewN | apply Kd.R_drew)); exact HO509.out) hb)
                                    have n7_ := Aside0.mk (Kd.R_below (by (with_reducible repeat (first | apply Kd.R_alloc | apply Kd.R_drewN | apply Kd.R_drew)); exact HO512.out) hb)
                                    have n8_ := Aside0.mk (blk_below (g := gb503) (o := .cells #[.slice Ao63 t493.length co63, .slice Ao65 t496.length co65, .slice Ao66 t499.length co66] 26 (0, 0)) (by (with_reducible repeat (first | refine blk_drewN ?_ _ | refine blk_drew ?_ | refine blk_alloc ?_ _)); exact BK503.out) hb)
                                    have n9_ := Aside0.mk (below_step (by repeat (first | (with_reducible first | exact HB.out | apply below_alloc | apply pw_below_drewN | apply below_drew1 | refine below_set ?_ GE503.out) | exact HB.out)) hb)
                                    have n10_ := Aside0.mk (hbox)
                                    have n11_ := Aside0.mk ((by rw [hg]; exact (below_size (by repeat (first | (with_reducible first | exact HB.out | apply below_alloc | apply pw_below_drewN | apply below_drew1 | refine below_set ?_ GE503.out) | exact HB.out))) : w.heap.size ≤ gb514))
                                    have n12_ := Aside0.mk ((by rw [hg]; exact (below_size (by repeat (first | (with_reducible first | exact HB.out | apply below_alloc | apply pw_below_drewN | apply below_drew1 | refine below_set ?_ GE503.out) | exact HB.out))) : w.heap.size ≤ gb514))
                                    have n13_ := Aside0.mk ((by rw [hg]; exact Nat.ne_of_lt (blk_lt (g := gb503) (o := .cells #[.slice Ao63 t493.length co63, .slice Ao65 t496.length co65, .slice Ao66 t499.length co66] 26 (0, 0)) (by (with_reducible repeat (first | refine blk_drewN ?_ _ | refine blk_drew ?_ | refine blk_alloc ?_ _)); exact BK503.out)) : gb503 ≠ gb514))
                                    have n14_ := Aside0.mk ((by rw [hg]; exact Nat.ne_of_gt (blk_lt (g := gb503) (o := .cells #[.slice Ao63 t493.length co63, .slice Ao65 t496.length co65, .slice Ao66 t499.length co66] 26 (0, 0)) (by (with_reducible repeat (first | refine blk_drewN ?_ _ | refine blk_drew ?_ | refine blk_alloc ?_ _)); exact BK503.out)) : gb514 ≠ gb503))
                                    clear HO_6
                                    clear HO491
                                    clear HO495
                                    clear HO498
                                    clear HO501
                                    clear HO506
                                    clear HO509
                                    clear HO512
                                    clear BK503
                                    clear HB
                                    have HO_6 := n0_
                                    have HO491 := n1_
                                    have HO495 := n2_
                                    have HO498 := n3_
                                    have HO501 := n4_
                                    have HO506 := n5_
                                    have HO509 := n6_
                                    have HO512 := n7_
                                    have BK503 := n8_
                                    have HB := n9_
                                    have BK514 := n10_
                                    have GW514 := n11_
                                    have GE514 := n12_
                                    have NB503_514 := n13_
                                    have NB514_503 := n14_
                                    clear n0_ n1_ n2_ n3_ n4_ n5_ n6_ n7_ n8_ n9_ n10_ n11_ n12_ n13_ n14_
                                    clear hb hbox hg
                                    refine hK.out _ _ trivial (fun hHeld => ?_)
                                    clear hK K
                                    refine norm_ (a' := ?_) ?_ ?_
                                    rotate_left
                                    · show Act.put _ (some 12) _ = _
                                      simp only [Act.put, List.setIfInBounds_toArray, List.set_cons_zero, List.set_cons_succ, i64_w, i32_w]
                                      rfl
                                    exact norm_ (by simp only [putAll, Act.put, List.setIfInBounds_toArray, List.set_cons_zero, List.set_cons_succ]) (hCont (v505, v508, v511, gb514) _ ⟨(by (with_reducible repeat (first | apply Kd.R_alloc | apply Kd.R_drewN | apply Kd.R_drew)); exact HO491.out), (by (with_reducible repeat (first | apply Kd.R_alloc | apply Kd.R_drewN | apply Kd.R_drew)); exact Kd.R_mono HO495.out (fun _ hk => ⟨hk.1.1.1, ⟨hk.1.1.2, ⟨hk.1.2, hk.2⟩⟩⟩)), (by (with_reducible repeat (first | apply Kd.R_alloc | apply Kd.R_drewN | apply Kd.R_drew)); exact Kd.R_mono HO498.out (fun _ hk => hk.2)), (by (with_reducible repeat (first | apply Kd.R_alloc | apply Kd.R_drewN | apply Kd.R_drew)); exact HO501.out), (by (with_reducible repeat (first | apply Kd.R_alloc | apply Kd.R_drewN | apply Kd.R_drew)); exact Kd.R_mono HO506.out (fun _ hk => ⟨hk.1.1.2, ⟨hk.1.2, ⟨hk.2, hk.1.1.1⟩⟩⟩)), (by (with_reducible repeat (first | apply Kd.R_alloc | apply Kd.R_drewN | apply Kd.R_drew)); exact Kd.R_mono HO509.out (fun _ hk => hk.2)), (by (with_reducible repeat (first | apply Kd.R_alloc | apply Kd.R_drewN | apply Kd.R_drew)); exact Kd.R_mono HO512.out (fun _ hk => ⟨hk.1.2, hk.2⟩)), (by (with_reducible repeat (first | apply Kd.R_alloc | apply Kd.R_drewN | apply Kd.R_drew)); exact HO_6.out), (by (with_reducible repeat (first | refine blk_drewN ?_ _ | refine blk_drew ?_ | refine blk_alloc ?_ _)); exact BK503.out), (by (with_reducible repeat (first | refine blk_drewN ?_ _ | refine blk_drew ?_ | refine blk_alloc ?_ _)); exact BK514.out), GW514.out, GE514.out, NB503_514.out, NB514_503.out, (by repeat (first | (with_reducible first | exact HB.out | apply below_alloc | apply pw_below_drewN | apply below_drew1 | refine below_set ?_ GE503.out | refine below_set ?_ GE514.out) | exact HB.out))⟩)
                                  · skip
                                    refine box_step ?hg (N := 12) ?hd (cs := #[.slice none 0 0, .slice none 0 0, .slice none 0 0]) (t := 26) ?hr ?_; (case hd => rfl); (case hg => rfl); (case hr => first | (go_simp; done) | (go_simp; rfl))
                                    intro gb514 hg w69 hbox hb
                                    have n0_ := Aside0.mk (Kd.R_below (by (with_reducible repeat (first | apply Kd.R_alloc | apply Kd.R_drewN | apply Kd.R_drew)); exact HO_6.out) hb)
                                    have n1_ := Aside0.mk (Kd.R_below (by (with_reducible repeat (first | apply Kd.R_alloc | apply Kd.R_drewN | apply Kd.R_drew)); exact HO491.out) hb)
                                    have n2_ := Aside0.mk (Kd.R_below (by (with_reducible repeat (first | apply Kd.R_alloc | apply Kd.R_drewN | apply Kd.R_drew)); exact HO495.out) hb)
                                    have n3_ := Aside0.mk (Kd.R_below (by (with_reducible repeat (first | apply Kd.R_alloc | apply Kd.R_drewN | apply Kd.R_drew)); exact HO498.out) hb)
                                    have n4_ := Aside0.mk (Kd.R_below (by (with_reducible repeat (first | apply Kd.R_alloc | apply Kd.R_drewN | apply Kd.R_drew)); exact HO501.out) hb)
                                    have n5_ := Aside0.mk (blk_below (g := gb503) (o := .cells #[.slice Ao63 t493.length co63, .slice Ao65 t496.length co65, .slice Ao66 t499.length co66] 26 (0, 0)) (by (with_reducible repeat (first | refine blk_drewN ?_ _ | refine blk_drew ?_ | refine blk_alloc ?_ _)); exact BK503.out) hb)
                                    have n6_ := Aside0.mk (below_step (by repeat (first | (with_reducible first | exact HB.out | apply below_alloc | apply pw_below_drewN | apply below_drew1 | refine below_set ?_ GE503.out) | exact HB.out)) hb)
                                    have n7_ := Aside0.mk (hbox)
                                    have n8_ := Aside0.mk ((by rw [hg]; exact (below_size (by repeat (first | (with_reducible first | exact HB.out | apply below_alloc | apply pw_below_drewN | apply below_drew1 | refine below_set ?_ GE503.out) | exact HB.out))) : w.heap.size ≤ gb514))
                                    have n9_ := Aside0.mk ((by rw [hg]; exact (below_size (by repeat (first | (with_reducible first | exact HB.out | apply below_alloc | apply pw_below_drewN | apply below_drew1 | refine below_set ?_ GE503.out) | exact HB.out))) : w.heap.size ≤ gb514))
                                    have n10_ := Aside0.mk ((by rw [hg]; exact Nat.ne_of_lt (blk_lt (g := gb503) (o := .cells #[.slice Ao63 t493.length co63, .slice Ao65 t496.length co65, .slice Ao66 t499.length co66] 26 (0, 0)) (by (with_reducible repeat (first | refine blk_drewN ?_ _ | refine blk_drew ?_ | refine blk_alloc ?_ _)); exact BK503.out)) : gb503 ≠ gb514))
                                    have n11_ := Aside0.mk ((by rw [hg]; exact Nat.ne_of_gt (blk_lt (g := gb503) (o := .cells #[.slice Ao63 t493.length co63, .slice Ao65 t496.length co65, .slice Ao66 t499.length co66] 26 (0, 0)) (by (with_reducible repeat (first | refine blk_drewN ?_ _ | refine blk_drew ?_ | refine blk_alloc ?_ _)); exact BK503.out)) : gb514 ≠ gb503))
                                    clear HO_6
                                    clear HO491
                                    clear HO495
                                    clear HO498
                                    clear HO501
                                    clear BK503
                                    clear HB
                                    have HO_6 := n0_
                                    have HO491 := n1_
                                    have HO495 := n2_
                                    have HO498 := n3_
                                    have HO501 := n4_
                                    have BK503 := n5_
                                    have HB := n6_
                                    have BK514 := n7_
                                    have GW514 := n8_
                                    have GE514 := n9_
                                    have NB503_514 := n10_
                                    have NB514_503 := n11_
                                    clear n0_ n1_ n2_ n3_ n4_ n5_ n6_ n7_ n8_ n9_ n10_ n11_
                                    clear hb hbox hg
                                    refine hK.out _ _ trivial (fun hHeld => ?_)
                                    clear hK K
                                    refine norm_ (a' := ?_) ?_ ?_
                                    rotate_left
                                    · show Act.put _ (some 12) _ = _
                                      simp only [Act.put, List.setIfInBounds_toArray, List.set_cons_zero, List.set_cons_succ, i64_w, i32_w]
                                      rfl
                                    refine one_ (i := 9) (N := some 61) #[true, true, true, true, true, true, true, true, true, true, false, false, false, true, false, false] rfl rfl (one_of HT_.out (by kernel_rfl)) (by decide) (fun K hK => ?_)
                                    refine goes_ Tryz.func10 (by kernel_rfl) rfl #[.string (((t484.extract 0 ((rd x6_1 (ji14)) : Int).toNat) ++ (rdOf ByteArray.empty y489 (Go.bits .and .i64 a1 3))) ++ (t484.extract ((rd x6_1 (ji14)) : Int).toNat t484.size))] (by rfl) rfl rfl (by (try simp only [List.map_toArray, List.map_cons, List.map_nil]); first | done | (simp only [hji14]; rfl) | rfl | (simp only [List.length_drop, List.length_take]; rfl)) ?_
                                    with_reducible refine (manifest_Parse.calls (((t484.extract 0 ((rd x6_1 (ji14)) : Int).toNat) ++ (rdOf ByteArray.empty y489 (Go.bits .and .i64 a1 3))) ++ (t484.extract ((rd x6_1 (ji14)) : Int).toNat t484.size)) t504 t507 t510 t513 _ A26.out).mono ?_
                                    rintro e w70 ⟨v505, v508, v511, rfl, ho0, ho1, ho2, hb⟩
                                    refine ⟨_, rfl, ?_⟩
                                    have n0_ := Aside0.mk (Kd.R_below (by (with_reducible repeat (first | apply Kd.R_alloc | apply Kd.R_drewN | apply Kd.R_drew)); exact HO_6.out) hb)
                                    have n1_ := Aside0.mk (Kd.R_elder' (by (with_reducible repeat (first | apply Kd.R_alloc | apply Kd.R_drewN | apply Kd.R_drew)); exact HO491.out) (Kd.R_base ho2) hb)
                                    have n2_ := Aside0.mk (Kd.R_mono (Kd.R_told (Kd.R_told (Kd.R_old (by (with_reducible repeat (first | apply Kd.R_alloc | apply Kd.R_drewN | apply Kd.R_drew)); exact HO495.out) hb) (Kd.R_base ho0)) (Kd.R_base ho2)) (fun _ h_ => h_.1))
                                    have n3_ := Aside0.mk (Kd.R_elder' (by (with_reducible repeat (first | apply Kd.R_alloc | apply Kd.R_drewN | apply Kd.R_drew)); exact HO498.out) (Kd.R_base ho1) hb)
                                    have n4_ := Aside0.mk (Kd.R_elder' (by (with_reducible repeat (first | apply Kd.R_alloc | apply Kd.R_drewN | apply Kd.R_drew)); exact HO501.out) (Kd.R_base ho2) hb)
                                    have n5_ := Aside0.mk (Kd.R_lower (Kd.R_new' (Kd.R_new' (Kd.R_new' ho0 (Kd.R_lt (by (with_reducible repeat (first | apply Kd.R_alloc | apply Kd.R_drewN | apply Kd.R_drew)); exact HO491.out))) (Kd.R_lt (by (with_reducible repeat (first | apply Kd.R_alloc | apply Kd.R_drewN | apply Kd.R_drew)); exact HO495.out))) (Kd.R_lt (by (with_reducible repeat (first | apply Kd.R_alloc | apply Kd.R_drewN | apply Kd.R_drew)); exact HO501.out))) (below_size (by repeat (first | (with_reducible first | exact HB.out | apply below_alloc | apply pw_below_drewN | apply below_drew1 | refine below_set ?_ GE503.out | refine below_set ?_ GE514.out) | exact HB.out))))
                                    have n6_ := Aside0.mk (Kd.R_lower (Kd.R_new' ho1 (Kd.R_lt (by (with_reducible repeat (first | apply Kd.R_alloc | apply Kd.R_drewN | apply Kd.R_drew)); exact HO498.out))) (below_size (by repeat (first | (with_reducible first | exact HB.out | apply below_alloc | apply pw_below_drewN | apply below_drew1 | refine below_set ?_ GE503.out | refine below_set ?_ GE514.out) | exact HB.out))))
                                    have n7_ := Aside0.mk (Kd.R_lower (Kd.R_new' (Kd.R_new' ho2 (Kd.R_lt (by (with_reducible repeat (first | apply Kd.R_alloc | apply Kd.R_drewN | apply Kd.R_drew)); exact HO491.out))) (Kd.R_lt (by (with_reducible repeat (first | apply Kd.R_alloc | apply Kd.R_drewN | apply Kd.R_drew)); exact HO501.out))) (below_size (by repeat (first | (with_reducible first | exact HB.out | apply below_alloc | apply pw_below_drewN | apply below_drew1 | refine below_set ?_ GE503.out | refine below_set ?_ GE514.out) | exact HB.out))))
                                    have n8_ := Aside0.mk (blk_below (g := gb503) (o := .cells #[.slice Ao63 t493.length co63, .slice Ao65 t496.length co65, .slice Ao66 t499.length co66] 26 (0, 0)) (by (with_reducible repeat (first | refine blk_drewN ?_ _ | refine blk_drew ?_ | refine blk_alloc ?_ _)); exact BK503.out) hb)
                                    have n9_ := Aside0.mk (blk_below (g := gb514) (o := .cells #[.slice none 0 0, .slice none 0 0, .slice none 0 0] 26 (0, 0)) (by (with_reducible repeat (first | refine blk_drewN ?_ _ | refine blk_drew ?_ | refine blk_alloc ?_ _)); exact BK514.out) hb)
                                    have n10_ := Aside0.mk (below_step (by repeat (first | (with_reducible first | exact HB.out | apply below_alloc | apply pw_below_drewN | apply below_drew1 | refine below_set ?_ GE503.out | refine below_set ?_ GE514.out) | exact HB.out)) hb)
                                    clear HO_6
                                    clear HO491
                                    clear HO495
                                    clear HO498
                                    clear HO501
                                    clear BK503
                                    clear BK514
                                    clear HB
                                    have HO_6 := n0_
                                    have HO491 := n1_
                                    have HO495 := n2_
                                    have HO498 := n3_
                                    have HO501 := n4_
                                    have HO506 := n5_
                                    have HO509 := n6_
                                    have HO512 := n7_
                                    have BK503 := n8_
                                    have BK514 := n9_
                                    have HB := n10_
                                    clear n0_ n1_ n2_ n3_ n4_ n5_ n6_ n7_ n8_ n9_ n10_
                                    (try clear hb)
                                    (try clear hb2)
                                    (try clear hk)
                                    (try clear hi)
                                    (try clear ho0)
                                    (try clear ho1)
                                    (try clear ho2)
                                    refine hK.out _ _ trivial (fun hHeld => ?_)
                                    clear hK K
                                    refine norm_ (a' := ?_) ?_ ?_
                                    rotate_left
                                    · show Act.put _ (some 61) _ = _
                                      simp only [Act.put, List.setIfInBounds_toArray, List.set_cons_zero, List.set_cons_succ, i64_w, i32_w]
                                      rfl
                                    refine pure_ (i := 10) (N := some 51) (v := ?_) (a' := ?_) #[true, true, true, true, true, true, true, true, true, true, true, false, false, true, false, false] rfl rfl (any_of HT_.out (by kernel_rfl)) (fun _ _ _ h => h) (Or.inl ⟨by rfl, ?_⟩) ?_ ?_
                                    rotate_left
                                    · intro w'
                                      go_simp
                                      with_reducible rfl
                                    rotate_left
                                    · simp only [Act.put, List.setIfInBounds_toArray, List.set_cons_zero, List.set_cons_succ, i64_w, i32_w]
                                      rfl
                                    refine pure_ (i := 11) (N := some 62) (v := ?_) (a' := ?_) #[true, true, true, true, true, true, true, true, true, true, true, true, false, true, false, false] rfl rfl (any_of HT_.out (by kernel_rfl)) (fun _ _ _ h => h) (Or.inl ⟨by rfl, ?_⟩) ?_ ?_
                                    rotate_left
                                    · intro w'
                                      go_simp
                                      with_reducible rfl
                                    rotate_left
                                    · simp only [Act.put, List.setIfInBounds_toArray, List.set_cons_zero, List.set_cons_succ, i64_w, i32_w]
                                      rfl
                                    refine pure_ (i := 12) (N := some 63) (v := ?_) (a' := ?_) #[true, true, true, true, true, true, true, true, true, true, true, true, true, true, false, false] rfl rfl (any_of HT_.out (by kernel_rfl)) (fun _ _ _ h => h) (Or.inl ⟨by rfl, ?_⟩) ?_ ?_
                                    rotate_left
                                    · intro w'
                                      go_simp
                                      with_reducible rfl
                                    rotate_left
                                    · simp only [Act.put, List.setIfInBounds_toArray, List.set_cons_zero, List.set_cons_succ, i64_w, i32_w]
                                      rfl
                                    exact norm_ (by simp only [putAll, Act.put, List.setIfInBounds_toArray, List.set_cons_zero, List.set_cons_succ]) (hCont (v505, v508, v511, gb514) _ ⟨(by (with_reducible repeat (first | apply Kd.R_alloc | apply Kd.R_drewN | apply Kd.R_drew)); exact HO491.out), (by (with_reducible repeat (first | apply Kd.R_alloc | apply Kd.R_drewN | apply Kd.R_drew)); exact Kd.R_mono HO495.out (fun _ hk => ⟨hk.1.1.1, ⟨hk.1.1.2, ⟨hk.1.2, hk.2⟩⟩⟩)), (by (with_reducible repeat (first | apply Kd.R_alloc | apply Kd.R_drewN | apply Kd.R_drew)); exact Kd.R_mono HO498.out (fun _ hk => hk.2)), (by (with_reducible repeat (first | apply Kd.R_alloc | apply Kd.R_drewN | apply Kd.R_drew)); exact HO501.out), (by (with_reducible repeat (first | apply Kd.R_alloc | apply Kd.R_drewN | apply Kd.R_drew)); exact Kd.R_mono HO506.out (fun _ hk => ⟨hk.1.1.2, ⟨hk.1.2, ⟨hk.2, hk.1.1.1⟩⟩⟩)), (by (with_reducible repeat (first | apply Kd.R_alloc | apply Kd.R_drewN | apply Kd.R_drew)); exact Kd.R_mono HO509.out (fun _ hk => hk.2)), (by (with_reducible repeat (first | apply Kd.R_alloc | apply Kd.R_drewN | apply Kd.R_drew)); exact Kd.R_mono HO512.out (fun _ hk => ⟨hk.1.2, hk.2⟩)), (by (with_reducible repeat (first | apply Kd.R_alloc | apply Kd.R_drewN | apply Kd.R_drew)); exact HO_6.out), (by (with_reducible repeat (first | refine blk_drewN ?_ _ | refine blk_drew ?_ | refine blk_alloc ?_ _)); exact BK503.out), (by (with_reducible repeat (first | refine blk_drewN ?_ _ | refine blk_drew ?_ | refine blk_alloc ?_ _)); exact BK514.out), GW514.out, GE514.out, NB503_514.out, NB514_503.out, (by repeat (first | (with_reducible first | exact HB.out | apply below_alloc | apply pw_below_drewN | apply below_drew1 | refine below_set ?_ GE503.out | refine below_set ?_ GE514.out) | exact HB.out))⟩)
                                rintro ⟨v505, v508, v511, gb514⟩ w71 ⟨h0_, h1_, h2_, h3_, h4_, h5_, h6_, h7_, h8_, h9_, h10_, h11_, h12_, h13_, h14_⟩
                                have n0_ : Aside0 (Kd.R Kd.string 9 w71 w.heap.size (fun k_ => some k_ ≠ (.slice Ao66 t499.length co66 : Value).ownBlock ∧ some k_ ≠ (v511 : Value).ownBlock) (.slice (some ad492) y489.length co60) y489) := ⟨h0_⟩
                                have n1_ : Aside0 (Kd.R k42 42 w71 w.heap.size (fun k_ => some k_ ≠ (.slice (some ad492) y489.length co60 : Value).ownBlock ∧ some k_ ≠ (.slice Ao66 t499.length co66 : Value).ownBlock ∧ some k_ ≠ (v505 : Value).ownBlock ∧ some k_ ≠ (v511 : Value).ownBlock) (.slice Ao63 t493.length co63) t493) := ⟨h1_⟩
                                have n2_ : Aside0 (Kd.R k44 44 w71 w.heap.size (fun k_ => some k_ ≠ (v508 : Value).ownBlock) (.slice Ao65 t496.length co65) t496) := ⟨h2_⟩
                                have n3_ : Aside0 (Kd.R Kd.string 9 w71 w.heap.size (fun k_ => some k_ ≠ (.slice (some ad492) y489.length co60 : Value).ownBlock ∧ some k_ ≠ (v511 : Value).ownBlock) (.slice Ao66 t499.length co66) t499) := ⟨h3_⟩
                                have n4_ : Aside0 (Kd.R k42 42 w71 w.heap.size (fun k_ => some k_ ≠ (.slice (some ad492) y489.length co60 : Value).ownBlock ∧ some k_ ≠ (.slice Ao63 t493.length co63 : Value).ownBlock ∧ some k_ ≠ (.slice Ao66 t499.length co66 : Value).ownBlock ∧ some k_ ≠ (v511 : Value).ownBlock) v505 t504) := ⟨h4_⟩
                                have n5_ : Aside0 (Kd.R k44 44 w71 w.heap.size (fun k_ => some k_ ≠ (.slice Ao65 t496.length co65 : Value).ownBlock) v508 t507) := ⟨h5_⟩
                                have n6_ : Aside0 (Kd.R Kd.string 9 w71 w.heap.size (fun k_ => some k_ ≠ (.slice (some ad492) y489.length co60 : Value).ownBlock ∧ some k_ ≠ (.slice Ao66 t499.length co66 : Value).ownBlock) v511 t510) := ⟨h6_⟩
                                have n7_ : Aside0 (Kd.R (Kd.int .i64) 3 w71 w.heap.size (fun _ => True) (.slice (some ad488) x6_1.length co57) x6_1) := ⟨h7_⟩
                                have n8_ : Aside0 (w71.heap[gb503]? = some (.cells #[.slice Ao63 t493.length co63, .slice Ao65 t496.length co65, .slice Ao66 t499.length co66] 26 (0, 0))) := ⟨h8_⟩
                                have n9_ : Aside0 (w71.heap[gb514]? = some (.cells #[.slice none 0 0, .slice none 0 0, .slice none 0 0] 26 (0, 0))) := ⟨h9_⟩
                                have n10_ : Aside0 (w.heap.size ≤ gb514) := ⟨h10_⟩
                                have n11_ : Aside0 (w.heap.size ≤ gb514) := ⟨h11_⟩
                                have n12_ : Aside0 (gb503 ≠ gb514) := ⟨h12_⟩
                                have n13_ : Aside0 (gb514 ≠ gb503) := ⟨h13_⟩
                                have n14_ : Aside0 (Below w.heap.size w w71) := ⟨h14_⟩
                                clear HO_6
                                clear HO491
                                clear HO495
                                clear HO498
                                clear HO501
                                clear BK503
                                clear HB
                                clear h0_ h1_ h2_ h3_ h4_ h5_ h6_ h7_ h8_ h9_ h10_ h11_ h12_ h13_ h14_
                                have HO491 := n0_
                                have HO495 := n1_
                                have HO498 := n2_
                                have HO501 := n3_
                                have HO506 := n4_
                                have HO509 := n5_
                                have HO512 := n6_
                                have HO_6 := n7_
                                have BK503 := n8_
                                have BK514 := n9_
                                have GW514 := n10_
                                have GE514 := n11_
                                have NB503_514 := n12_
                                have NB514_503 := n13_
                                have HB := n14_
                                clear n0_ n1_ n2_ n3_ n4_ n5_ n6_ n7_ n8_ n9_ n10_ n11_ n12_ n13_ n14_
                                have hHeld := trivial
                                obtain ⟨Ao72, co72, eo72⟩ := Kd.R_slice HO506.out
                                (first | subst eo72 | (injection eo72 with f1_ f2_ f3_; have f4_ := f1_.symm; have f5_ := f3_.symm; clear f1_ f2_ f3_; subst f4_; subst f5_))
                                obtain ⟨Ao74, co74, eo74⟩ := Kd.R_slice HO509.out
                                (first | subst eo74 | (injection eo74 with f1_ f2_ f3_; have f4_ := f1_.symm; have f5_ := f3_.symm; clear f1_ f2_ f3_; subst f4_; subst f5_))
                                obtain ⟨Ao76, co76, eo76⟩ := Kd.R_slice HO512.out
                                (first | subst eo76 | (injection eo76 with f1_ f2_ f3_; have f4_ := f1_.symm; have f5_ := f3_.symm; clear f1_ f2_ f3_; subst f4_; subst f5_))
                                refine norm_ (a' := ?_) ?_ ?_
                                rotate_left
                                · simp only [putAll, Act.put, List.setIfInBounds_toArray, List.set_cons_zero, List.set_cons_succ]
                                  rfl
                                refine one_ (i := 14) (N := none) #[true, true, true, true, true, true, true, true, true, true, true, true, true, true, true, false] rfl rfl (one_of HT_.out (by kernel_rfl)) (by decide) (fun K hK => ?_)
                                have hs73 : w71.cell? ⟨gb514, 0, none⟩ = some (.slice none 0 0) := (blk_cell BK514.out 0).trans rfl
                                have hfs73 := blk_frozen BK514.out 0
                                have hns73_0 := NB503_514.out
                                have hms73_0 := NB514_503.out
                                have hs75 : w71.cell? ⟨gb514, 1, none⟩ = some (.slice none 0 0) := (blk_cell BK514.out 1).trans rfl
                                have hfs75 := blk_frozen BK514.out 1
                                have hns75_0 := NB503_514.out
                                have hms75_0 := NB514_503.out
                                have hs77 : w71.cell? ⟨gb514, 2, none⟩ = some (.slice none 0 0) := (blk_cell BK514.out 2).trans rfl
                                have hfs77 := blk_frozen BK514.out 2
                                have hns77_0 := NB503_514.out
                                have hms77_0 := NB514_503.out
                                refine skip_ (w1 := ?_) (by rfl) rfl ?_ ?_
                                rotate_left
                                · go_simp
                                  rfl
                                refine hK.out _ _ trivial (fun hHeld => ?_)
                                clear hK K
                                refine pure_ (i := 15) (N := some 13) (v := ?_) (a' := ?_) #[true, true, true, true, true, true, true, true, true, true, true, true, true, true, true, true] rfl rfl (any_of HT_.out (by kernel_rfl)) (fun _ _ _ h => h) (Or.inl ⟨by rfl, ?_⟩) ?_ ?_
                                rotate_left
                                · intro w'
                                  go_simp
                                  with_reducible rfl
                                rotate_left
                                · simp only [Act.put, List.setIfInBounds_toArray, List.set_cons_zero, List.set_cons_succ, i64_w, i32_w]
                                  rfl
                                refine done_ (done_of HT_.out (by kernel_rfl)) ?_
                                try go_wp2_with (first | ((with_reducible refine gate_callee (f := 13) rfl ?_); refine goesL_ (some 65) rfl rfl Tryz.func13 (by kernel_rfl) rfl #[.int .i64 t502] rfl (by (try simp only [List.map_toArray, List.map_cons, List.map_nil]); first | done | rfl | (simp only [List.length_drop, List.length_take]; rfl)) ?_; (with_reducible refine (cruciblelaw0_Num.calls t502 t515 _ A27.out).mono ?_); rintro e w' ⟨rfl, ⟨nd, rfl⟩⟩; refine ⟨_, rfl, ?_⟩) | (go_at_call 13; (with_reducible refine (cruciblelaw0_Num.calls t513 t516 _ A29.out).mono ?_); rintro e w' ⟨rfl, ⟨nd, rfl⟩⟩))
                                go_ret
                                exact ⟨by first | rfl | (simp [errW_none, errW_some] <;> rfl) | (simp only [← hji14]; first | rfl | (simp [errW_none, errW_some] <;> rfl)) | (simp [*, errW_none, errW_some] <;> rfl), by repeat (first | (with_reducible first | exact HB.out | apply below_alloc | apply pw_below_drewN | apply below_drew1 | refine below_set ?_ GE503.out | refine below_set ?_ GE514.out) | exact HB.out)⟩
                            · rw [if_neg c28] at H
                              have c28b0 : (t515 == 0) = false := beq_eq_false_iff_ne.mpr c28
                              have c28b1 : (t515 != 0) = true := bne_iff_ne.mpr c28
                              obtain rfl := Option.some.inj H
                              obtain ⟨Ao78, co78, eo78⟩ := Kd.R_slice HO_6.out
                              subst eo78
                              have p488 : 0 ≤ ((ji14) : Int) := of_decide_eq_true (by first | (with_reducible assumption) | assumption)
                              have q488 : (ji14) < (x6_1.length : Int) := of_decide_eq_true (by first | (with_reducible assumption) | assumption)
                              obtain ⟨ad488, e488, hx488_0⟩ := Kd.at_int (Kd.R_reads' HO_6.out).2.2 (ji14) p488 q488
                              cases e488
                              replace p488 := eq_true p488
                              replace q488 := eq_true q488
                              try go_wp2_with (first | ((with_reducible refine gate_dst (N := 41) rfl ?_); refine Kd.R_lit Kd.string _ 9 ?hg (N := 41) ?hd (xs := ([(⟨#[10]⟩ : ByteArray), (⟨#[10, 32, 32, 35, 32, 110, 111, 32, 36, 120]⟩ : ByteArray), (⟨#[32, 32]⟩ : ByteArray), (⟨#[10, 32, 32, 32, 32, 32, 32]⟩ : ByteArray)] : List ByteArray)) (inner := [.string (⟨#[10]⟩ : ByteArray), .string (⟨#[10, 32, 32, 35, 32, 110, 111, 32, 36, 120]⟩ : ByteArray), .string (⟨#[32, 32]⟩ : ByteArray), .string (⟨#[10, 32, 32, 32, 32, 32, 32]⟩ : ByteArray)]) (ok := fun _ => True) (okp := fun _ => True) ?hr ?hp (fun _ hk => hk) trivial (Below.refl _ _) (Nat.le_refl _) (by simp) ?_; (case hd => rfl); (case hg => rfl); (case hr => first | (go_simp; done) | (go_simp; rfl)); (case hp => exact (Reps.one (show Kd.M Kd.string _ _ _ (⟨#[10]⟩ : ByteArray) [.string (⟨#[10]⟩ : ByteArray)] from rfl) (Reps.one (show Kd.M Kd.string _ _ _ (⟨#[10, 32, 32, 35, 32, 110, 111, 32, 36, 120]⟩ : ByteArray) [.string (⟨#[10, 32, 32, 35, 32, 110, 111, 32, 36, 120]⟩ : ByteArray)] from rfl) (Reps.one (show Kd.M Kd.string _ _ _ (⟨#[32, 32]⟩ : ByteArray) [.string (⟨#[32, 32]⟩ : ByteArray)] from rfl) (Reps.one (show Kd.M Kd.string _ _ _ (⟨#[10, 32, 32, 32, 32, 32, 32]⟩ : ByteArray) [.string (⟨#[10, 32, 32, 32, 32, 32, 32]⟩ : ByteArray)] from rfl) (Reps.none _ _)))))); intro v490 w79 ho80 hb hg_ hnew_; clear hg_ hnew_; (first | rw [← Ny489.out] at ho80 | (simp only [Int.reduceToNat] at ho80; rw [← Ny489.out] at ho80)); have n0_ := Aside0.mk (Kd.R_below (by (with_reducible repeat (first | apply Kd.R_alloc | apply Kd.R_drewN | apply Kd.R_drew)); exact HO_6.out) hb); have n1_ := Aside0.mk (Kd.R_lower ho80 (below_size (by repeat (first | (with_reducible first | exact HB.out | apply below_alloc | apply pw_below_drewN | apply below_drew1) | exact HB.out)))); have n2_ := Aside0.mk (below_step (by repeat (first | (with_reducible first | exact HB.out | apply below_alloc | apply pw_below_drewN | apply below_drew1) | exact HB.out)) hb); clear HO_6; clear HB; have HO_6 := n0_; have HO491 := n1_; have HB := n2_; clear n0_ n1_ n2_; clear hb ho80; obtain ⟨Ao81, co81, eo81⟩ := Kd.R_slice HO491.out; subst eo81; have p492 : 0 ≤ ((Go.bits .and .i64 a1 3) : Int) := of_decide_eq_true (by first | (with_reducible assumption) | assumption); have q492 : (Go.bits .and .i64 a1 3) < (y489.length : Int) := of_decide_eq_true (by first | (with_reducible assumption) | assumption); obtain ⟨ad492, e492, hx492_0⟩ := Kd.at_string (Kd.R_reads' HO491.out).2.2 (Go.bits .and .i64 a1 3) p492 q492; cases e492; replace p492 := eq_true p492; replace q492 := eq_true q492) | ((with_reducible refine gate_callee (f := 10) rfl ?_); refine goesL_ (some 48) rfl rfl Tryz.func10 (by kernel_rfl) rfl #[.string t484] rfl (by (try simp only [List.map_toArray, List.map_cons, List.map_nil]); first | done | rfl | (simp only [List.length_drop, List.length_take]; rfl)) ?_; (with_reducible refine (manifest_Parse.calls t484 t493 t496 t499 t502 _ A19.out).mono ?_); rintro e w82 ⟨v494, v497, v500, rfl, ho0, ho1, ho2, hb⟩; refine ⟨_, rfl, ?_⟩; have n0_ := Aside0.mk (Kd.R_below (by (with_reducible repeat (first | apply Kd.R_alloc | apply Kd.R_drewN | apply Kd.R_drew)); exact HO_6.out) hb); have n1_ := Aside0.mk (Kd.R_elder' (by (with_reducible repeat (first | apply Kd.R_alloc | apply Kd.R_drewN | apply Kd.R_drew)); exact HO491.out) (Kd.R_base ho2) hb); have n2_ := Aside0.mk (Kd.R_lower (Kd.R_new' ho0 (Kd.R_lt (by (with_reducible repeat (first | apply Kd.R_alloc | apply Kd.R_drewN | apply Kd.R_drew)); exact HO491.out))) (below_size (by repeat (first | (with_reducible first | exact HB.out | apply below_alloc | apply pw_below_drewN | apply below_drew1) | exact HB.out)))); have n3_ := Aside0.mk (Kd.R_lower ho1 (below_size (by repeat (first | (with_reducible first | exact HB.out | apply below_alloc | apply pw_below_drewN | apply below_drew1) | exact HB.out)))); have n4_ := Aside0.mk (Kd.R_lower (Kd.R_new' ho2 (Kd.R_lt (by (with_reducible repeat (first | apply Kd.R_alloc | apply Kd.R_drewN | apply Kd.R_drew)); exact HO491.out))) (below_size (by repeat (first | (with_reducible first | exact HB.out | apply below_alloc | apply pw_below_drewN | apply below_drew1) | exact HB.out)))); have n5_ := Aside0.mk (below_step (by repeat (first | (with_reducible first | exact HB.out | apply below_alloc | apply pw_below_drewN | apply below_drew1) | exact HB.out)) hb); clear HO_6; clear HO491; clear HB; have HO_6 := n0_; have HO491 := n1_; have HO495 := n2_; have HO498 := n3_; have HO501 := n4_; have HB := n5_; clear n0_ n1_ n2_ n3_ n4_ n5_; (try clear hb); (try clear hb2); (try clear hk); (try clear hi); (try clear ho0); (try clear ho1); (try clear ho2)) | ((with_reducible refine gate_dst (N := 10) rfl ?_); refine box_event ?hg (N := 10) ?hd (cs := #[.slice none 0 0, .slice none 0 0, .slice none 0 0]) (t := 26) ?hr ?_; (case hd => rfl); (case hg => rfl); (case hr => first | (go_simp; done) | (go_simp; rfl)); intro gb503 hg w83 hbox hb; have n0_ := Aside0.mk (Kd.R_below (by (with_reducible repeat (first | apply Kd.R_alloc | apply Kd.R_drewN | apply Kd.R_drew)); exact HO_6.out) hb); have n1_ := Aside0.mk (Kd.R_below (by (with_reducible repeat (first | apply Kd.R_alloc | apply Kd.R_drewN | apply Kd.R_drew)); exact HO491.out) hb); have n2_ := Aside0.mk (Kd.R_below (by (with_reducible repeat (first | apply Kd.R_alloc | apply Kd.R_drewN | apply Kd.R_drew)); exact HO495.out) hb); have n3_ := Aside0.mk (Kd.R_below (by (with_reducible repeat (first | apply Kd.R_alloc | apply Kd.R_drewN | apply Kd.R_drew)); exact HO498.out) hb); have n4_ := Aside0.mk (Kd.R_below (by (with_reducible repeat (first | apply Kd.R_alloc | apply Kd.R_drewN | apply Kd.R_drew)); exact HO501.out) hb); have n5_ := Aside0.mk (below_step (by repeat (first | (with_reducible first | exact HB.out | apply below_alloc | apply pw_below_drewN | apply below_drew1) | exact HB.out)) hb); have n6_ := Aside0.mk (hbox); have n7_ := Aside0.mk ((by rw [hg]; exact (below_size (by repeat (first | (with_reducible first | exact HB.out | apply below_alloc | apply pw_below_drewN | apply below_drew1) | exact HB.out))) : w.heap.size ≤ gb503)); have n8_ := Aside0.mk ((by rw [hg]; exact (below_size (by repeat (first | (with_reducible first | exact HB.out | apply below_alloc | apply pw_below_drewN | apply below_drew1) | exact HB.out))) : w.heap.size ≤ gb503)); clear HO_6; clear HO491; clear HO495; clear HO498; clear HO501; clear HB; have HO_6 := n0_; have HO491 := n1_; have HO495 := n2_; have HO498 := n3_; have HO501 := n4_; have HB := n5_; have BK503 := n6_; have GW503 := n7_; have GE503 := n8_; clear n0_ n1_ n2_ n3_ n4_ n5_ n6_ n7_ n8_; clear hb hbox hg; obtain ⟨Ao84, co84, eo84⟩ := Kd.R_slice HO495.out; subst eo84; have hcz85_0 : w83.cell? ⟨gb503, 0, none⟩ = some (.slice none 0 0) := (blk_cell BK503.out 0).trans rfl; have hcz85_1 : w83.cell? ⟨gb503, 1, none⟩ = some (.slice none 0 0) := (blk_cell BK503.out 1).trans rfl; have hcz85_2 : w83.cell? ⟨gb503, 2, none⟩ = some (.slice none 0 0) := (blk_cell BK503.out 2).trans rfl; have hfz85_0 := blk_frozen BK503.out 0; have hfz85_1 := blk_frozen BK503.out 1; have hfz85_2 := blk_frozen BK503.out 2; obtain ⟨Ao86, co86, eo86⟩ := Kd.R_slice HO498.out; subst eo86; obtain ⟨Ao87, co87, eo87⟩ := Kd.R_slice HO501.out; subst eo87))
                              have n0_ : Aside0 (Kd.R (Kd.int .i64) 3 (((w83.setCell ⟨gb503, 0, none⟩ (.slice Ao84 t493.length co84)).setCell ⟨gb503, 1, none⟩ (.slice Ao86 t496.length co86)).setCell ⟨gb503, 2, none⟩ (.slice Ao87 t499.length co87)) w.heap.size (fun _ => True) (.slice (some ad488) x6_1.length co78) x6_1) := ⟨by (with_reducible repeat (first | apply Kd.R_alloc | apply Kd.R_drewN | apply Kd.R_drew)); exact Kd.R_mono (Kd.R_far (p := ⟨gb503, 2, none⟩) (Kd.R_far (p := ⟨gb503, 1, none⟩) (Kd.R_far (p := ⟨gb503, 0, none⟩) (Kd.R_types HO_6.out BK503.out (by decide)) (fun _ hk => hk.2) (.slice Ao84 t493.length co84)) (fun _ hk => hk.2) (.slice Ao86 t496.length co86)) (fun _ hk => hk.2) (.slice Ao87 t499.length co87)) (fun _ hk => trivial)⟩
                              have n1_ : Aside0 (Kd.R Kd.string 9 (((w83.setCell ⟨gb503, 0, none⟩ (.slice Ao84 t493.length co84)).setCell ⟨gb503, 1, none⟩ (.slice Ao86 t496.length co86)).setCell ⟨gb503, 2, none⟩ (.slice Ao87 t499.length co87)) w.heap.size (fun k_ => some k_ ≠ (.slice Ao87 t499.length co87 : Value).ownBlock) (.slice (some ad492) y489.length co81) y489) := ⟨by (with_reducible repeat (first | apply Kd.R_alloc | apply Kd.R_drewN | apply Kd.R_drew)); exact Kd.R_mono (Kd.R_far (p := ⟨gb503, 2, none⟩) (Kd.R_far (p := ⟨gb503, 1, none⟩) (Kd.R_far (p := ⟨gb503, 0, none⟩) (Kd.R_types HO491.out BK503.out (by decide)) (fun _ hk => hk.2) (.slice Ao84 t493.length co84)) (fun _ hk => hk.2) (.slice Ao86 t496.length co86)) (fun _ hk => hk.2) (.slice Ao87 t499.length co87)) (fun _ hk => hk.1.2)⟩
                              have n2_ : Aside0 (Kd.R k42 42 (((w83.setCell ⟨gb503, 0, none⟩ (.slice Ao84 t493.length co84)).setCell ⟨gb503, 1, none⟩ (.slice Ao86 t496.length co86)).setCell ⟨gb503, 2, none⟩ (.slice Ao87 t499.length co87)) w.heap.size (fun k_ => some k_ ≠ (.slice (some ad492) y489.length co81 : Value).ownBlock ∧ some k_ ≠ (.slice Ao87 t499.length co87 : Value).ownBlock) (.slice Ao84 t493.length co84) t493) := ⟨by (with_reducible repeat (first | apply Kd.R_alloc | apply Kd.R_drewN | apply Kd.R_drew)); exact Kd.R_mono (Kd.R_far (p := ⟨gb503, 2, none⟩) (Kd.R_far (p := ⟨gb503, 1, none⟩) (Kd.R_far (p := ⟨gb503, 0, none⟩) (Kd.R_types HO495.out BK503.out (by decide)) (fun _ hk => hk.2) (.slice Ao84 t493.length co84)) (fun _ hk => hk.2) (.slice Ao86 t496.length co86)) (fun _ hk => hk.2) (.slice Ao87 t499.length co87)) (fun _ hk => ⟨hk.1.2, hk.1.1⟩)⟩
                              have n3_ : Aside0 (Kd.R k44 44 (((w83.setCell ⟨gb503, 0, none⟩ (.slice Ao84 t493.length co84)).setCell ⟨gb503, 1, none⟩ (.slice Ao86 t496.length co86)).setCell ⟨gb503, 2, none⟩ (.slice Ao87 t499.length co87)) w.heap.size (fun _ => True) (.slice Ao86 t496.length co86) t496) := ⟨by (with_reducible repeat (first | apply Kd.R_alloc | apply Kd.R_drewN | apply Kd.R_drew)); exact Kd.R_mono (Kd.R_far (p := ⟨gb503, 2, none⟩) (Kd.R_far (p := ⟨gb503, 1, none⟩) (Kd.R_far (p := ⟨gb503, 0, none⟩) (Kd.R_types HO498.out BK503.out (by decide)) (fun _ hk => hk.2) (.slice Ao84 t493.length co84)) (fun _ hk => hk.2) (.slice Ao86 t496.length co86)) (fun _ hk => hk.2) (.slice Ao87 t499.length co87)) (fun _ hk => trivial)⟩
                              have n4_ : Aside0 (Kd.R Kd.string 9 (((w83.setCell ⟨gb503, 0, none⟩ (.slice Ao84 t493.length co84)).setCell ⟨gb503, 1, none⟩ (.slice Ao86 t496.length co86)).setCell ⟨gb503, 2, none⟩ (.slice Ao87 t499.length co87)) w.heap.size (fun k_ => some k_ ≠ (.slice (some ad492) y489.length co81 : Value).ownBlock) (.slice Ao87 t499.length co87) t499) := ⟨by (with_reducible repeat (first | apply Kd.R_alloc | apply Kd.R_drewN | apply Kd.R_drew)); exact Kd.R_mono (Kd.R_far (p := ⟨gb503, 2, none⟩) (Kd.R_far (p := ⟨gb503, 1, none⟩) (Kd.R_far (p := ⟨gb503, 0, none⟩) (Kd.R_types HO501.out BK503.out (by decide)) (fun _ hk => hk.2) (.slice Ao84 t493.length co84)) (fun _ hk => hk.2) (.slice Ao86 t496.length co86)) (fun _ hk => hk.2) (.slice Ao87 t499.length co87)) (fun _ hk => hk.1.2)⟩
                              have n5_ : Aside0 ((((w83.setCell ⟨gb503, 0, none⟩ (.slice Ao84 t493.length co84)).setCell ⟨gb503, 1, none⟩ (.slice Ao86 t496.length co86)).setCell ⟨gb503, 2, none⟩ (.slice Ao87 t499.length co87)).heap[gb503]? = some (.cells #[.slice Ao84 t493.length co84, .slice Ao86 t496.length co86, .slice Ao87 t499.length co87] 26 (0, 0))) := ⟨by (with_reducible repeat (first | refine blk_drewN ?_ _ | refine blk_drew ?_ | refine blk_alloc ?_ _)); refine blk_put (cs := #[.slice Ao84 t493.length co84, .slice Ao86 t496.length co86, .slice none 0 0]) ?_ 2 _ rfl; (with_reducible repeat (first | refine blk_drewN ?_ _ | refine blk_drew ?_ | refine blk_alloc ?_ _)); refine blk_put (cs := #[.slice Ao84 t493.length co84, .slice none 0 0, .slice none 0 0]) ?_ 1 _ rfl; (with_reducible repeat (first | refine blk_drewN ?_ _ | refine blk_drew ?_ | refine blk_alloc ?_ _)); refine blk_put (cs := #[.slice none 0 0, .slice none 0 0, .slice none 0 0]) ?_ 0 _ rfl; (with_reducible repeat (first | refine blk_drewN ?_ _ | refine blk_drew ?_ | refine blk_alloc ?_ _)); exact BK503.out⟩
                              have n6_ : Aside0 (Below w.heap.size w (((w83.setCell ⟨gb503, 0, none⟩ (.slice Ao84 t493.length co84)).setCell ⟨gb503, 1, none⟩ (.slice Ao86 t496.length co86)).setCell ⟨gb503, 2, none⟩ (.slice Ao87 t499.length co87))) := ⟨by repeat (first | (with_reducible first | exact HB.out | apply below_alloc | apply pw_below_drewN | apply below_drew1 | refine below_set ?_ GE503.out) | exact HB.out)⟩
                              (try clear HO_6)
                              (try clear HO491)
                              (try clear HO495)
                              (try clear HO498)
                              (try clear HO501)
                              (try clear BK503)
                              (try clear HB)
                              generalize (((w83.setCell ⟨gb503, 0, none⟩ (.slice Ao84 t493.length co84)).setCell ⟨gb503, 1, none⟩ (.slice Ao86 t496.length co86)).setCell ⟨gb503, 2, none⟩ (.slice Ao87 t499.length co87)) = w88 at n0_ n1_ n2_ n3_ n4_ n5_ n6_ ⊢
                              have HO_6 := n0_
                              have HO491 := n1_
                              have HO495 := n2_
                              have HO498 := n3_
                              have HO501 := n4_
                              have BK503 := n5_
                              have HB := n6_
                              clear n0_ n1_ n2_ n3_ n4_ n5_ n6_
                              have n0_ := Aside0.mk (Kd.R_drew HO_6.out)
                              have n1_ := Aside0.mk (Kd.R_drew HO491.out)
                              have n2_ := Aside0.mk (Kd.R_drew HO495.out)
                              have n3_ := Aside0.mk (Kd.R_drew HO498.out)
                              have n4_ := Aside0.mk (Kd.R_drew HO501.out)
                              have n5_ := Aside0.mk (blk_drew BK503.out)
                              have n6_ := Aside0.mk (below_drew1 HB.out)
                              clear HO_6
                              clear HO491
                              clear HO495
                              clear HO498
                              clear HO501
                              clear BK503
                              clear HB
                              have HO_6 := n0_
                              have HO491 := n1_
                              have HO495 := n2_
                              have HO498 := n3_
                              have HO501 := n4_
                              have BK503 := n5_
                              have HB := n6_
                              clear n0_ n1_ n2_ n3_ n4_ n5_ n6_
                              refine start_ (n := 16) (S := fun w' => True) (ds := []) #[false, false, false, false, false, false, false, false, false, false, false, false, false, false, false, false] (by kernel_rfl) rfl rfl trivial (fun hHeld => ?_); refine with_tabW cruciblelaw8_ManifestBlank.tab13 cruciblelaw8_ManifestBlank.bits13 (fun HT_ HW_ => ?_)
                              generalize w88.drew = w89 at HO_6 HO491 HO495 HO498 HO501 BK503 HB hHeld ⊢
                              refine pure_ (i := 0) (N := some 52) (v := ?_) (a' := ?_) #[true, false, false, false, false, false, false, false, false, false, false, false, false, false, false, false] rfl rfl (any_of HT_.out (by kernel_rfl)) (fun _ _ _ h => h) (Or.inl ⟨by rfl, ?_⟩) ?_ ?_
                              rotate_left
                              · intro w'
                                go_simp
                                with_reducible rfl
                              rotate_left
                              · simp only [Act.put, List.setIfInBounds_toArray, List.set_cons_zero, List.set_cons_succ, i64_w, i32_w]
                                rfl
                              refine pure_ (i := 1) (N := some 53) (v := ?_) (a' := ?_) #[true, true, false, false, false, false, false, false, false, false, false, false, false, false, false, false] rfl rfl (any_of HT_.out (by kernel_rfl)) (fun _ _ _ h => h) (Or.inl ⟨by rfl, ?_⟩) ?_ ?_
                              rotate_left
                              · intro w'
                                go_simp
                                with_reducible rfl
                              rotate_left
                              · simp only [Act.put, List.setIfInBounds_toArray, List.set_cons_zero, List.set_cons_succ, i64_w, i32_w]
                                rfl
                              refine pure_ (i := 2) (N := some 54) (v := ?_) (a' := ?_) #[true, true, true, false, false, false, false, false, false, false, false, false, false, false, false, false] rfl rfl (any_of HT_.out (by kernel_rfl)) (fun _ _ _ h => h) (Or.inl ⟨by rfl, ?_⟩) ?_ ?_
                              rotate_left
                              · intro w'
                                go_simp
                                with_reducible rfl
                              rotate_left
                              · simp only [Act.put, List.setIfInBounds_toArray, List.set_cons_zero, List.set_cons_succ, i64_w, i32_w]
                                rfl
                              refine pure_ (i := 3) (N := some 55) (v := ?_) (a' := ?_) #[true, true, true, true, false, false, false, false, false, false, false, false, false, false, false, false] rfl rfl (any_of HT_.out (by kernel_rfl)) (fun _ _ _ h => h) (Or.inl ⟨by rfl, ?_⟩) ?_ ?_
                              rotate_left
                              · intro w'
                                go_simp
                                with_reducible rfl
                              rotate_left
                              · simp only [Act.put, List.setIfInBounds_toArray, List.set_cons_zero, List.set_cons_succ, i64_w, i32_w]
                                rfl
                              refine pure_ (i := 4) (N := some 56) (v := ?_) (a' := ?_) #[true, true, true, true, true, false, false, false, false, false, false, false, false, false, false, false] rfl rfl (any_of HT_.out (by kernel_rfl)) (fun _ _ _ h => h) (Or.inl ⟨by rfl, ?_⟩) ?_ ?_
                              rotate_left
                              · intro w'
                                go_simp
                                with_reducible rfl
                              rotate_left
                              · simp only [Act.put, List.setIfInBounds_toArray, List.set_cons_zero, List.set_cons_succ, i64_w, i32_w]
                                rfl
                              refine pure_ (i := 5) (N := some 57) (v := ?_) (a' := ?_) #[true, true, true, true, true, true, false, false, false, false, false, false, false, false, false, false] rfl rfl (any_of HT_.out (by kernel_rfl)) (fun _ _ _ h => h) (Or.inl ⟨by rfl, ?_⟩) ?_ ?_
                              rotate_left
                              · intro w'
                                go_simp
                                with_reducible rfl
                              rotate_left
                              · simp only [Act.put, List.setIfInBounds_toArray, List.set_cons_zero, List.set_cons_succ, i64_w, i32_w]
                                rfl
                              refine pure_ (i := 6) (N := some 58) (v := ?_) (a' := ?_) #[true, true, true, true, true, true, true, false, false, false, false, false, false, false, false, false] rfl rfl (any_of HT_.out (by kernel_rfl)) (fun _ _ _ h => h) (Or.inl ⟨by rfl, ?_⟩) ?_ ?_
                              rotate_left
                              · intro w'
                                go_simp
                                with_reducible rfl
                              rotate_left
                              · simp only [Act.put, List.setIfInBounds_toArray, List.set_cons_zero, List.set_cons_succ, i64_w, i32_w]
                                rfl
                              refine pure_ (i := 7) (N := some 59) (v := ?_) (a' := ?_) #[true, true, true, true, true, true, true, true, false, false, false, false, false, false, false, false] rfl rfl (any_of HT_.out (by kernel_rfl)) (fun _ _ _ h => h) (Or.inl ⟨by rfl, ?_⟩) ?_ ?_
                              rotate_left
                              · intro w'
                                go_simp
                                with_reducible rfl
                              rotate_left
                              · simp only [Act.put, List.setIfInBounds_toArray, List.set_cons_zero, List.set_cons_succ, i64_w, i32_w]
                                rfl
                              refine pure_ (i := 8) (N := some 60) (v := ?_) (a' := ?_) #[true, true, true, true, true, true, true, true, true, false, false, false, false, false, false, false] rfl rfl (any_of HT_.out (by kernel_rfl)) (fun _ _ _ h => h) (Or.inl ⟨by rfl, ?_⟩) ?_ ?_
                              rotate_left
                              · intro w'
                                go_simp
                                with_reducible rfl
                              rotate_left
                              · simp only [Act.put, List.setIfInBounds_toArray, List.set_cons_zero, List.set_cons_succ, i64_w, i32_w]
                                rfl
                              refine join_ (σ := Value × Value × Value × Nat) 2 #[true, true, true, true, true, true, true, true, true, true, true, true, true, true, false, false] (fun s_ => [(61, .tuple #[.agg #[s_.1, s_.2.1, s_.2.2.1], .int .i64 t513]), (12, .pointer (some ⟨s_.2.2.2, 0, none⟩)), (51, .tuple #[.agg #[s_.1, s_.2.1, s_.2.2.1], .int .i64 t513]), (62, .agg #[s_.1, s_.2.1, s_.2.2.1]), (63, .int .i64 t513)]) (fun s_ w' => (Kd.R Kd.string 9 w' w.heap.size (fun k_ => some k_ ≠ (.slice Ao87 t499.length co87 : Value).ownBlock ∧ some k_ ≠ (s_.2.2.1 : Value).ownBlock) (.slice (some ad492) y489.length co81) y489) ∧ (Kd.R k42 42 w' w.heap.size (fun k_ => some k_ ≠ (.slice (some ad492) y489.length co81 : Value).ownBlock ∧ some k_ ≠ (.slice Ao87 t499.length co87 : Value).ownBlock ∧ some k_ ≠ (s_.1 : Value).ownBlock ∧ some k_ ≠ (s_.2.2.1 : Value).ownBlock) (.slice Ao84 t493.length co84) t493) ∧ (Kd.R k44 44 w' w.heap.size (fun k_ => some k_ ≠ (s_.2.1 : Value).ownBlock) (.slice Ao86 t496.length co86) t496) ∧ (Kd.R Kd.string 9 w' w.heap.size (fun k_ => some k_ ≠ (.slice (some ad492) y489.length co81 : Value).ownBlock ∧ some k_ ≠ (s_.2.2.1 : Value).ownBlock) (.slice Ao87 t499.length co87) t499) ∧ (Kd.R k42 42 w' w.heap.size (fun k_ => some k_ ≠ (.slice (some ad492) y489.length co81 : Value).ownBlock ∧ some k_ ≠ (.slice Ao84 t493.length co84 : Value).ownBlock ∧ some k_ ≠ (.slice Ao87 t499.length co87 : Value).ownBlock ∧ some k_ ≠ (s_.2.2.1 : Value).ownBlock) s_.1 t504) ∧ (Kd.R k44 44 w' w.heap.size (fun k_ => some k_ ≠ (.slice Ao86 t496.length co86 : Value).ownBlock) s_.2.1 t507) ∧ (Kd.R Kd.string 9 w' w.heap.size (fun k_ => some k_ ≠ (.slice (some ad492) y489.length co81 : Value).ownBlock ∧ some k_ ≠ (.slice Ao87 t499.length co87 : Value).ownBlock) s_.2.2.1 t510) ∧ (Kd.R (Kd.int .i64) 3 w' w.heap.size (fun _ => True) (.slice (some ad488) x6_1.length co78) x6_1) ∧ (w'.heap[gb503]? = some (.cells #[.slice Ao84 t493.length co84, .slice Ao86 t496.length co86, .slice Ao87 t499.length co87] 26 (0, 0))) ∧ (w'.heap[s_.2.2.2]? = some (.cells #[.slice none 0 0, .slice none 0 0, .slice none 0 0] 26 (0, 0))) ∧ (w.heap.size ≤ s_.2.2.2) ∧ (w.heap.size ≤ s_.2.2.2) ∧ (gb503 ≠ s_.2.2.2) ∧ (s_.2.2.2 ≠ gb503) ∧ (Below w.heap.size w w')) ?_ ?_
                              rotate_left
                              · intro hCont
                                refine two_ (i := 9) (j := 13) (Ni := some 61) (Nj := some 12) #[true, true, true, true, true, true, true, true, true, true, false, false, false, false, false, false] #[true, true, true, true, true, true, true, true, true, false, false, false, false, true, false, false] rfl rfl rfl rfl (two_of HT_.out (by kernel_rfl)) (by decide) (by decide) (fun K hK => ?_) (fun K hK => ?_)
                                · skip
                                  refine goes_ Tryz.func10 (by kernel_rfl) rfl #[.string (((t484.extract 0 ((rd x6_1 (ji14)) : Int).toNat) ++ (rdOf ByteArray.empty y489 (Go.bits .and .i64 a1 3))) ++ (t484.extract ((rd x6_1 (ji14)) : Int).toNat t484.size))] (by rfl) rfl rfl (by (try simp only [List.map_toArray, List.map_cons, List.map_nil]); first | done | (simp only [hji14]; rfl) | rfl | (simp only [List.length_drop, List.length_take]; rfl)) ?_
                                  with_reducible refine (manifest_Parse.calls (((t484.extract 0 ((rd x6_1 (ji14)) : Int).toNat) ++ (rdOf ByteArray.empty y489 (Go.bits .and .i64 a1 3))) ++ (t484.extract ((rd x6_1 (ji14)) : Int).toNat t484.size)) t504 t507 t510 t513 _ A26.out).mono ?_
                                  rintro e w90 ⟨v505, v508, v511, rfl, ho0, ho1, ho2, hb⟩
                                  refine ⟨_, rfl, ?_⟩
                                  have n0_ := Aside0.mk (Kd.R_below (by (with_reducible repeat (first | apply Kd.R_alloc | apply Kd.R_drewN | apply Kd.R_drew)); exact HO_6.out) hb)
                                  have n1_ := Aside0.mk (Kd.R_elder' (by (with_reducible repeat (first | apply Kd.R_alloc | apply Kd.R_drewN | apply Kd.R_drew)); exact HO491.out) (Kd.R_base ho2) hb)
                                  have n2_ := Aside0.mk (Kd.R_mono (Kd.R_told (Kd.R_told (Kd.R_old (by (with_reducible repeat (first | apply Kd.R_alloc | apply Kd.R_drewN | apply Kd.R_drew)); exact HO495.out) hb) (Kd.R_base ho0)) (Kd.R_base ho2)) (fun _ h_ => h_.1))
                                  have n3_ := Aside0.mk (Kd.R_elder' (by (with_reducible repeat (first | apply Kd.R_alloc | apply Kd.R_drewN | apply Kd.R_drew)); exact HO498.out) (Kd.R_base ho1) hb)
                                  have n4_ := Aside0.mk (Kd.R_elder' (by (with_reducible repeat (first | apply Kd.R_alloc | apply Kd.R_drewN | apply Kd.R_drew)); exact HO501.out) (Kd.R_base ho2) hb)
                                  have n5_ := Aside0.mk (Kd.R_lower (Kd.R_new' (Kd.R_new' (Kd.R_new' ho0 (Kd.R_lt (by (with_reducible repeat (first | apply Kd.R_alloc | apply Kd.R_drewN | apply Kd.R_drew)); exact HO491.out))) (Kd.R_lt (by (with_reducible repeat (first | apply Kd.R_alloc | apply Kd.R_drewN | apply Kd.R_drew)); exact HO495.out))) (Kd.R_lt (by (with_reducible repeat (first | apply Kd.R_alloc | apply Kd.R_drewN | apply Kd.R_drew)); exact HO501.out))) (below_size (by repeat (first | (with_reducible first | exact HB.out | apply below_alloc | apply pw_below_drewN | apply below_drew1 | refine below_set ?_ GE503.out) | exact HB.out))))
                                  have n6_ := Aside0.mk (Kd.R_lower (Kd.R_new' ho1 (Kd.R_lt (by (with_reducible repeat (first | apply Kd.R_alloc | apply Kd.R_drewN | apply Kd.R_drew)); exact HO498.out))) (below_size (by repeat (first | (with_reducible first | exact HB.out | apply below_alloc | apply pw_below_drewN | apply below_drew1 | refine below_set ?_ GE503.out) | exact HB.out))))
                                  have n7_ := Aside0.mk (Kd.R_lower (Kd.R_new' (Kd.R_new' ho2 (Kd.R_lt (by (with_reducible repeat (first | apply Kd.R_alloc | apply Kd.R_drewN | apply Kd.R_drew)); exact HO491.out))) (Kd.R_lt (by (with_reducible repeat (first | apply Kd.R_alloc | apply Kd.R_drewN | apply Kd.R_drew)); exact HO501.out))) (below_size (by repeat (first | (with_reducible first | exact HB.out | apply below_alloc | apply pw_below_drewN | apply below_drew1 | refine below_set ?_ GE503.out) | exact HB.out))))
                                  have n8_ := Aside0.mk (blk_below (g := gb503) (o := .cells #[.slice Ao84 t493.length co84, .slice Ao86 t496.length co86, .slice Ao87 t499.length co87] 26 (0, 0)) (by (with_reducible repeat (first | refine blk_drewN ?_ _ | refine blk_drew ?_ | refine blk_alloc ?_ _)); exact BK503.out) hb)
                                  have n9_ := Aside0.mk (below_step (by repeat (first | (with_reducible first | exact HB.out | apply below_alloc | apply pw_below_drewN | apply below_drew1 | refine below_set ?_ GE503.out) | exact HB.out)) hb)
                                  clear HO_6
                                  clear HO491
                                  clear HO495
                                  clear HO498
                                  clear HO501
                                  clear BK503
                                  clear HB
                                  have HO_6 := n0_
                                  have HO491 := n1_
                                  have HO495 := n2_
                                  have HO498 := n3_
                                  have HO501 := n4_
                                  have HO506 := n5_
                                  have HO509 := n6_
                                  have HO512 := n7_
                                  have BK503 := n8_
                                  have HB := n9_
                                  clear n0_ n1_ n2_ n3_ n4_ n5_ n6_ n7_ n8_ n9_
                                  (try clear hb)
                                  (try clear hb2)
                                  (try clear hk)
                                  (try clear hi)
                                  (try clear ho0)
                                  (try clear ho1)
                                  (try clear ho2)
                                  refine hK.out _ _ trivial (fun hHeld => ?_)
                                  clear hK K
                                  refine norm_ (a' := ?_) ?_ ?_
                                  rotate_left
                                  · show Act.put _ (some 61) _ = _
                                    simp only [Act.put, List.setIfInBounds_toArray, List.set_cons_zero, List.set_cons_succ, i64_w, i32_w]
                                    rfl
                                  refine pure_ (i := 10) (N := some 51) (v := ?_) (a' := ?_) #[true, true, true, true, true, true, true, true, true, true, true, false, false, false, false, false] rfl rfl (any_of HT_.out (by kernel_rfl)) (fun _ _ _ h => h) (Or.inl ⟨by rfl, ?_⟩) ?_ ?_
                                  rotate_left
                                  · intro w'
                                    go_simp
                                    with_reducible rfl
                                  rotate_left
                                  · simp only [Act.put, List.setIfInBounds_toArray, List.set_cons_zero, List.set_cons_succ, i64_w, i32_w]
                                    rfl
                                  refine pure_ (i := 11) (N := some 62) (v := ?_) (a' := ?_) #[true, true, true, true, true, true, true, true, true, true, true, true, false, false, false, false] rfl rfl (any_of HT_.out (by kernel_rfl)) (fun _ _ _ h => h) (Or.inl ⟨by rfl, ?_⟩) ?_ ?_
                                  rotate_left
                                  · intro w'
                                    go_simp
                                    with_reducible rfl
                                  rotate_left
                                  · simp only [Act.put, List.setIfInBounds_toArray, List.set_cons_zero, List.set_cons_succ, i64_w, i32_w]
                                    rfl
                                  refine pure_ (i := 12) (N := some 63) (v := ?_) (a' := ?_) #[true, true, true, true, true, true, true, true, true, true, true, true, true, false, false, false] rfl rfl (any_of HT_.out (by kernel_rfl)) (fun _ _ _ h => h) (Or.inl ⟨by rfl, ?_⟩) ?_ ?_
                                  rotate_left
                                  · intro w'
                                    go_simp
                                    with_reducible rfl
                                  rotate_left
                                  · simp only [Act.put, List.setIfInBounds_toArray, List.set_cons_zero, List.set_cons_succ, i64_w, i32_w]
                                    rfl
                                  refine one_ (i := 13) (N := some 12) #[true, true, true, true, true, true, true, true, true, true, true, true, true, true, false, false] rfl rfl (one_of HT_.out (by kernel_rfl)) (by decide) (fun K hK => ?_)
                                  refine box_step ?hg (N := 12) ?hd (cs := #[.slice none 0 0, .slice none 0 0, .slice none 0 0]) (t := 26) ?hr ?_; (case hd => rfl); (case hg => rfl); (case hr => first | (go_simp; done) | (go_simp; rfl))
                                  intro gb514 hg w91 hbox hb
                                  have n0_ := Aside0.mk (Kd.R_below (by (with_reducible repeat (first | apply Kd.R_alloc | apply Kd.R_drewN | apply Kd.R_drew)); exact HO_6.out) hb)
                                  have n1_ := Aside0.mk (Kd.R_below (by (with_reducible repeat (first | apply Kd.R_alloc | apply Kd.R_drewN | apply Kd.R_drew)); exact HO491.out) hb)
                                  have n2_ := Aside0.mk (Kd.R_below (by (with_reducible repeat (first | apply Kd.R_alloc | apply Kd.R_drewN | apply Kd.R_drew)); exact HO495.out) hb)
                                  have n3_ := Aside0.mk (Kd.R_below (by (with_reducible repeat (first | apply Kd.R_alloc | apply Kd.R_drewN | apply Kd.R_drew)); exact HO498.out) hb)
                                  have n4_ := Aside0.mk (Kd.R_below (by (with_reducible repeat (first | apply Kd.R_alloc | apply Kd.R_drewN | apply Kd.R_drew)); exact HO501.out) hb)
                                  have n5_ := Aside0.mk (Kd.R_below (by (with_reducible repeat (first | apply Kd.R_alloc | apply Kd.R_drewN | apply Kd.R_drew)); exact HO506.out) hb)
                                  have n6_ := Aside0.mk (Kd.R_below (by (with_reducible repeat (first | apply Kd.R_alloc | apply Kd.R_drewN | apply Kd.R_drew)); exact HO509.out) hb)
                                  have n7_ := Aside0.mk (Kd.R_below (by (with_reducible repeat (first | apply Kd.R_alloc | apply Kd.R_drewN | apply Kd.R_drew)); exact HO512.out) hb)
                                  have n8_ := Aside0.mk (blk_below (g := gb503) (o := .cells #[.slice Ao84 t493.length co84, .slice Ao86 t496.length co86, .slice Ao87 t499.length co87] 26 (0, 0)) (by (with_reducible repeat (first | refine blk_drewN ?_ _ | refine blk_drew ?_ | refine blk_alloc ?_ _)); exact BK503.out) hb)
                                  have n9_ := Aside0.mk (below_step (by repeat (first | (with_reducible first | exact HB.out | apply below_alloc | apply pw_below_drewN | apply below_drew1 | refine below_set ?_ GE503.out) | exact HB.out)) hb)
                                  have n10_ := Aside0.mk (hbox)
                                  have n11_ := Aside0.mk ((by rw [hg]; exact (below_size (by repeat (first | (with_reducible first | exact HB.out | apply below_alloc | apply pw_below_drewN | apply below_drew1 | refine below_set ?_ GE503.out) | exact HB.out))) : w.heap.size ≤ gb514))
                                  have n12_ := Aside0.mk ((by rw [hg]; exact (below_size (by repeat (first | (with_reducible first | exact HB.out | apply below_alloc | apply pw_below_drewN | apply below_drew1 | refine below_set ?_ GE503.out) | exact HB.out))) : w.heap.size ≤ gb514))
                                  have n13_ := Aside0.mk ((by rw [hg]; exact Nat.ne_of_lt (blk_lt (g := gb503) (o := .cells #[.slice Ao84 t493.length co84, .slice Ao86 t496.length co86, .slice Ao87 t499.length co87] 26 (0, 0)) (by (with_reducible repeat (first | refine blk_drewN ?_ _ | refine blk_drew ?_ | refine blk_alloc ?_ _)); exact BK503.out)) : gb503 ≠ gb514))
                                  have n14_ := Aside0.mk ((by rw [hg]; exact Nat.ne_of_gt (blk_lt (g := gb503) (o := .cells #[.slice Ao84 t493.length co84, .slice Ao86 t496.length co86, .slice Ao87 t499.length co87] 26 (0, 0)) (by (with_reducible repeat (first | refine blk_drewN ?_ _ | refine blk_drew ?_ | refine blk_alloc ?_ _)); exact BK503.out)) : gb514 ≠ gb503))
                                  clear HO_6
                                  clear HO491
                                  clear HO495
                                  clear HO498
                                  clear HO501
                                  clear HO506
                                  clear HO509
                                  clear HO512
                                  clear BK503
                                  clear HB
                                  have HO_6 := n0_
                                  have HO491 := n1_
                                  have HO495 := n2_
                                  have HO498 := n3_
                                  have HO501 := n4_
                                  have HO506 := n5_
                                  have HO509 := n6_
                                  have HO512 := n7_
                                  have BK503 := n8_
                                  have HB := n9_
                                  have BK514 := n10_
                                  have GW514 := n11_
                                  have GE514 := n12_
                                  have NB503_514 := n13_
                                  have NB514_503 := n14_
                                  clear n0_ n1_ n2_ n3_ n4_ n5_ n6_ n7_ n8_ n9_ n10_ n11_ n12_ n13_ n14_
                                  clear hb hbox hg
                                  refine hK.out _ _ trivial (fun hHeld => ?_)
                                  clear hK K
                                  refine norm_ (a' := ?_) ?_ ?_
                                  rotate_left
                                  · show Act.put _ (some 12) _ = _
                                    simp only [Act.put, List.setIfInBounds_toArray, List.set_cons_zero, List.set_cons_succ, i64_w, i32_w]
                                    rfl
                                  exact norm_ (by simp only [putAll, Act.put, List.setIfInBounds_toArray, List.set_cons_zero, List.set_cons_succ]) (hCont (v505, v508, v511, gb514) _ ⟨(by (with_reducible repeat (first | apply Kd.R_alloc | apply Kd.R_drewN | apply Kd.R_drew)); exact HO491.out), (by (with_reducible repeat (first | apply Kd.R_alloc | apply Kd.R_drewN | apply Kd.R_drew)); exact Kd.R_mono HO495.out (fun _ hk => ⟨hk.1.1.1, ⟨hk.1.1.2, ⟨hk.1.2, hk.2⟩⟩⟩)), (by (with_reducible repeat (first | apply Kd.R_alloc | apply Kd.R_drewN | apply Kd.R_drew)); exact Kd.R_mono HO498.out (fun _ hk => hk.2)), (by (with_reducible repeat (first | apply Kd.R_alloc | apply Kd.R_drewN | apply Kd.R_drew)); exact HO501.out), (by (with_reducible repeat (first | apply Kd.R_alloc | apply Kd.R_drewN | apply Kd.R_drew)); exact Kd.R_mono HO506.out (fun _ hk => ⟨hk.1.1.2, ⟨hk.1.2, ⟨hk.2, hk.1.1.1⟩⟩⟩)), (by (with_reducible repeat (first | apply Kd.R_alloc | apply Kd.R_drewN | apply Kd.R_drew)); exact Kd.R_mono HO509.out (fun _ hk => hk.2)), (by (with_reducible repeat (first | apply Kd.R_alloc | apply Kd.R_drewN | apply Kd.R_drew)); exact Kd.R_mono HO512.out (fun _ hk => ⟨hk.1.2, hk.2⟩)), (by (with_reducible repeat (first | apply Kd.R_alloc | apply Kd.R_drewN | apply Kd.R_drew)); exact HO_6.out), (by (with_reducible repeat (first | refine blk_drewN ?_ _ | refine blk_drew ?_ | refine blk_alloc ?_ _)); exact BK503.out), (by (with_reducible repeat (first | refine blk_drewN ?_ _ | refine blk_drew ?_ | refine blk_alloc ?_ _)); exact BK514.out), GW514.out, GE514.out, NB503_514.out, NB514_503.out, (by repeat (first | (with_reducible first | exact HB.out | apply below_alloc | apply pw_below_drewN | apply below_drew1 | refine below_set ?_ GE503.out | refine below_set ?_ GE514.out) | exact HB.out))⟩)
                                · skip
                                  refine box_step ?hg (N := 12) ?hd (cs := #[.slice none 0 0, .slice none 0 0, .slice none 0 0]) (t := 26) ?hr ?_; (case hd => rfl); (case hg => rfl); (case hr => first | (go_simp; done) | (go_simp; rfl))
                                  intro gb514 hg w90 hbox hb
                                  have n0_ := Aside0.mk (Kd.R_below (by (with_reducible repeat (first | apply Kd.R_alloc | apply Kd.R_drewN | apply Kd.R_drew)); exact HO_6.out) hb)
                                  have n1_ := Aside0.mk (Kd.R_below (by (with_reducible repeat (first | apply Kd.R_alloc | apply Kd.R_drewN | apply Kd.R_drew)); exact HO491.out) hb)
                                  have n2_ := Aside0.mk (Kd.R_below (by (with_reducible repeat (first | apply Kd.R_alloc | apply Kd.R_drewN | apply Kd.R_drew)); exact HO495.out) hb)
                                  have n3_ := Aside0.mk (Kd.R_below (by (with_reducible repeat (first | apply Kd.R_alloc | apply Kd.R_drewN | apply Kd.R_drew)); exact HO498.out) hb)
                                  have n4_ := Aside0.mk (Kd.R_below (by (with_reducible repeat (first | apply Kd.R_alloc | apply Kd.R_drewN | apply Kd.R_drew)); exact HO501.out) hb)
                                  have n5_ := Aside0.mk (blk_below (g := gb503) (o := .cells #[.slice Ao84 t493.length co84, .slice Ao86 t496.length co86, .slice Ao87 t499.length co87] 26 (0, 0)) (by (with_reducible repeat (first | refine blk_drewN ?_ _ | refine blk_drew ?_ | refine blk_alloc ?_ _)); exact BK503.out) hb)
                                  have n6_ := Aside0.mk (below_step (by repeat (first | (with_reducible first | exact HB.out | apply below_alloc | apply pw_below_drewN | apply below_drew1 | refine below_set ?_ GE503.out) | exact HB.out)) hb)
                                  have n7_ := Aside0.mk (hbox)
                                  have n8_ := Aside0.mk ((by rw [hg]; exact (below_size (by repeat (first | (with_reducible first | exact HB.out | apply below_alloc | apply pw_below_drewN | apply below_drew1 | refine below_set ?_ GE503.out) | exact HB.out))) : w.heap.size ≤ gb514))
                                  have n9_ := Aside0.mk ((by rw [hg]; exact (below_size (by repeat (first | (with_reducible first | exact HB.out | apply below_alloc | apply pw_below_drewN | apply below_drew1 | refine below_set ?_ GE503.out) | exact HB.out))) : w.heap.size ≤ gb514))
                                  have n10_ := Aside0.mk ((by rw [hg]; exact Nat.ne_of_lt (blk_lt (g := gb503) (o := .cells #[.slice Ao84 t493.length co84, .slice Ao86 t496.length co86, .slice Ao87 t499.length co87] 26 (0, 0)) (by (with_reducible repeat (first | refine blk_drewN ?_ _ | refine blk_drew ?_ | refine blk_alloc ?_ _)); exact BK503.out)) : gb503 ≠ gb514))
                                  have n11_ := Aside0.mk ((by rw [hg]; exact Nat.ne_of_gt (blk_lt (g := gb503) (o := .cells #[.slice Ao84 t493.length co84, .slice Ao86 t496.length co86, .slice Ao87 t499.length co87] 26 (0, 0)) (by (with_reducible repeat (first | refine blk_drewN ?_ _ | refine blk_drew ?_ | refine blk_alloc ?_ _)); exact BK503.out)) : gb514 ≠ gb503))
                                  clear HO_6
                                  clear HO491
                                  clear HO495
                                  clear HO498
                                  clear HO501
                                  clear BK503
                                  clear HB
                                  have HO_6 := n0_
                                  have HO491 := n1_
                                  have HO495 := n2_
                                  have HO498 := n3_
                                  have HO501 := n4_
                                  have BK503 := n5_
                                  have HB := n6_
                                  have BK514 := n7_
                                  have GW514 := n8_
                                  have GE514 := n9_
                                  have NB503_514 := n10_
                                  have NB514_503 := n11_
                                  clear n0_ n1_ n2_ n3_ n4_ n5_ n6_ n7_ n8_ n9_ n10_ n11_
                                  clear hb hbox hg
                                  refine hK.out _ _ trivial (fun hHeld => ?_)
                                  clear hK K
                                  refine norm_ (a' := ?_) ?_ ?_
                                  rotate_left
                                  · show Act.put _ (some 12) _ = _
                                    simp only [Act.put, List.setIfInBounds_toArray, List.set_cons_zero, List.set_cons_succ, i64_w, i32_w]
                                    rfl
                                  refine one_ (i := 9) (N := some 61) #[true, true, true, true, true, true, true, true, true, true, false, false, false, true, false, false] rfl rfl (one_of HT_.out (by kernel_rfl)) (by decide) (fun K hK => ?_)
                                  refine goes_ Tryz.func10 (by kernel_rfl) rfl #[.string (((t484.extract 0 ((rd x6_1 (ji14)) : Int).toNat) ++ (rdOf ByteArray.empty y489 (Go.bits .and .i64 a1 3))) ++ (t484.extract ((rd x6_1 (ji14)) : Int).toNat t484.size))] (by rfl) rfl rfl (by (try simp only [List.map_toArray, List.map_cons, List.map_nil]); first | done | (simp only [hji14]; rfl) | rfl | (simp only [List.length_drop, List.length_take]; rfl)) ?_
                                  with_reducible refine (manifest_Parse.calls (((t484.extract 0 ((rd x6_1 (ji14)) : Int).toNat) ++ (rdOf ByteArray.empty y489 (Go.bits .and .i64 a1 3))) ++ (t484.extract ((rd x6_1 (ji14)) : Int).toNat t484.size)) t504 t507 t510 t513 _ A26.out).mono ?_
                                  rintro e w91 ⟨v505, v508, v511, rfl, ho0, ho1, ho2, hb⟩
                                  refine ⟨_, rfl, ?_⟩
                                  have n0_ := Aside0.mk (Kd.R_below (by (with_reducible repeat (first | apply Kd.R_alloc | apply Kd.R_drewN | apply Kd.R_drew)); exact HO_6.out) hb)
                                  have n1_ := Aside0.mk (Kd.R_elder' (by (with_reducible repeat (first | apply Kd.R_alloc | apply Kd.R_drewN | apply Kd.R_drew)); exact HO491.out) (Kd.R_base ho2) hb)
                                  have n2_ := Aside0.mk (Kd.R_mono (Kd.R_told (Kd.R_told (Kd.R_old (by (with_reducible repeat (first | apply Kd.R_alloc | apply Kd.R_drewN | apply Kd.R_drew)); exact HO495.out) hb) (Kd.R_base ho0)) (Kd.R_base ho2)) (fun _ h_ => h_.1))
                                  have n3_ := Aside0.mk (Kd.R_elder' (by (with_reducible repeat (first | apply Kd.R_alloc | apply Kd.R_drewN | apply Kd.R_drew)); exact HO498.out) (Kd.R_base ho1) hb)
                                  have n4_ := Aside0.mk (Kd.R_elder' (by (with_reducible repeat (first | apply Kd.R_alloc | apply Kd.R_drewN | apply Kd.R_drew)); exact HO501.out) (Kd.R_base ho2) hb)
                                  have n5_ := Aside0.mk (Kd.R_lower (Kd.R_new' (Kd.R_new' (Kd.R_new' ho0 (Kd.R_lt (by (with_reducible repeat (first | apply Kd.R_alloc | apply Kd.R_drewN | apply Kd.R_drew)); exact HO491.out))) (Kd.R_lt (by (with_reducible repeat (first | apply Kd.R_alloc | apply Kd.R_drewN | apply Kd.R_drew)); exact HO495.out))) (Kd.R_lt (by (with_reducible repeat (first | apply Kd.R_alloc | apply Kd.R_drewN | apply Kd.R_drew)); exact HO501.out))) (below_size (by repeat (first | (with_reducible first | exact HB.out | apply below_alloc | apply pw_below_drewN | apply below_drew1 | refine below_set ?_ GE503.out | refine below_set ?_ GE514.out) | exact HB.out))))
                                  have n6_ := Aside0.mk (Kd.R_lower (Kd.R_new' ho1 (Kd.R_lt (by (with_reducible repeat (first | apply Kd.R_alloc | apply Kd.R_drewN | apply Kd.R_drew)); exact HO498.out))) (below_size (by repeat (first | (with_reducible first | exact HB.out | apply below_alloc | apply pw_below_drewN | apply below_drew1 | refine below_set ?_ GE503.out | refine below_set ?_ GE514.out) | exact HB.out))))
                                  have n7_ := Aside0.mk (Kd.R_lower (Kd.R_new' (Kd.R_new' ho2 (Kd.R_lt (by (with_reducible repeat (first | apply Kd.R_alloc | apply Kd.R_drewN | apply Kd.R_drew)); exact HO491.out))) (Kd.R_lt (by (with_reducible repeat (first | apply Kd.R_alloc | apply Kd.R_drewN | apply Kd.R_drew)); exact HO501.out))) (below_size (by repeat (first | (with_reducible first | exact HB.out | apply below_alloc | apply pw_below_drewN | apply below_drew1 | refine below_set ?_ GE503.out | refine below_set ?_ GE514.out) | exact HB.out))))
                                  have n8_ := Aside0.mk (blk_below (g := gb503) (o := .cells #[.slice Ao84 t493.length co84, .slice Ao86 t496.length co86, .slice Ao87 t499.length co87] 26 (0, 0)) (by (with_reducible repeat (first | refine blk_drewN ?_ _ | refine blk_drew ?_ | refine blk_alloc ?_ _)); exact BK503.out) hb)
                                  have n9_ := Aside0.mk (blk_below (g := gb514) (o := .cells #[.slice none 0 0, .slice none 0 0, .slice none 0 0] 26 (0, 0)) (by (with_reducible repeat (first | refine blk_drewN ?_ _ | refine blk_drew ?_ | refine blk_alloc ?_ _)); exact BK514.out) hb)
                                  have n10_ := Aside0.mk (below_step (by repeat (first | (with_reducible first | exact HB.out | apply below_alloc | apply pw_below_drewN | apply below_drew1 | refine below_set ?_ GE503.out | refine below_set ?_ GE514.out) | exact HB.out)) hb)
                                  clear HO_6
                                  clear HO491
                                  clear HO495
                                  clear HO498
                                  clear HO501
                                  clear BK503
                                  clear BK514
                                  clear HB
                                  have HO_6 := n0_
                                  have HO491 := n1_
                                  have HO495 := n2_
                                  have HO498 := n3_
                                  have HO501 := n4_
                                  have HO506 := n5_
                                  have HO509 := n6_
                                  have HO512 := n7_
                                  have BK503 := n8_
                                  have BK514 := n9_
                                  have HB := n10_
                                  clear n0_ n1_ n2_ n3_ n4_ n5_ n6_ n7_ n8_ n9_ n10_
                                  (try clear hb)
                                  (try clear hb2)
                                  (try clear hk)
                                  (try clear hi)
                                  (try clear ho0)
                                  (try clear ho1)
                                  (try clear ho2)
                                  refine hK.out _ _ trivial (fun hHeld => ?_)
                                  clear hK K
                                  refine norm_ (a' := ?_) ?_ ?_
                                  rotate_left
                                  · show Act.put _ (some 61) _ = _
                                    simp only [Act.put, List.setIfInBounds_toArray, List.set_cons_zero, List.set_cons_succ, i64_w, i32_w]
                                    rfl
                                  refine pure_ (i := 10) (N := some 51) (v := ?_) (a' := ?_) #[true, true, true, true, true, true, true, true, true, true, true, false, false, true, false, false] rfl rfl (any_of HT_.out (by kernel_rfl)) (fun _ _ _ h => h) (Or.inl ⟨by rfl, ?_⟩) ?_ ?_
                                  rotate_left
                                  · intro w'
                                    go_simp
                                    with_reducible rfl
                                  rotate_left
                                  · simp only [Act.put, List.setIfInBounds_toArray, List.set_cons_zero, List.set_cons_succ, i64_w, i32_w]
                                    rfl
                                  refine pure_ (i := 11) (N := some 62) (v := ?_) (a' := ?_) #[true, true, true, true, true, true, true, true, true, true, true, true, false, true, false, false] rfl rfl (any_of HT_.out (by kernel_rfl)) (fun _ _ _ h => h) (Or.inl ⟨by rfl, ?_⟩) ?_ ?_
                                  rotate_left
                                  · intro w'
                                    go_simp
                                    with_reducible rfl
                                  rotate_left
                                  · simp only [Act.put, List.setIfInBounds_toArray, List.set_cons_zero, List.set_cons_succ, i64_w, i32_w]
                                    rfl
                                  refine pure_ (i := 12) (N := some 63) (v := ?_) (a' := ?_) #[true, true, true, true, true, true, true, true, true, true, true, true, true, true, false, false] rfl rfl (any_of HT_.out (by kernel_rfl)) (fun _ _ _ h => h) (Or.inl ⟨by rfl, ?_⟩) ?_ ?_
                                  rotate_left
                                  · intro w'
                                    go_simp
                                    with_reducible rfl
                                  rotate_left
                                  · simp only [Act.put, List.setIfInBounds_toArray, List.set_cons_zero, List.set_cons_succ, i64_w, i32_w]
                                    rfl
                                  exact norm_ (by simp only [putAll, Act.put, List.setIfInBounds_toArray, List.set_cons_zero, List.set_cons_succ]) (hCont (v505, v508, v511, gb514) _ ⟨(by (with_reducible repeat (first | apply Kd.R_alloc | apply Kd.R_drewN | apply Kd.R_drew)); exact HO491.out), (by (with_reducible repeat (first | apply Kd.R_alloc | apply Kd.R_drewN | apply Kd.R_drew)); exact Kd.R_mono HO495.out (fun _ hk => ⟨hk.1.1.1, ⟨hk.1.1.2, ⟨hk.1.2, hk.2⟩⟩⟩)), (by (with_reducible repeat (first | apply Kd.R_alloc | apply Kd.R_drewN | apply Kd.R_drew)); exact Kd.R_mono HO498.out (fun _ hk => hk.2)), (by (with_reducible repeat (first | apply Kd.R_alloc | apply Kd.R_drewN | apply Kd.R_drew)); exact HO501.out), (by (with_reducible repeat (first | apply Kd.R_alloc | apply Kd.R_drewN | apply Kd.R_drew)); exact Kd.R_mono HO506.out (fun _ hk => ⟨hk.1.1.2, ⟨hk.1.2, ⟨hk.2, hk.1.1.1⟩⟩⟩)), (by (with_reducible repeat (first | apply Kd.R_alloc | apply Kd.R_drewN | apply Kd.R_drew)); exact Kd.R_mono HO509.out (fun _ hk => hk.2)), (by (with_reducible repeat (first | apply Kd.R_alloc | apply Kd.R_drewN | apply Kd.R_drew)); exact Kd.R_mono HO512.out (fun _ hk => ⟨hk.1.2, hk.2⟩)), (by (with_reducible repeat (first | apply Kd.R_alloc | apply Kd.R_drewN | apply Kd.R_drew)); exact HO_6.out), (by (with_reducible repeat (first | refine blk_drewN ?_ _ | refine blk_drew ?_ | refine blk_alloc ?_ _)); exact BK503.out), (by (with_reducible repeat (first | refine blk_drewN ?_ _ | refine blk_drew ?_ | refine blk_alloc ?_ _)); exact BK514.out), GW514.out, GE514.out, NB503_514.out, NB514_503.out, (by repeat (first | (with_reducible first | exact HB.out | apply below_alloc | apply pw_below_drewN | apply below_drew1 | refine below_set ?_ GE503.out | refine below_set ?_ GE514.out) | exact HB.out))⟩)
                              rintro ⟨v505, v508, v511, gb514⟩ w92 ⟨h0_, h1_, h2_, h3_, h4_, h5_, h6_, h7_, h8_, h9_, h10_, h11_, h12_, h13_, h14_⟩
                              have n0_ : Aside0 (Kd.R Kd.string 9 w92 w.heap.size (fun k_ => some k_ ≠ (.slice Ao87 t499.length co87 : Value).ownBlock ∧ some k_ ≠ (v511 : Value).ownBlock) (.slice (some ad492) y489.length co81) y489) := ⟨h0_⟩
                              have n1_ : Aside0 (Kd.R k42 42 w92 w.heap.size (fun k_ => some k_ ≠ (.slice (some ad492) y489.length co81 : Value).ownBlock ∧ some k_ ≠ (.slice Ao87 t499.length co87 : Value).ownBlock ∧ some k_ ≠ (v505 : Value).ownBlock ∧ some k_ ≠ (v511 : Value).ownBlock) (.slice Ao84 t493.length co84) t493) := ⟨h1_⟩
                              have n2_ : Aside0 (Kd.R k44 44 w92 w.heap.size (fun k_ => some k_ ≠ (v508 : Value).ownBlock) (.slice Ao86 t496.length co86) t496) := ⟨h2_⟩
                              have n3_ : Aside0 (Kd.R Kd.string 9 w92 w.heap.size (fun k_ => some k_ ≠ (.slice (some ad492) y489.length co81 : Value).ownBlock ∧ some k_ ≠ (v511 : Value).ownBlock) (.slice Ao87 t499.length co87) t499) := ⟨h3_⟩
                              have n4_ : Aside0 (Kd.R k42 42 w92 w.heap.size (fun k_ => some k_ ≠ (.slice (some ad492) y489.length co81 : Value).ownBlock ∧ some k_ ≠ (.slice Ao84 t493.length co84 : Value).ownBlock ∧ some k_ ≠ (.slice Ao87 t499.length co87 : Value).ownBlock ∧ some k_ ≠ (v511 : Value).ownBlock) v505 t504) := ⟨h4_⟩
                              have n5_ : Aside0 (Kd.R k44 44 w92 w.heap.size (fun k_ => some k_ ≠ (.slice Ao86 t496.length co86 : Value).ownBlock) v508 t507) := ⟨h5_⟩
                              have n6_ : Aside0 (Kd.R Kd.string 9 w92 w.heap.size (fun k_ => some k_ ≠ (.slice (some ad492) y489.length co81 : Value).ownBlock ∧ some k_ ≠ (.slice Ao87 t499.length co87 : Value).ownBlock) v511 t510) := ⟨h6_⟩
                              have n7_ : Aside0 (Kd.R (Kd.int .i64) 3 w92 w.heap.size (fun _ => True) (.slice (some ad488) x6_1.length co78) x6_1) := ⟨h7_⟩
                              have n8_ : Aside0 (w92.heap[gb503]? = some (.cells #[.slice Ao84 t493.length co84, .slice Ao86 t496.length co86, .slice Ao87 t499.length co87] 26 (0, 0))) := ⟨h8_⟩
                              have n9_ : Aside0 (w92.heap[gb514]? = some (.cells #[.slice none 0 0, .slice none 0 0, .slice none 0 0] 26 (0, 0))) := ⟨h9_⟩
                              have n10_ : Aside0 (w.heap.size ≤ gb514) := ⟨h10_⟩
                              have n11_ : Aside0 (w.heap.size ≤ gb514) := ⟨h11_⟩
                              have n12_ : Aside0 (gb503 ≠ gb514) := ⟨h12_⟩
                              have n13_ : Aside0 (gb514 ≠ gb503) := ⟨h13_⟩
                              have n14_ : Aside0 (Below w.heap.size w w92) := ⟨h14_⟩
                              clear HO_6
                              clear HO491
                              clear HO495
                              clear HO498
                              clear HO501
                              clear BK503
                              clear HB
                              clear h0_ h1_ h2_ h3_ h4_ h5_ h6_ h7_ h8_ h9_ h10_ h11_ h12_ h13_ h14_
                              have HO491 := n0_
                              have HO495 := n1_
                              have HO498 := n2_
                              have HO501 := n3_
                              have HO506 := n4_
                              have HO509 := n5_
                              have HO512 := n6_
                              have HO_6 := n7_
                              have BK503 := n8_
                              have BK514 := n9_
                              have GW514 := n10_
                              have GE514 := n11_
                              have NB503_514 := n12_
                              have NB514_503 := n13_
                              have HB := n14_
                              clear n0_ n1_ n2_ n3_ n4_ n5_ n6_ n7_ n8_ n9_ n10_ n11_ n12_ n13_ n14_
                              have hHeld := trivial
                              obtain ⟨Ao93, co93, eo93⟩ := Kd.R_slice HO506.out
                              (first | subst eo93 | (injection eo93 with f1_ f2_ f3_; have f4_ := f1_.symm; have f5_ := f3_.symm; clear f1_ f2_ f3_; subst f4_; subst f5_))
                              obtain ⟨Ao95, co95, eo95⟩ := Kd.R_slice HO509.out
                              (first | subst eo95 | (injection eo95 with f1_ f2_ f3_; have f4_ := f1_.symm; have f5_ := f3_.symm; clear f1_ f2_ f3_; subst f4_; subst f5_))
                              obtain ⟨Ao97, co97, eo97⟩ := Kd.R_slice HO512.out
                              (first | subst eo97 | (injection eo97 with f1_ f2_ f3_; have f4_ := f1_.symm; have f5_ := f3_.symm; clear f1_ f2_ f3_; subst f4_; subst f5_))
                              refine norm_ (a' := ?_) ?_ ?_
                              rotate_left
                              · simp only [putAll, Act.put, List.setIfInBounds_toArray, List.set_cons_zero, List.set_cons_succ]
                                rfl
                              refine one_ (i := 14) (N := none) #[true, true, true, true, true, true, true, true, true, true, true, true, true, true, true, false] rfl rfl (one_of HT_.out (by kernel_rfl)) (by decide) (fun K hK => ?_)
                              have hs94 : w92.cell? ⟨gb514, 0, none⟩ = some (.slice none 0 0) := (blk_cell BK514.out 0).trans rfl
                              have hfs94 := blk_frozen BK514.out 0
                              have hns94_0 := NB503_514.out
                              have hms94_0 := NB514_503.out
                              have hs96 : w92.cell? ⟨gb514, 1, none⟩ = some (.slice none 0 0) := (blk_cell BK514.out 1).trans rfl
                              have hfs96 := blk_frozen BK514.out 1
                              have hns96_0 := NB503_514.out
                              have hms96_0 := NB514_503.out
                              have hs98 : w92.cell? ⟨gb514, 2, none⟩ = some (.slice none 0 0) := (blk_cell BK514.out 2).trans rfl
                              have hfs98 := blk_frozen BK514.out 2
                              have hns98_0 := NB503_514.out
                              have hms98_0 := NB514_503.out
                              refine skip_ (w1 := ?_) (by rfl) rfl ?_ ?_
                              rotate_left
                              · go_simp
                                rfl
                              refine hK.out _ _ trivial (fun hHeld => ?_)
                              clear hK K
                              refine pure_ (i := 15) (N := some 13) (v := ?_) (a' := ?_) #[true, true, true, true, true, true, true, true, true, true, true, true, true, true, true, true] rfl rfl (any_of HT_.out (by kernel_rfl)) (fun _ _ _ h => h) (Or.inl ⟨by rfl, ?_⟩) ?_ ?_
                              rotate_left
                              · intro w'
                                go_simp
                                with_reducible rfl
                              rotate_left
                              · simp only [Act.put, List.setIfInBounds_toArray, List.set_cons_zero, List.set_cons_succ, i64_w, i32_w]
                                rfl
                              refine done_ (done_of HT_.out (by kernel_rfl)) ?_
                              try go_wp2_with (first | ((with_reducible refine gate_callee (f := 13) rfl ?_); refine goesL_ (some 65) rfl rfl Tryz.func13 (by kernel_rfl) rfl #[.int .i64 t502] rfl (by (try simp only [List.map_toArray, List.map_cons, List.map_nil]); first | done | rfl | (simp only [List.length_drop, List.length_take]; rfl)) ?_; (with_reducible refine (cruciblelaw0_Num.calls t502 t515 _ A27.out).mono ?_); rintro e w' ⟨rfl, ⟨nd, rfl⟩⟩; refine ⟨_, rfl, ?_⟩))
                              go_ret
                              exact ⟨by first | rfl | (simp [errW_none, errW_some] <;> rfl) | (simp only [← hji14]; first | rfl | (simp [errW_none, errW_some] <;> rfl)) | (simp [*, errW_none, errW_some] <;> rfl), by repeat (first | (with_reducible first | exact HB.out | apply below_alloc | apply pw_below_drewN | apply below_drew1 | refine below_set ?_ GE503.out | refine below_set ?_ GE514.out) | exact HB.out)⟩
                          · rw [if_neg c25] at H
                            exact absurd H (by simp)
                        · rw [if_neg c22] at H
                          exact absurd H (by simp)
                      · rw [if_neg c21] at H
                        exact absurd H (by simp)
                    · rw [if_neg c20] at H
                      exact absurd H (by simp)
                  · rw [if_neg c18] at H
                    exact absurd H (by simp)
                · rw [if_neg c17] at H
                  exact absurd H (by simp)
              · rw [if_neg c16] at H
                exact absurd H (by simp)
            · rw [if_neg c15] at H
              exact absurd H (by simp)
  · replace c4 := Bool.eq_false_iff.mpr c4
    subst c4
    have H1 : (some false) = some r := by rw [if_neg (show ¬ (false = true) by decide)] at H; exact H
    clear H
    have H := H1
    clear H1
    obtain rfl := Option.some.inj H
    go_enter Tryz.func7, Tryz.ntmps7
    go_wp2_with (first | ((with_reducible refine gate_callee (f := 15) rfl ?_); refine goesL_ (some 14) rfl rfl Tryz.func15 (by kernel_rfl) rfl #[] rfl (by (try simp only [List.map_toArray, List.map_cons, List.map_nil]); first | done | rfl | (simp only [List.length_drop, List.length_take]; rfl)) ?_; (with_reducible refine (cruciblelaw8_awake.calls  false _ A3.out).mono ?_); rintro e w99 ⟨rfl, hb⟩; refine ⟨_, rfl, ?_⟩; have n0_ := Aside0.mk (below_step (by repeat (first | (with_reducible first | exact HB.out | apply below_alloc | apply pw_below_drewN | apply below_drew1) | exact HB.out)) hb); clear HB; have HB := n0_; clear n0_; (try clear hb); (try clear hb2); (try clear hk); (try clear hi)))
    go_ret
    exact ⟨by first | rfl | (simp [errW_none, errW_some] <;> rfl) | (simp [*, errW_none, errW_some] <;> rfl), by repeat (first | (with_reducible first | exact HB.out | apply below_alloc | apply pw_below_drewN | apply below_drew1) | exact HB.out)⟩

/-- THE ONE PURE STATEMENT of cruciblelaw8_ManifestBlank: yours. -/
def cruciblelaw8_ManifestBlank.Pure : Prop := ∀ (a0 : Int) (a1 : Int), (Lit.int .i64 a0).wf = true → (Lit.int .i64 a1).wf = true → ∃ k, cruciblelaw8_ManifestBlank.f k a0 a1 = some true
theorem cruciblelaw8_ManifestBlank.walk (P : cruciblelaw8_ManifestBlank.Pure) (a0 : Int) (a1 : Int) (w : World) (w0 : (Lit.int .i64 a0).wf = true) (w1 : (Lit.int .i64 a1).wf = true) :
    Calls Tryz.prog 7 #[.int .i64 a0, .int .i64 a1] w fun e w' => e = .returned (.bool true) ∧ Below w.heap.size w w' := by
  obtain ⟨k, h⟩ := P a0 a1 w0 w1
  refine (cruciblelaw8_ManifestBlank.calls k a0 a1 true w h).mono ?_
  rintro e w' ⟨rfl, hd⟩
  exact ⟨rfl, hd⟩

end Go.Proofs.YtefheailchihaaaGreatDoor.Print

end
