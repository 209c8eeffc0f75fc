-- By a program of ours (wip/tools/myprint.sh) out of the translation.
import Derived.Test.YtchkgljhklfhnaaP0
import Derived.Test.YtchkgljhklfhnaaPCruciblelaw0Num
import Derived.Test.YtchkgljhklfhnaaPCruciblelaw0SamePieces
import Derived.Test.YtchkgljhklfhnaaPCruciblelaw3Awake
import Derived.Test.YtchkgljhklfhnaaQCut
namespace Go.Proofs.Ytchkgljhklfhnaa.Print
open Go.RowKit Go.Proofs.YtchkgljhklfhnaaW.PrintWords Go.Proofs.YtchkgljhklfhnaaW.PrintLast Go.Proofs.YtchkgljhklfhnaaW.PrintMore
attribute [local go_sem] max2_int min2_int max_two min_two max_three min_three max_four min_four   -- for this text's walks alone
set_option linter.unusedVariables false
set_option linter.unusedSimpArgs false

/-! ### cruciblelaw3_PieceJoin: function 13 -/
mutual
def cruciblelaw3_PieceJoin.l0 : Nat → List Int → ByteArray → List (S57) → Int → Option (Bool)
  | 0, _, _, _, _ => none
  | k + 1, x0, x3, x4, x5 => if x5 < (x0.length : Int) then (cruciblelaw3_PieceJoin.j1 k x0 x3 x4 x5 (decide (x5 < 20))) else (cruciblelaw3_PieceJoin.j1 k x0 x3 x4 x5 false)
def cruciblelaw3_PieceJoin.j1 : Nat → List Int → ByteArray → List (S57) → Int → Bool → Option (Bool)
  | 0, _, _, _, _, _ => none
  | k + 1, x0, x3, x4, x5, x20 => if x20 = true then (if 0 ≤ x5 then (if x5 < (x0.length : Int) then (if (Go.bits .and .i64 (rd x0 x5) 1) = 0 then ((some (([(⟨#[97]⟩ : ByteArray), (⟨#[105, 110]⟩ : ByteArray), (⟨#[120, 95, 49]⟩ : ByteArray)] : List ByteArray) : List ByteArray)).bind fun y383 => (if 0 ≤ (wrap64 (Int.tmod ((IntKind.u64.wrap (rd x0 x5)) / 2) 3)) then (if (wrap64 (Int.tmod ((IntKind.u64.wrap (rd x0 x5)) / 2) 3)) < (y383.length : Int) then (if x3.size + 2 ≤ 9223372036854775807 then (if (x3 ++ (⟨#[36, 123]⟩ : ByteArray)).size + (rdOf ByteArray.empty y383 (wrap64 (Int.tmod ((IntKind.u64.wrap (rd x0 x5)) / 2) 3))).size ≤ 9223372036854775807 then (if ((x3 ++ (⟨#[36, 123]⟩ : ByteArray)) ++ (rdOf ByteArray.empty y383 (wrap64 (Int.tmod ((IntKind.u64.wrap (rd x0 x5)) / 2) 3)))).size + 1 ≤ 9223372036854775807 then (if x4.length < 5864062014805 then (cruciblelaw3_PieceJoin.l0 k x0 (((x3 ++ (⟨#[36, 123]⟩ : ByteArray)) ++ (rdOf ByteArray.empty y383 (wrap64 (Int.tmod ((IntKind.u64.wrap (rd x0 x5)) / 2) 3)))) ++ (⟨#[125]⟩ : ByteArray)) (x4 ++ [(⟨true, rdOf ByteArray.empty y383 (wrap64 (Int.tmod ((IntKind.u64.wrap (rd x0 x5)) / 2) 3))⟩ : S57)]) (wrap64 (x5 + 1))) else (none)) else (none)) else (none)) else (none)) else (none)) else (none))) else ((some (([(⟨#[113]⟩ : ByteArray), (⟨#[36]⟩ : ByteArray), (⟨#[32]⟩ : ByteArray), (⟨#[58]⟩ : ByteArray), (⟨#[125]⟩ : ByteArray)] : List ByteArray) : List ByteArray)).bind fun y391 => (if 0 ≤ (wrap64 (Int.tmod ((IntKind.u64.wrap (rd x0 x5)) / 2) 5)) then (if (wrap64 (Int.tmod ((IntKind.u64.wrap (rd x0 x5)) / 2) 5)) < (y391.length : Int) then (if (rdOf ByteArray.empty y391 (wrap64 (Int.tmod ((IntKind.u64.wrap (rd x0 x5)) / 2) 5))).toList = ([36] : List UInt8) then (if x3.size + 2 ≤ 9223372036854775807 then (if (x4.length : Int) > 0 then (if 0 ≤ (wrap64 ((x4.length : Int) - 1)) then (if (wrap64 ((x4.length : Int) - 1)) < (x4.length : Int) then (if ((rd_T57 x4 (wrap64 ((x4.length : Int) - 1))).f0 = true) then (if x4.length < 5864062014805 then (cruciblelaw3_PieceJoin.l0 k x0 (x3 ++ (⟨#[36, 36]⟩ : ByteArray)) (x4 ++ [(⟨false, rdOf ByteArray.empty y391 (wrap64 (Int.tmod ((IntKind.u64.wrap (rd x0 x5)) / 2) 5))⟩ : S57)]) (wrap64 (x5 + 1))) else (none)) else (if ((rd_T57 x4 (wrap64 ((x4.length : Int) - 1))).f1).size + (rdOf ByteArray.empty y391 (wrap64 (Int.tmod ((IntKind.u64.wrap (rd x0 x5)) / 2) 5))).size ≤ 9223372036854775807 then (cruciblelaw3_PieceJoin.l0 k x0 (x3 ++ (⟨#[36, 36]⟩ : ByteArray)) (x4.set ((wrap64 ((x4.length : Int) - 1)) : Int).toNat (⟨(rd_T57 x4 (wrap64 ((x4.length : Int) - 1))).f0, ((rd_T57 x4 (wrap64 ((x4.length : Int) - 1))).f1) ++ (rdOf ByteArray.empty y391 (wrap64 (Int.tmod ((IntKind.u64.wrap (rd x0 x5)) / 2) 5)))⟩ : S57)) (wrap64 (x5 + 1))) else (none))) else (none)) else (none)) else (if x4.length < 5864062014805 then (cruciblelaw3_PieceJoin.l0 k x0 (x3 ++ (⟨#[36, 36]⟩ : ByteArray)) (x4 ++ [(⟨false, rdOf ByteArray.empty y391 (wrap64 (Int.tmod ((IntKind.u64.wrap (rd x0 x5)) / 2) 5))⟩ : S57)]) (wrap64 (x5 + 1))) else (none))) else (none)) else (if x3.size + (rdOf ByteArray.empty y391 (wrap64 (Int.tmod ((IntKind.u64.wrap (rd x0 x5)) / 2) 5))).size ≤ 9223372036854775807 then (if (x4.length : Int) > 0 then (if 0 ≤ (wrap64 ((x4.length : Int) - 1)) then (if (wrap64 ((x4.length : Int) - 1)) < (x4.length : Int) then (if ((rd_T57 x4 (wrap64 ((x4.length : Int) - 1))).f0 = true) then (if x4.length < 5864062014805 then (cruciblelaw3_PieceJoin.l0 k x0 (x3 ++ (rdOf ByteArray.empty y391 (wrap64 (Int.tmod ((IntKind.u64.wrap (rd x0 x5)) / 2) 5)))) (x4 ++ [(⟨false, rdOf ByteArray.empty y391 (wrap64 (Int.tmod ((IntKind.u64.wrap (rd x0 x5)) / 2) 5))⟩ : S57)]) (wrap64 (x5 + 1))) else (none)) else (if ((rd_T57 x4 (wrap64 ((x4.length : Int) - 1))).f1).size + (rdOf ByteArray.empty y391 (wrap64 (Int.tmod ((IntKind.u64.wrap (rd x0 x5)) / 2) 5))).size ≤ 9223372036854775807 then (cruciblelaw3_PieceJoin.l0 k x0 (x3 ++ (rdOf ByteArray.empty y391 (wrap64 (Int.tmod ((IntKind.u64.wrap (rd x0 x5)) / 2) 5)))) (x4.set ((wrap64 ((x4.length : Int) - 1)) : Int).toNat (⟨(rd_T57 x4 (wrap64 ((x4.length : Int) - 1))).f0, ((rd_T57 x4 (wrap64 ((x4.length : Int) - 1))).f1) ++ (rdOf ByteArray.empty y391 (wrap64 (Int.tmod ((IntKind.u64.wrap (rd x0 x5)) / 2) 5)))⟩ : S57)) (wrap64 (x5 + 1))) else (none))) else (none)) else (none)) else (if x4.length < 5864062014805 then (cruciblelaw3_PieceJoin.l0 k x0 (x3 ++ (rdOf ByteArray.empty y391 (wrap64 (Int.tmod ((IntKind.u64.wrap (rd x0 x5)) / 2) 5)))) (x4 ++ [(⟨false, rdOf ByteArray.empty y391 (wrap64 (Int.tmod ((IntKind.u64.wrap (rd x0 x5)) / 2) 5))⟩ : S57)]) (wrap64 (x5 + 1))) else (none))) else (none))) else (none)) else (none)))) else (none)) else (none)) else ((pieces_Cut.f x3).bind fun bt376 => ((cruciblelaw0_Num.f bt376.2).bind fun t380 => (if t380 = 0 then ((cruciblelaw0_SamePieces.f k bt376.1 x4).bind fun t381 => (some t381)) else (some false))))
end
def cruciblelaw3_PieceJoin.f (k : Nat) (l0 : List Int) : Option (Bool) := (cruciblelaw3_awake.f k).bind fun t375 => (if t375 = true then (cruciblelaw3_PieceJoin.l0 k l0 (⟨#[]⟩ : ByteArray) ([] : List (S57)) 0) else (some false))
theorem cruciblelaw3_PieceJoin.mono_l : ∀ k, (∀ y0 y1 y2 y3, LeO (cruciblelaw3_PieceJoin.l0 k y0 y1 y2 y3) (cruciblelaw3_PieceJoin.l0 (k + 1) y0 y1 y2 y3)) ∧ (∀ y0 y1 y2 y3 y4, LeO (cruciblelaw3_PieceJoin.j1 k y0 y1 y2 y3 y4) (cruciblelaw3_PieceJoin.j1 (k + 1) y0 y1 y2 y3 y4))
  | 0 => ⟨fun _ _ _ _ r h => by simp [cruciblelaw3_PieceJoin.l0] at h, fun _ _ _ _ _ r h => by simp [cruciblelaw3_PieceJoin.j1] at h⟩
  | k + 1 => by
    obtain ⟨ih0, ih1⟩ := cruciblelaw3_PieceJoin.mono_l k
    refine ⟨?_, ?_⟩
    · intro y0 y1 y2 y3
      unfold cruciblelaw3_PieceJoin.l0
      repeat' first
      | (with_reducible exact ih0 _ _ _ _)
      | (with_reducible exact ih1 _ _ _ _ _)
      | (with_reducible exact cruciblelaw0_SamePieces.mono _ _ _)
      | (with_reducible exact cruciblelaw3_awake.mono _)
      | (with_reducible exact LeO.refl _)
      | (with_reducible exact LeO.none _)
      | (with_reducible refine LeO.ite ?_ ?_)
      | (with_reducible refine LeO.bind ?_ (fun _ => ?_))
      | exact ih0 _ _ _ _
      | exact ih1 _ _ _ _ _
      | exact cruciblelaw0_SamePieces.mono _ _ _
      | exact cruciblelaw3_awake.mono _
      | exact LeO.none _
      | refine LeO.ite ?_ ?_
      | refine LeO.bind ?_ (fun _ => ?_)
    · intro y0 y1 y2 y3 y4
      unfold cruciblelaw3_PieceJoin.j1
      repeat' first
      | (with_reducible exact ih0 _ _ _ _)
      | (with_reducible exact ih1 _ _ _ _ _)
      | (with_reducible exact cruciblelaw0_SamePieces.mono _ _ _)
      | (with_reducible exact cruciblelaw3_awake.mono _)
      | (with_reducible exact LeO.refl _)
      | (with_reducible exact LeO.none _)
      | (with_reducible refine LeO.ite ?_ ?_)
      | (with_reducible refine LeO.bind ?_ (fun _ => ?_))
      | exact ih0 _ _ _ _
      | exact ih1 _ _ _ _ _
      | exact cruciblelaw0_SamePieces.mono _ _ _
      | exact cruciblelaw3_awake.mono _
      | exact LeO.none _
      | refine LeO.ite ?_ ?_
      | refine LeO.bind ?_ (fun _ => ?_)
theorem cruciblelaw3_PieceJoin.mono : ∀ a0 k, LeO (cruciblelaw3_PieceJoin.f k a0) (cruciblelaw3_PieceJoin.f (k + 1) a0) := by
  intro a0 k
  obtain ⟨ih0, ih1⟩ := cruciblelaw3_PieceJoin.mono_l k
  unfold cruciblelaw3_PieceJoin.f
  repeat' first
      | (with_reducible exact ih0 _ _ _ _)
      | (with_reducible exact ih1 _ _ _ _ _)
      | (with_reducible exact cruciblelaw0_SamePieces.mono _ _ _)
      | (with_reducible exact cruciblelaw3_awake.mono _)
      | (with_reducible exact LeO.refl _)
      | (with_reducible exact LeO.none _)
      | (with_reducible refine LeO.ite ?_ ?_)
      | (with_reducible refine LeO.bind ?_ (fun _ => ?_))
      | exact ih0 _ _ _ _
      | exact ih1 _ _ _ _ _
      | exact cruciblelaw0_SamePieces.mono _ _ _
      | exact cruciblelaw3_awake.mono _
      | exact LeO.none _
      | refine LeO.ite ?_ ?_
      | refine LeO.bind ?_ (fun _ => ?_)
set_option maxHeartbeats 8000000 in
set_option maxRecDepth 100000 in
theorem cruciblelaw3_PieceJoin.calls (k : Nat) (A0 : Option Addr) (c0 : Nat) (l0 : List Int) (r : Bool) (w : World) (hr0 : Kd.C (Kd.int .i64) w A0 l0.length l0) (hc0 : l0.length ≤ c0) (h : cruciblelaw3_PieceJoin.f k l0 = some r) :
    Calls Try.prog 13 #[.slice A0 l0.length c0] w fun e w' => e = .returned (.bool r) ∧ Below w.heap.size w w' := by
  have hu57 := Try.underlying57
  have HR0 := Aside0.mk hr0
  have HC0 := Aside0.mk hc0
  clear hr0 hc0
  have HB := Aside0.mk (Below.refl w.heap.size w)
  have H : ((cruciblelaw3_awake.f k).bind fun t375 => (if t375 = true then (cruciblelaw3_PieceJoin.l0 k l0 (⟨#[]⟩ : ByteArray) ([] : List (S57)) 0) else (some false))) = some r := h
  clear h
  replace H := Option.bind_eq_some_iff.mp H
  obtain ⟨t375, A20, H⟩ := H
  replace H : (if t375 = true then (cruciblelaw3_PieceJoin.l0 k l0 (⟨#[]⟩ : ByteArray) ([] : List (S57)) 0) else (some false)) = some r := H
  have A2 := Aside0.mk A20
  clear A20
  by_cases c3 : t375 = true
  · subst c3
    have H1 : (cruciblelaw3_PieceJoin.l0 k l0 (⟨#[]⟩ : ByteArray) ([] : List (S57)) 0) = some r := by rw [if_pos rfl] at H; exact H
    clear H
    have H := H1
    clear H1
    have H' := Aside0.mk H
    clear H
    go_enter Try.func13, Try.ntmps13
    go_wp2_with (first | ((with_reducible refine gate_callee (f := 39) rfl ?_); refine goesL_ (some 11) rfl rfl Try.func39 (by kernel_rfl) rfl #[] rfl (by (try simp only [List.map_toArray, List.map_cons, List.map_nil]); first | done | rfl | (simp only [List.length_drop, List.length_take]; rfl)) ?_; (with_reducible refine (cruciblelaw3_awake.calls k  true _ A2.out).mono ?_); rintro e w4 ⟨rfl, hb⟩; refine ⟨_, rfl, ?_⟩; have n0_ := Aside0.mk (below_step (by repeat (first | (with_reducible first | exact HB.out | apply below_alloc | apply pw_below_drewN | apply below_drew1) | exact HB.out)) hb); clear HB; have HB := n0_; clear n0_; (try clear hb); (try clear hb2); (try clear hk); (try clear hi)))
    go_loopg [3, 4, 5] k (fun kq v3 v4 v5 w' => ∃ (x3_1 : ByteArray) (x4_1 : List (S57)) (x5_1 : Int), v3 = .string x3_1 ∧ v5 = .int .i64 x5_1 ∧ Aside0 (cruciblelaw3_PieceJoin.l0 kq l0 x3_1 x4_1 x5_1 = some r) ∧ Aside0 (kq ≤ k) ∧ Aside0 (Kd.R k57 57 w' w.heap.size (fun _ => True) v4 x4_1) ∧ Aside0 (Below w.heap.size w w'))
    case atStart => exact ⟨((⟨#[]⟩ : ByteArray)), (([] : List (S57))), (0), (by first | rfl | (simp; done) | (simp [*]; done)), (by first | rfl | (simp; done) | (simp [*]; done)), H', ⟨Nat.le_refl _⟩, ⟨by first | exact Kd.R_nil _ _ _ _ _ | exact Kd.N_nil _ _ _ _ _ | exact Kd.V_nil _ _ _ _ _ | exact Kd.Q_nil _ _ _ _ _ | exact Kd.S_nil _ _ _ _ _⟩, ⟨by repeat (first | (with_reducible first | exact HB.out | apply below_alloc | apply pw_below_drewN | apply below_drew1) | exact HB.out)⟩⟩
    case round =>
      clear H'
      try clear c1
      try clear p2
      try clear c3
      obtain ⟨x3_1, x4_1, x5_1, rfl, rfl, HA, HK1, HO_4, HB⟩ := hrel
      cases gk with
      | zero => exact absurd HA.out (by simp [cruciblelaw3_PieceJoin.l0])
      | succ k1 =>
        have H := HA.out
        clear HA
        simp only [cruciblelaw3_PieceJoin.l0] at H
        have HC5 := Aside0.mk H
        clear H
        go_upto_region 6 with (fail)
        go_cut [20] (fun v20 wc => ∃ (kq : Nat) (x20_4 : Bool), v20 = .bool x20_4 ∧ Aside0 (cruciblelaw3_PieceJoin.j1 kq l0 x3_1 x4_1 x5_1 x20_4 = some r) ∧ Aside0 (kq ≤ k1) ∧ Aside0 (Kd.R k57 57 wc w.heap.size (fun _ => True) u4 x4_1) ∧ Aside0 (Below w.heap.size w wc))
        case first =>
          have H := HC5.out
          clear HC5
          by_cases c6 : x5_1 < (l0.length : Int)
          · rw [if_pos c6] at H
            have c6b0 : decide (x5_1 < (l0.length : Int)) = true := decide_eq_true c6
            clear c6
            (first | rw [c6b0] | (simp only [i64_w, i32_w]; rw [c6b0]) | skip)
            have H' := Aside0.mk H
            clear H
            go_wp2
            go_meet
            case rel => exact ⟨_, (decide (x5_1 < 20)), (by first | rfl | (simp; done) | (simp [*]; done)), H', ⟨by have := HK1.out; first | omega | exact Nat.le_refl _⟩, ⟨by (with_reducible repeat (first | apply Kd.R_alloc | apply Kd.R_drewN | apply Kd.R_drew)); exact HO_4.out⟩, ⟨by repeat (first | (with_reducible first | exact HB.out | apply below_alloc | apply pw_below_drewN | apply below_drew1) | exact HB.out)⟩⟩
          · rw [if_neg c6] at H
            have c6b0 : decide (x5_1 < (l0.length : Int)) = false := decide_eq_false c6
            clear c6
            (first | rw [c6b0] | (simp only [i64_w, i32_w]; rw [c6b0]) | skip)
            have H' := Aside0.mk H
            clear H
            go_wp2
            go_meet
            case rel => exact ⟨_, (false), (by first | rfl | (simp; done) | (simp [*]; done)), H', ⟨by have := HK1.out; first | omega | exact Nat.le_refl _⟩, ⟨by (with_reducible repeat (first | apply Kd.R_alloc | apply Kd.R_drewN | apply Kd.R_drew)); exact HO_4.out⟩, ⟨by repeat (first | (with_reducible first | exact HB.out | apply below_alloc | apply pw_below_drewN | apply below_drew1) | exact HB.out)⟩⟩
        case rest =>
          clear HC5
          try clear c1
          try clear p2
          try clear c3
          try clear c6
          try clear c6b0
          try clear p2
          obtain ⟨kq, x20_4, rfl, HA, HJ4, HO_4, HB⟩ := hcut
          cases kq with
          | zero => exact absurd HA.out (by simp [cruciblelaw3_PieceJoin.j1])
          | succ kj4 =>
            have H := HA.out
            clear HA
            simp only [cruciblelaw3_PieceJoin.j1] at H
            by_cases c7 : x20_4 = true
            · subst c7
              have H1 : (if 0 ≤ x5_1 then (if x5_1 < (l0.length : Int) then (if (Go.bits .and .i64 (rd l0 x5_1) 1) = 0 then ((some (([(⟨#[97]⟩ : ByteArray), (⟨#[105, 110]⟩ : ByteArray), (⟨#[120, 95, 49]⟩ : ByteArray)] : List ByteArray) : List ByteArray)).bind fun y383 => (if 0 ≤ (wrap64 (Int.tmod ((IntKind.u64.wrap (rd l0 x5_1)) / 2) 3)) then (if (wrap64 (Int.tmod ((IntKind.u64.wrap (rd l0 x5_1)) / 2) 3)) < (y383.length : Int) then (if x3_1.size + 2 ≤ 9223372036854775807 then (if (x3_1 ++ (⟨#[36, 123]⟩ : ByteArray)).size + (rdOf ByteArray.empty y383 (wrap64 (Int.tmod ((IntKind.u64.wrap (rd l0 x5_1)) / 2) 3))).size ≤ 9223372036854775807 then (if ((x3_1 ++ (⟨#[36, 123]⟩ : ByteArray)) ++ (rdOf ByteArray.empty y383 (wrap64 (Int.tmod ((IntKind.u64.wrap (rd l0 x5_1)) / 2) 3)))).size + 1 ≤ 9223372036854775807 then (if x4_1.length < 5864062014805 then (cruciblelaw3_PieceJoin.l0 kj4 l0 (((x3_1 ++ (⟨#[36, 123]⟩ : ByteArray)) ++ (rdOf ByteArray.empty y383 (wrap64 (Int.tmod ((IntKind.u64.wrap (rd l0 x5_1)) / 2) 3)))) ++ (⟨#[125]⟩ : ByteArray)) (x4_1 ++ [(⟨true, rdOf ByteArray.empty y383 (wrap64 (Int.tmod ((IntKind.u64.wrap (rd l0 x5_1)) / 2) 3))⟩ : S57)]) (wrap64 (x5_1 + 1))) else (none)) else (none)) else (none)) else (none)) else (none)) else (none))) else ((some (([(⟨#[113]⟩ : ByteArray), (⟨#[36]⟩ : ByteArray), (⟨#[32]⟩ : ByteArray), (⟨#[58]⟩ : ByteArray), (⟨#[125]⟩ : ByteArray)] : List ByteArray) : List ByteArray)).bind fun y391 => (if 0 ≤ (wrap64 (Int.tmod ((IntKind.u64.wrap (rd l0 x5_1)) / 2) 5)) then (if (wrap64 (Int.tmod ((IntKind.u64.wrap (rd l0 x5_1)) / 2) 5)) < (y391.length : Int) then (if (rdOf ByteArray.empty y391 (wrap64 (Int.tmod ((IntKind.u64.wrap (rd l0 x5_1)) / 2) 5))).toList = ([36] : List UInt8) then (if x3_1.size + 2 ≤ 9223372036854775807 then (if (x4_1.length : Int) > 0 then (if 0 ≤ (wrap64 ((x4_1.length : Int) - 1)) then (if (wrap64 ((x4_1.length : Int) - 1)) < (x4_1.length : Int) then (if ((rd_T57 x4_1 (wrap64 ((x4_1.length : Int) - 1))).f0 = true) then (if x4_1.length < 5864062014805 then (cruciblelaw3_PieceJoin.l0 kj4 l0 (x3_1 ++ (⟨#[36, 36]⟩ : ByteArray)) (x4_1 ++ [(⟨false, rdOf ByteArray.empty y391 (wrap64 (Int.tmod ((IntKind.u64.wrap (rd l0 x5_1)) / 2) 5))⟩ : S57)]) (wrap64 (x5_1 + 1))) else (none)) else (if ((rd_T57 x4_1 (wrap64 ((x4_1.length : Int) - 1))).f1).size + (rdOf ByteArray.empty y391 (wrap64 (Int.tmod ((IntKind.u64.wrap (rd l0 x5_1)) / 2) 5))).size ≤ 9223372036854775807 then (cruciblelaw3_PieceJoin.l0 kj4 l0 (x3_1 ++ (⟨#[36, 36]⟩ : ByteArray)) (x4_1.set ((wrap64 ((x4_1.length : Int) - 1)) : Int).toNat (⟨(rd_T57 x4_1 (wrap64 ((x4_1.length : Int) - 1))).f0, ((rd_T57 x4_1 (wrap64 ((x4_1.length : Int) - 1))).f1) ++ (rdOf ByteArray.empty y391 (wrap64 (Int.tmod ((IntKind.u64.wrap (rd l0 x5_1)) / 2) 5)))⟩ : S57)) (wrap64 (x5_1 + 1))) else (none))) else (none)) else (none)) else (if x4_1.length < 5864062014805 then (cruciblelaw3_PieceJoin.l0 kj4 l0 (x3_1 ++ (⟨#[36, 36]⟩ : ByteArray)) (x4_1 ++ [(⟨false, rdOf ByteArray.empty y391 (wrap64 (Int.tmod ((IntKind.u64.wrap (rd l0 x5_1)) / 2) 5))⟩ : S57)]) (wrap64 (x5_1 + 1))) else (none))) else (none)) else (if x3_1.size + (rdOf ByteArray.empty y391 (wrap64 (Int.tmod ((IntKind.u64.wrap (rd l0 x5_1)) / 2) 5))).size ≤ 9223372036854775807 then (if (x4_1.length : Int) > 0 then (if 0 ≤ (wrap64 ((x4_1.length : Int) - 1)) then (if (wrap64 ((x4_1.length : Int) - 1)) < (x4_1.length : Int) then (if ((rd_T57 x4_1 (wrap64 ((x4_1.length : Int) - 1))).f0 = true) then (if x4_1.length < 5864062014805 then (cruciblelaw3_PieceJoin.l0 kj4 l0 (x3_1 ++ (rdOf ByteArray.empty y391 (wrap64 (Int.tmod ((IntKind.u64.wrap (rd l0 x5_1)) / 2) 5)))) (x4_1 ++ [(⟨false, rdOf ByteArray.empty y391 (wrap64 (Int.tmod ((IntKind.u64.wrap (rd l0 x5_1)) / 2) 5))⟩ : S57)]) (wrap64 (x5_1 + 1))) else (none)) else (if ((rd_T57 x4_1 (wrap64 ((x4_1.length : Int) - 1))).f1).size + (rdOf ByteArray.empty y391 (wrap64 (Int.tmod ((IntKind.u64.wrap (rd l0 x5_1)) / 2) 5))).size ≤ 9223372036854775807 then (cruciblelaw3_PieceJoin.l0 kj4 l0 (x3_1 ++ (rdOf ByteArray.empty y391 (wrap64 (Int.tmod ((IntKind.u64.wrap (rd l0 x5_1)) / 2) 5)))) (x4_1.set ((wrap64 ((x4_1.length : Int) - 1)) : Int).toNat (⟨(rd_T57 x4_1 (wrap64 ((x4_1.length : Int) - 1))).f0, ((rd_T57 x4_1 (wrap64 ((x4_1.length : Int) - 1))).f1) ++ (rdOf ByteArray.empty y391 (wrap64 (Int.tmod ((IntKind.u64.wrap (rd l0 x5_1)) / 2) 5)))⟩ : S57)) (wrap64 (x5_1 + 1))) else (none))) else (none)) else (none)) else (if x4_1.length < 5864062014805 then (cruciblelaw3_PieceJoin.l0 kj4 l0 (x3_1 ++ (rdOf ByteArray.empty y391 (wrap64 (Int.tmod ((IntKind.u64.wrap (rd l0 x5_1)) / 2) 5)))) (x4_1 ++ [(⟨false, rdOf ByteArray.empty y391 (wrap64 (Int.tmod ((IntKind.u64.wrap (rd l0 x5_1)) / 2) 5))⟩ : S57)]) (wrap64 (x5_1 + 1))) else (none))) else (none))) else (none)) else (none)))) else (none)) else (none)) = some r := by rw [if_pos rfl] at H; exact H
              clear H
              have H := H1
              clear H1
              by_cases c8 : 0 ≤ x5_1
              · rw [if_pos c8] at H
                have c8b0 : decide (0 ≤ x5_1) = true := decide_eq_true c8
                clear c8
                by_cases c9 : x5_1 < (l0.length : Int)
                · rw [if_pos c9] at H
                  have c9b0 : decide (x5_1 < (l0.length : Int)) = true := decide_eq_true c9
                  clear c9
                  by_cases c10 : (Go.bits .and .i64 (rd l0 x5_1) 1) = 0
                  · rw [if_pos c10] at H
                    have c10b0 : ((Go.bits .and .i64 (rd l0 x5_1) 1) == 0) = true := beq_iff_eq.mpr c10
                    have c10b1 : ((Go.bits .and .i64 (rd l0 x5_1) 1) != 0) = false := bne_eq_false_iff_eq.mpr c10
                    clear c10
                    obtain ⟨y383, hy383⟩ : ∃ y_ : List ByteArray, y_ = (([(⟨#[97]⟩ : ByteArray), (⟨#[105, 110]⟩ : ByteArray), (⟨#[120, 95, 49]⟩ : ByteArray)] : List ByteArray)) := ⟨_, rfl⟩
                    replace H : (if 0 ≤ (wrap64 (Int.tmod ((IntKind.u64.wrap (rd l0 x5_1)) / 2) 3)) then (if (wrap64 (Int.tmod ((IntKind.u64.wrap (rd l0 x5_1)) / 2) 3)) < (y383.length : Int) then (if x3_1.size + 2 ≤ 9223372036854775807 then (if (x3_1 ++ (⟨#[36, 123]⟩ : ByteArray)).size + (rdOf ByteArray.empty y383 (wrap64 (Int.tmod ((IntKind.u64.wrap (rd l0 x5_1)) / 2) 3))).size ≤ 9223372036854775807 then (if ((x3_1 ++ (⟨#[36, 123]⟩ : ByteArray)) ++ (rdOf ByteArray.empty y383 (wrap64 (Int.tmod ((IntKind.u64.wrap (rd l0 x5_1)) / 2) 3)))).size + 1 ≤ 9223372036854775807 then (if x4_1.length < 5864062014805 then (cruciblelaw3_PieceJoin.l0 kj4 l0 (((x3_1 ++ (⟨#[36, 123]⟩ : ByteArray)) ++ (rdOf ByteArray.empty y383 (wrap64 (Int.tmod ((IntKind.u64.wrap (rd l0 x5_1)) / 2) 3)))) ++ (⟨#[125]⟩ : ByteArray)) (x4_1 ++ [(⟨true, rdOf ByteArray.empty y383 (wrap64 (Int.tmod ((IntKind.u64.wrap (rd l0 x5_1)) / 2) 3))⟩ : S57)]) (wrap64 (x5_1 + 1))) else (none)) else (none)) else (none)) else (none)) else (none)) else (none)) = some r := by first | (rw [hy383]; with_reducible exact H) | (have H2_ := (Option.bind_some _ _).symm.trans H; rw [hy383]; with_reducible exact H2_) | (have H2_ := (Option.bind_some _ _).symm.trans H; with_reducible exact H2_) | with_reducible exact H | (rw [hy383]; exact H) | exact H
                    have Ny383 := Aside0.mk hy383
                    clear hy383
                    obtain ⟨ji11, hji11⟩ : ∃ j_ : Int, (wrap64 (Int.tmod ((IntKind.u64.wrap (rd l0 x5_1)) / 2) 3)) = j_ := ⟨_, rfl⟩
                    replace H : (if 0 ≤ (ji11) then (if (ji11) < (y383.length : Int) then (if x3_1.size + 2 ≤ 9223372036854775807 then (if (x3_1 ++ (⟨#[36, 123]⟩ : ByteArray)).size + (rdOf ByteArray.empty y383 (ji11)).size ≤ 9223372036854775807 then (if ((x3_1 ++ (⟨#[36, 123]⟩ : ByteArray)) ++ (rdOf ByteArray.empty y383 (ji11))).size + 1 ≤ 9223372036854775807 then (if x4_1.length < 5864062014805 then (cruciblelaw3_PieceJoin.l0 kj4 l0 (((x3_1 ++ (⟨#[36, 123]⟩ : ByteArray)) ++ (rdOf ByteArray.empty y383 (ji11))) ++ (⟨#[125]⟩ : ByteArray)) (x4_1 ++ [(⟨true, rdOf ByteArray.empty y383 (ji11)⟩ : S57)]) (wrap64 (x5_1 + 1))) else (none)) else (none)) else (none)) else (none)) else (none)) else (none)) = some r := by first | (rw [hji11] at H; exact H) | (simp only [hji11] at H ⊢; exact H)
                    have hji11w : (IntKind.i64.wrap (Int.tmod ((IntKind.u64.wrap (rd l0 x5_1)) / 2) 3)) = ji11 := (i64_w _).trans hji11
                    by_cases c12 : 0 ≤ (ji11)
                    · rw [if_pos c12] at H
                      have c12b0 : decide (0 ≤ (ji11)) = true := decide_eq_true c12
                      clear c12
                      by_cases c13 : (ji11) < (y383.length : Int)
                      · rw [if_pos c13] at H
                        have c13b0 : decide ((ji11) < (y383.length : Int)) = true := decide_eq_true c13
                        clear c13
                        by_cases c14 : x3_1.size + 2 ≤ 9223372036854775807
                        · rw [if_pos c14] at H
                          have c14b0 := eq_true c14
                          have c14b1 : decide (x3_1.size + 2 ≤ 9223372036854775807) = true := decide_eq_true c14
                          try have c14b2 : (9223372036854775807 < x3_1.size + 2) = False := eq_false (Nat.not_lt.2 c14)
                          by_cases c15 : (x3_1 ++ (⟨#[36, 123]⟩ : ByteArray)).size + (rdOf ByteArray.empty y383 (ji11)).size ≤ 9223372036854775807
                          · rw [if_pos c15] at H
                            have c15b0 := eq_true c15
                            have c15b1 : decide ((x3_1 ++ (⟨#[36, 123]⟩ : ByteArray)).size + (rdOf ByteArray.empty y383 (ji11)).size ≤ 9223372036854775807) = true := decide_eq_true c15
                            try have c15b2 : (9223372036854775807 < (x3_1 ++ (⟨#[36, 123]⟩ : ByteArray)).size + (rdOf ByteArray.empty y383 (ji11)).size) = False := eq_false (Nat.not_lt.2 c15)
                            by_cases c16 : ((x3_1 ++ (⟨#[36, 123]⟩ : ByteArray)) ++ (rdOf ByteArray.empty y383 (ji11))).size + 1 ≤ 9223372036854775807
                            · rw [if_pos c16] at H
                              have c16b0 := eq_true c16
                              have c16b1 : decide (((x3_1 ++ (⟨#[36, 123]⟩ : ByteArray)) ++ (rdOf ByteArray.empty y383 (ji11))).size + 1 ≤ 9223372036854775807) = true := decide_eq_true c16
                              try have c16b2 : (9223372036854775807 < ((x3_1 ++ (⟨#[36, 123]⟩ : ByteArray)) ++ (rdOf ByteArray.empty y383 (ji11))).size + 1) = False := eq_false (Nat.not_lt.2 c16)
                              have c16b3 : (9223372036854775807 < x3_1.size + 2 + (rdOf ByteArray.empty y383 (ji11)).size + 1) = False := eq_false (by have h_ := c16; simp only [ByteArray.size_append] at h_; have h2_ : (⟨#[36, 123]⟩ : ByteArray).size = 2 := rfl; omega)
                              by_cases c17 : x4_1.length < 5864062014805
                              · rw [if_pos c17] at H
                                have LMc17 := Aside0.mk c17
                                clear c17
                                obtain ⟨y388, hy388⟩ : ∃ y_ : List (S57), y_ = (x4_1 ++ [(⟨true, rdOf ByteArray.empty y383 (ji11)⟩ : S57)]) := ⟨_, rfl⟩
                                replace H : (cruciblelaw3_PieceJoin.l0 kj4 l0 (((x3_1 ++ (⟨#[36, 123]⟩ : ByteArray)) ++ (rdOf ByteArray.empty y383 (ji11))) ++ (⟨#[125]⟩ : ByteArray)) y388 (wrap64 (x5_1 + 1))) = some r := by first | (rw [hy388]; with_reducible exact H) | (have H2_ := (Option.bind_some _ _).symm.trans H; rw [hy388]; with_reducible exact H2_) | (have H2_ := (Option.bind_some _ _).symm.trans H; with_reducible exact H2_) | with_reducible exact H | (rw [hy388]; exact H) | exact H
                                have Ny388 := Aside0.mk hy388
                                clear hy388
                                have H' := Aside0.mk H
                                clear H
                                have p382 : 0 ≤ (x5_1 : Int) := of_decide_eq_true (by first | (with_reducible assumption) | assumption)
                                have q382 : x5_1 < (l0.length : Int) := of_decide_eq_true (by first | (with_reducible assumption) | assumption)
                                obtain ⟨ad382, e382, hx382_0⟩ := Kd.at_int HR0.out x5_1 p382 q382
                                cases e382
                                replace hx382_0 := (HB.out.cell (World.block_lt_of_cell? w _ hx382_0)).trans hx382_0
                                replace p382 := eq_true p382
                                replace q382 := eq_true q382
                                go_wp2_with (first | ((with_reducible refine gate_dst (N := 29) rfl ?_); (try (refine gate_guard (by rfl) ?_; dsimp only)); refine Kd.R_lit Kd.string _ 9 ?hg (N := 29) ?hd (xs := ([(⟨#[97]⟩ : ByteArray), (⟨#[105, 110]⟩ : ByteArray), (⟨#[120, 95, 49]⟩ : ByteArray)] : List ByteArray)) (inner := [.string (⟨#[97]⟩ : ByteArray), .string (⟨#[105, 110]⟩ : ByteArray), .string (⟨#[120, 95, 49]⟩ : ByteArray)]) (ok := fun _ => True) (okp := fun _ => True) ?hr ?hp (fun _ hk => hk) trivial (Below.refl _ _) (Nat.le_refl _) (by simp) ?_; (case hd => rfl); (case hg => rfl); (case hr => first | (go_simp; done) | (go_simp; rfl)); (case hp => exact (Reps.one (show Kd.M Kd.string _ _ _ (⟨#[97]⟩ : ByteArray) [.string (⟨#[97]⟩ : ByteArray)] from rfl) (Reps.one (show Kd.M Kd.string _ _ _ (⟨#[105, 110]⟩ : ByteArray) [.string (⟨#[105, 110]⟩ : ByteArray)] from rfl) (Reps.one (show Kd.M Kd.string _ _ _ (⟨#[120, 95, 49]⟩ : ByteArray) [.string (⟨#[120, 95, 49]⟩ : ByteArray)] from rfl) (Reps.none _ _))))); intro v384 w18 ho19 hb hg_ hnew_; clear hg_ hnew_; (first | rw [← Ny383.out] at ho19 | (simp only [Int.reduceToNat] at ho19; rw [← Ny383.out] at ho19)); have n0_ := Aside0.mk (Kd.R_below (by (with_reducible repeat (first | apply Kd.R_alloc | apply Kd.R_drewN | apply Kd.R_drew)); exact HO_4.out) hb); have n1_ := Aside0.mk (Kd.R_lower ho19 (below_size (by repeat (first | (with_reducible first | exact HB.out | apply below_alloc | apply pw_below_drewN | apply below_drew1) | exact HB.out)))); have n2_ := Aside0.mk (below_step (by repeat (first | (with_reducible first | exact HB.out | apply below_alloc | apply pw_below_drewN | apply below_drew1) | exact HB.out)) hb); clear HO_4; clear HB; have HO_4 := n0_; have HO385 := n1_; have HB := n2_; clear n0_ n1_ n2_; clear hb ho19; have p386 : 0 ≤ (x5_1 : Int) := of_decide_eq_true (by first | (with_reducible assumption) | assumption); have q386 : x5_1 < (l0.length : Int) := of_decide_eq_true (by first | (with_reducible assumption) | assumption); obtain ⟨ad386, e386, hx386_0⟩ := Kd.at_int HR0.out x5_1 p386 q386; obtain rfl : ad382 = ad386 := (by injection e386); replace hx386_0 := (HB.out.cell (World.block_lt_of_cell? w _ hx386_0)).trans hx386_0; replace p386 := eq_true p386; replace q386 := eq_true q386; obtain ⟨Ao20, co20, eo20⟩ := Kd.R_slice HO385.out; subst eo20; have p387 : 0 ≤ ((ji11) : Int) := of_decide_eq_true (by first | (with_reducible assumption) | assumption); have q387 : (ji11) < (y383.length : Int) := of_decide_eq_true (by first | (with_reducible assumption) | assumption); obtain ⟨ad387, e387, hx387_0⟩ := Kd.at_string (Kd.R_reads' HO385.out).2.2 (ji11) p387 q387; cases e387; replace p387 := eq_true p387; replace q387 := eq_true q387) | ((with_reducible refine gate_builtin (b := .append) (xs := #[.tmp 45, .tmp 48]) rfl ?_); (try (refine gate_guard (by rfl) ?_; dsimp only)); at_builtin; refine Kd.R_append k57 (w0 := w) w.heap.size rfl (.tmp 45) (.tmp 48) 48 57 (.agg #[(.bool false), (.string ⟨#[]⟩)]) 24 rfl Try.underlying48 info57 rfl (by decide) (by omega) u4 x4_1 (⟨true, rdOf ByteArray.empty y383 (ji11)⟩ : S57) [.bool true, .string (rdOf ByteArray.empty y383 (ji11))] (fun _ => True) (fun _ => False) rfl rfl ?aP (fun _ hk => hk.elim) ?aF ?aO ?aB ?aS ?aL ?_; (case aP => exact k57_mkM _ _ _ (⟨true, rdOf ByteArray.empty y383 (ji11)⟩ : S57)); (case aB => exact (by repeat (first | (with_reducible first | exact HB.out | apply below_alloc | apply pw_below_drewN | apply below_drew1) | exact HB.out))); (case aF => exact (fun _ _ => trivial)); (case aO => exact (by (with_reducible repeat (first | apply Kd.R_alloc | apply Kd.R_drewN | apply Kd.R_drew)); exact HO_4.out)); (case aS => exact (below_size (by repeat (first | (with_reducible first | exact HB.out | apply below_alloc | apply pw_below_drewN | apply below_drew1) | exact HB.out)))); (case aL => have := LMc17.out; omega); intro v389 w21 ho hb hg hat; rw [← Ny388.out] at ho; have n0_ := Aside0.mk (Kd.R_over' (by (with_reducible repeat (first | apply Kd.R_alloc | apply Kd.R_drewN | apply Kd.R_drew)); exact HO385.out) (Kd.R_typed (by (with_reducible repeat (first | apply Kd.R_alloc | apply Kd.R_drewN | apply Kd.R_drew)); exact HO_4.out)) (by decide) hg); have n1_ := Aside0.mk (hb); have n2_ := Aside0.mk (ho); clear HO385; clear HB; clear HO_4; have HO385 := n0_; have HB := n1_; have HO390 := n2_; clear n0_ n1_ n2_; clear ho hb hg hat))
                                go_roundg kj4
                                case measure => have := HK1.out; have := HJ4.out; omega
                                case rel => exact ⟨(((x3_1 ++ (⟨#[36, 123]⟩ : ByteArray)) ++ (rdOf ByteArray.empty y383 (ji11))) ++ (⟨#[125]⟩ : ByteArray)), (y388), (wrap64 (x5_1 + 1)), (by first | rfl | (simp; done) | (simp only [← hji11] <;> (first | rfl | simp)) | (simp [*]; done)), (by first | rfl | (simp; done) | (simp [*]; done)), H', ⟨by have := HK1.out; have := HJ4.out; omega⟩, ⟨by (with_reducible repeat (first | apply Kd.R_alloc | apply Kd.R_drewN | apply Kd.R_drew)); exact HO390.out⟩, ⟨by repeat (first | (with_reducible first | exact HB.out | apply below_alloc | apply pw_below_drewN | apply below_drew1) | exact HB.out)⟩⟩
                              · rw [if_neg c17] at H
                                exact absurd H (by simp)
                            · rw [if_neg c16] at H
                              exact absurd H (by simp)
                          · rw [if_neg c15] at H
                            exact absurd H (by simp)
                        · rw [if_neg c14] at H
                          exact absurd H (by simp)
                      · rw [if_neg c13] at H
                        exact absurd H (by simp)
                    · rw [if_neg c12] at H
                      exact absurd H (by simp)
                  · rw [if_neg c10] at H
                    have c10b0 : ((Go.bits .and .i64 (rd l0 x5_1) 1) == 0) = false := beq_eq_false_iff_ne.mpr c10
                    have c10b1 : ((Go.bits .and .i64 (rd l0 x5_1) 1) != 0) = true := bne_iff_ne.mpr c10
                    obtain ⟨y391, hy391⟩ : ∃ y_ : List ByteArray, y_ = (([(⟨#[113]⟩ : ByteArray), (⟨#[36]⟩ : ByteArray), (⟨#[32]⟩ : ByteArray), (⟨#[58]⟩ : ByteArray), (⟨#[125]⟩ : ByteArray)] : List ByteArray)) := ⟨_, rfl⟩
                    replace H : (if 0 ≤ (wrap64 (Int.tmod ((IntKind.u64.wrap (rd l0 x5_1)) / 2) 5)) then (if (wrap64 (Int.tmod ((IntKind.u64.wrap (rd l0 x5_1)) / 2) 5)) < (y391.length : Int) then (if (rdOf ByteArray.empty y391 (wrap64 (Int.tmod ((IntKind.u64.wrap (rd l0 x5_1)) / 2) 5))).toList = ([36] : List UInt8) then (if x3_1.size + 2 ≤ 9223372036854775807 then (if (x4_1.length : Int) > 0 then (if 0 ≤ (wrap64 ((x4_1.length : Int) - 1)) then (if (wrap64 ((x4_1.length : Int) - 1)) < (x4_1.length : Int) then (if ((rd_T57 x4_1 (wrap64 ((x4_1.length : Int) - 1))).f0 = true) then (if x4_1.length < 5864062014805 then (cruciblelaw3_PieceJoin.l0 kj4 l0 (x3_1 ++ (⟨#[36, 36]⟩ : ByteArray)) (x4_1 ++ [(⟨false, rdOf ByteArray.empty y391 (wrap64 (Int.tmod ((IntKind.u64.wrap (rd l0 x5_1)) / 2) 5))⟩ : S57)]) (wrap64 (x5_1 + 1))) else (none)) else (if ((rd_T57 x4_1 (wrap64 ((x4_1.length : Int) - 1))).f1).size + (rdOf ByteArray.empty y391 (wrap64 (Int.tmod ((IntKind.u64.wrap (rd l0 x5_1)) / 2) 5))).size ≤ 9223372036854775807 then (cruciblelaw3_PieceJoin.l0 kj4 l0 (x3_1 ++ (⟨#[36, 36]⟩ : ByteArray)) (x4_1.set ((wrap64 ((x4_1.length : Int) - 1)) : Int).toNat (⟨(rd_T57 x4_1 (wrap64 ((x4_1.length : Int) - 1))).f0, ((rd_T57 x4_1 (wrap64 ((x4_1.length : Int) - 1))).f1) ++ (rdOf ByteArray.empty y391 (wrap64 (Int.tmod ((IntKind.u64.wrap (rd l0 x5_1)) / 2) 5)))⟩ : S57)) (wrap64 (x5_1 + 1))) else (none))) else (none)) else (none)) else (if x4_1.length < 5864062014805 then (cruciblelaw3_PieceJoin.l0 kj4 l0 (x3_1 ++ (⟨#[36, 36]⟩ : ByteArray)) (x4_1 ++ [(⟨false, rdOf ByteArray.empty y391 (wrap64 (Int.tmod ((IntKind.u64.wrap (rd l0 x5_1)) / 2) 5))⟩ : S57)]) (wrap64 (x5_1 + 1))) else (none))) else (none)) else (if x3_1.size + (rdOf ByteArray.empty y391 (wrap64 (Int.tmod ((IntKind.u64.wrap (rd l0 x5_1)) / 2) 5))).size ≤ 9223372036854775807 then (if (x4_1.length : Int) > 0 then (if 0 ≤ (wrap64 ((x4_1.length : Int) - 1)) then (if (wrap64 ((x4_1.length : Int) - 1)) < (x4_1.length : Int) then (if ((rd_T57 x4_1 (wrap64 ((x4_1.length : Int) - 1))).f0 = true) then (if x4_1.length < 5864062014805 then (cruciblelaw3_PieceJoin.l0 kj4 l0 (x3_1 ++ (rdOf ByteArray.empty y391 (wrap64 (Int.tmod ((IntKind.u64.wrap (rd l0 x5_1)) / 2) 5)))) (x4_1 ++ [(⟨false, rdOf ByteArray.empty y391 (wrap64 (Int.tmod ((IntKind.u64.wrap (rd l0 x5_1)) / 2) 5))⟩ : S57)]) (wrap64 (x5_1 + 1))) else (none)) else (if ((rd_T57 x4_1 (wrap64 ((x4_1.length : Int) - 1))).f1).size + (rdOf ByteArray.empty y391 (wrap64 (Int.tmod ((IntKind.u64.wrap (rd l0 x5_1)) / 2) 5))).size ≤ 9223372036854775807 then (cruciblelaw3_PieceJoin.l0 kj4 l0 (x3_1 ++ (rdOf ByteArray.empty y391 (wrap64 (Int.tmod ((IntKind.u64.wrap (rd l0 x5_1)) / 2) 5)))) (x4_1.set ((wrap64 ((x4_1.length : Int) - 1)) : Int).toNat (⟨(rd_T57 x4_1 (wrap64 ((x4_1.length : Int) - 1))).f0, ((rd_T57 x4_1 (wrap64 ((x4_1.length : Int) - 1))).f1) ++ (rdOf ByteArray.empty y391 (wrap64 (Int.tmod ((IntKind.u64.wrap (rd l0 x5_1)) / 2) 5)))⟩ : S57)) (wrap64 (x5_1 + 1))) else (none))) else (none)) else (none)) else (if x4_1.length < 5864062014805 then (cruciblelaw3_PieceJoin.l0 kj4 l0 (x3_1 ++ (rdOf ByteArray.empty y391 (wrap64 (Int.tmod ((IntKind.u64.wrap (rd l0 x5_1)) / 2) 5)))) (x4_1 ++ [(⟨false, rdOf ByteArray.empty y391 (wrap64 (Int.tmod ((IntKind.u64.wrap (rd l0 x5_1)) / 2) 5))⟩ : S57)]) (wrap64 (x5_1 + 1))) else (none))) else (none))) else (none)) else (none)) = some r := by first | (rw [hy391]; with_reducible exact H) | (have H2_ := (Option.bind_some _ _).symm.trans H; rw [hy391]; with_reducible exact H2_) | (have H2_ := (Option.bind_some _ _).symm.trans H; with_reducible exact H2_) | with_reducible exact H | (rw [hy391]; exact H) | exact H
                    have Ny391 := Aside0.mk hy391
                    clear hy391
                    obtain ⟨ji22, hji22⟩ : ∃ j_ : Int, (wrap64 (Int.tmod ((IntKind.u64.wrap (rd l0 x5_1)) / 2) 5)) = j_ := ⟨_, rfl⟩
                    replace H : (if 0 ≤ (ji22) then (if (ji22) < (y391.length : Int) then (if (rdOf ByteArray.empty y391 (ji22)).toList = ([36] : List UInt8) then (if x3_1.size + 2 ≤ 9223372036854775807 then (if (x4_1.length : Int) > 0 then (if 0 ≤ (wrap64 ((x4_1.length : Int) - 1)) then (if (wrap64 ((x4_1.length : Int) - 1)) < (x4_1.length : Int) then (if ((rd_T57 x4_1 (wrap64 ((x4_1.length : Int) - 1))).f0 = true) then (if x4_1.length < 5864062014805 then (cruciblelaw3_PieceJoin.l0 kj4 l0 (x3_1 ++ (⟨#[36, 36]⟩ : ByteArray)) (x4_1 ++ [(⟨false, rdOf ByteArray.empty y391 (ji22)⟩ : S57)]) (wrap64 (x5_1 + 1))) else (none)) else (if ((rd_T57 x4_1 (wrap64 ((x4_1.length : Int) - 1))).f1).size + (rdOf ByteArray.empty y391 (ji22)).size ≤ 9223372036854775807 then (cruciblelaw3_PieceJoin.l0 kj4 l0 (x3_1 ++ (⟨#[36, 36]⟩ : ByteArray)) (x4_1.set ((wrap64 ((x4_1.length : Int) - 1)) : Int).toNat (⟨(rd_T57 x4_1 (wrap64 ((x4_1.length : Int) - 1))).f0, ((rd_T57 x4_1 (wrap64 ((x4_1.length : Int) - 1))).f1) ++ (rdOf ByteArray.empty y391 (ji22))⟩ : S57)) (wrap64 (x5_1 + 1))) else (none))) else (none)) else (none)) else (if x4_1.length < 5864062014805 then (cruciblelaw3_PieceJoin.l0 kj4 l0 (x3_1 ++ (⟨#[36, 36]⟩ : ByteArray)) (x4_1 ++ [(⟨false, rdOf ByteArray.empty y391 (ji22)⟩ : S57)]) (wrap64 (x5_1 + 1))) else (none))) else (none)) else (if x3_1.size + (rdOf ByteArray.empty y391 (ji22)).size ≤ 9223372036854775807 then (if (x4_1.length : Int) > 0 then (if 0 ≤ (wrap64 ((x4_1.length : Int) - 1)) then (if (wrap64 ((x4_1.length : Int) - 1)) < (x4_1.length : Int) then (if ((rd_T57 x4_1 (wrap64 ((x4_1.length : Int) - 1))).f0 = true) then (if x4_1.length < 5864062014805 then (cruciblelaw3_PieceJoin.l0 kj4 l0 (x3_1 ++ (rdOf ByteArray.empty y391 (ji22))) (x4_1 ++ [(⟨false, rdOf ByteArray.empty y391 (ji22)⟩ : S57)]) (wrap64 (x5_1 + 1))) else (none)) else (if ((rd_T57 x4_1 (wrap64 ((x4_1.length : Int) - 1))).f1).size + (rdOf ByteArray.empty y391 (ji22)).size ≤ 9223372036854775807 then (cruciblelaw3_PieceJoin.l0 kj4 l0 (x3_1 ++ (rdOf ByteArray.empty y391 (ji22))) (x4_1.set ((wrap64 ((x4_1.length : Int) - 1)) : Int).toNat (⟨(rd_T57 x4_1 (wrap64 ((x4_1.length : Int) - 1))).f0, ((rd_T57 x4_1 (wrap64 ((x4_1.length : Int) - 1))).f1) ++ (rdOf ByteArray.empty y391 (ji22))⟩ : S57)) (wrap64 (x5_1 + 1))) else (none))) else (none)) else (none)) else (if x4_1.length < 5864062014805 then (cruciblelaw3_PieceJoin.l0 kj4 l0 (x3_1 ++ (rdOf ByteArray.empty y391 (ji22))) (x4_1 ++ [(⟨false, rdOf ByteArray.empty y391 (ji22)⟩ : S57)]) (wrap64 (x5_1 + 1))) else (none))) else (none))) else (none)) else (none)) = some r := by first | (rw [hji22] at H; exact H) | (simp only [hji22] at H ⊢; exact H)
                    have hji22w : (IntKind.i64.wrap (Int.tmod ((IntKind.u64.wrap (rd l0 x5_1)) / 2) 5)) = ji22 := (i64_w _).trans hji22
                    by_cases c23 : 0 ≤ (ji22)
                    · rw [if_pos c23] at H
                      have c23b0 : decide (0 ≤ (ji22)) = true := decide_eq_true c23
                      clear c23
                      by_cases c24 : (ji22) < (y391.length : Int)
                      · rw [if_pos c24] at H
                        have c24b0 : decide ((ji22) < (y391.length : Int)) = true := decide_eq_true c24
                        clear c24
                        by_cases c25 : (rdOf ByteArray.empty y391 (ji22)).toList = ([36] : List UInt8)
                        · rw [if_pos c25] at H
                          have c25b0 : ((rdOf ByteArray.empty y391 (ji22)).toList == ([36] : List UInt8)) = true := beq_iff_eq.mpr c25
                          have c25b1 : ((rdOf ByteArray.empty y391 (ji22)).toList != ([36] : List UInt8)) = false := bne_eq_false_iff_eq.mpr c25
                          clear c25
                          by_cases c26 : x3_1.size + 2 ≤ 9223372036854775807
                          · rw [if_pos c26] at H
                            have c26b0 := eq_true c26
                            have c26b1 : decide (x3_1.size + 2 ≤ 9223372036854775807) = true := decide_eq_true c26
                            try have c26b2 : (9223372036854775807 < x3_1.size + 2) = False := eq_false (Nat.not_lt.2 c26)
                            by_cases c27 : (x4_1.length : Int) > 0
                            · rw [if_pos c27] at H
                              have c27b0 : decide (0 < (x4_1.length : Int)) = true := decide_eq_true c27
                              have c27b1 : decide (0 < x4_1.length) = true := decide_eq_true (by omega)
                              clear c27
                              obtain ⟨ji28, hji28⟩ : ∃ j_ : Int, (wrap64 ((x4_1.length : Int) - 1)) = j_ := ⟨_, rfl⟩
                              replace H : (if 0 ≤ (ji28) then (if (ji28) < (x4_1.length : Int) then (if ((rd_T57 x4_1 (ji28)).f0 = true) then (if x4_1.length < 5864062014805 then (cruciblelaw3_PieceJoin.l0 kj4 l0 (x3_1 ++ (⟨#[36, 36]⟩ : ByteArray)) (x4_1 ++ [(⟨false, rdOf ByteArray.empty y391 (ji22)⟩ : S57)]) (wrap64 (x5_1 + 1))) else (none)) else (if ((rd_T57 x4_1 (ji28)).f1).size + (rdOf ByteArray.empty y391 (ji22)).size ≤ 9223372036854775807 then (cruciblelaw3_PieceJoin.l0 kj4 l0 (x3_1 ++ (⟨#[36, 36]⟩ : ByteArray)) (x4_1.set ((ji28) : Int).toNat (⟨(rd_T57 x4_1 (ji28)).f0, ((rd_T57 x4_1 (ji28)).f1) ++ (rdOf ByteArray.empty y391 (ji22))⟩ : S57)) (wrap64 (x5_1 + 1))) else (none))) else (none)) else (none)) = some r := by first | (rw [hji28] at H; exact H) | (simp only [hji28] at H ⊢; exact H)
                              have hji28w : (IntKind.i64.wrap ((x4_1.length : Int) - 1)) = ji28 := (i64_w _).trans hji28
                              by_cases c29 : 0 ≤ (ji28)
                              · rw [if_pos c29] at H
                                have c29b0 : decide (0 ≤ (ji28)) = true := decide_eq_true c29
                                clear c29
                                by_cases c30 : (ji28) < (x4_1.length : Int)
                                · rw [if_pos c30] at H
                                  have c30b0 : decide ((ji28) < (x4_1.length : Int)) = true := decide_eq_true c30
                                  clear c30
                                  obtain ⟨bq31, hbq31⟩ : ∃ b_ : Bool, b_ = ((rd_T57 x4_1 (ji28)).f0) := ⟨_, rfl⟩
                                  replace H : (if (bq31 = true) then (if x4_1.length < 5864062014805 then (cruciblelaw3_PieceJoin.l0 kj4 l0 (x3_1 ++ (⟨#[36, 36]⟩ : ByteArray)) (x4_1 ++ [(⟨false, rdOf ByteArray.empty y391 (ji22)⟩ : S57)]) (wrap64 (x5_1 + 1))) else (none)) else (if ((rd_T57 x4_1 (ji28)).f1).size + (rdOf ByteArray.empty y391 (ji22)).size ≤ 9223372036854775807 then (cruciblelaw3_PieceJoin.l0 kj4 l0 (x3_1 ++ (⟨#[36, 36]⟩ : ByteArray)) (x4_1.set ((ji28) : Int).toNat (⟨bq31, ((rd_T57 x4_1 (ji28)).f1) ++ (rdOf ByteArray.empty y391 (ji22))⟩ : S57)) (wrap64 (x5_1 + 1))) else (none))) = some r := by rw [← hbq31] at H; exact H
                                  have Nbq31 := Aside0.mk hbq31
                                  clear hbq31
                                  by_cases c32 : (bq31 = true)
                                  · subst c32
                                    have H1 : (if x4_1.length < 5864062014805 then (cruciblelaw3_PieceJoin.l0 kj4 l0 (x3_1 ++ (⟨#[36, 36]⟩ : ByteArray)) (x4_1 ++ [(⟨false, rdOf ByteArray.empty y391 (ji22)⟩ : S57)]) (wrap64 (x5_1 + 1))) else (none)) = some r := by rw [if_pos rfl] at H; exact H
                                    clear H
                                    have H := H1
                                    clear H1
                                    by_cases c33 : x4_1.length < 5864062014805
                                    · rw [if_pos c33] at H
                                      have LMc33 := Aside0.mk c33
                                      clear c33
                                      obtain ⟨y397, hy397⟩ : ∃ y_ : List (S57), y_ = (x4_1 ++ [(⟨false, rdOf ByteArray.empty y391 (ji22)⟩ : S57)]) := ⟨_, rfl⟩
                                      replace H : (cruciblelaw3_PieceJoin.l0 kj4 l0 (x3_1 ++ (⟨#[36, 36]⟩ : ByteArray)) y397 (wrap64 (x5_1 + 1))) = some r := by first | (rw [hy397]; with_reducible exact H) | (have H2_ := (Option.bind_some _ _).symm.trans H; rw [hy397]; with_reducible exact H2_) | (have H2_ := (Option.bind_some _ _).symm.trans H; with_reducible exact H2_) | with_reducible exact H | (rw [hy397]; exact H) | exact H
                                      have Ny397 := Aside0.mk hy397
                                      clear hy397
                                      have H' := Aside0.mk H
                                      clear H
                                      have p382 : 0 ≤ (x5_1 : Int) := of_decide_eq_true (by first | (with_reducible assumption) | assumption)
                                      have q382 : x5_1 < (l0.length : Int) := of_decide_eq_true (by first | (with_reducible assumption) | assumption)
                                      obtain ⟨ad382, e382, hx382_0⟩ := Kd.at_int HR0.out x5_1 p382 q382
                                      cases e382
                                      replace hx382_0 := (HB.out.cell (World.block_lt_of_cell? w _ hx382_0)).trans hx382_0
                                      replace p382 := eq_true p382
                                      replace q382 := eq_true q382
                                      go_wp2_with (first | ((with_reducible refine gate_dst (N := 50) rfl ?_); (try (refine gate_guard (by rfl) ?_; dsimp only)); refine Kd.R_lit Kd.string _ 9 ?hg (N := 50) ?hd (xs := ([(⟨#[113]⟩ : ByteArray), (⟨#[36]⟩ : ByteArray), (⟨#[32]⟩ : ByteArray), (⟨#[58]⟩ : ByteArray), (⟨#[125]⟩ : ByteArray)] : List ByteArray)) (inner := [.string (⟨#[113]⟩ : ByteArray), .string (⟨#[36]⟩ : ByteArray), .string (⟨#[32]⟩ : ByteArray), .string (⟨#[58]⟩ : ByteArray), .string (⟨#[125]⟩ : ByteArray)]) (ok := fun _ => True) (okp := fun _ => True) ?hr ?hp (fun _ hk => hk) trivial (Below.refl _ _) (Nat.le_refl _) (by simp) ?_; (case hd => rfl); (case hg => rfl); (case hr => first | (go_simp; done) | (go_simp; rfl)); (case hp => exact (Reps.one (show Kd.M Kd.string _ _ _ (⟨#[113]⟩ : ByteArray) [.string (⟨#[113]⟩ : ByteArray)] from rfl) (Reps.one (show Kd.M Kd.string _ _ _ (⟨#[36]⟩ : ByteArray) [.string (⟨#[36]⟩ : ByteArray)] from rfl) (Reps.one (show Kd.M Kd.string _ _ _ (⟨#[32]⟩ : ByteArray) [.string (⟨#[32]⟩ : ByteArray)] from rfl) (Reps.one (show Kd.M Kd.string _ _ _ (⟨#[58]⟩ : ByteArray) [.string (⟨#[58]⟩ : ByteArray)] from rfl) (Reps.one (show Kd.M Kd.string _ _ _ (⟨#[125]⟩ : ByteArray) [.string (⟨#[125]⟩ : ByteArray)] from rfl) (Reps.none _ _))))))); intro v392 w34 ho35 hb hg_ hnew_; clear hg_ hnew_; (first | rw [← Ny391.out] at ho35 | (simp only [Int.reduceToNat] at ho35; rw [← Ny391.out] at ho35)); have n0_ := Aside0.mk (Kd.R_below (by (with_reducible repeat (first | apply Kd.R_alloc | apply Kd.R_drewN | apply Kd.R_drew)); exact HO_4.out) hb); have n1_ := Aside0.mk (Kd.R_lower ho35 (below_size (by repeat (first | (with_reducible first | exact HB.out | apply below_alloc | apply pw_below_drewN | apply below_drew1) | exact HB.out)))); have n2_ := Aside0.mk (below_step (by repeat (first | (with_reducible first | exact HB.out | apply below_alloc | apply pw_below_drewN | apply below_drew1) | exact HB.out)) hb); clear HO_4; clear HB; have HO_4 := n0_; have HO393 := n1_; have HB := n2_; clear n0_ n1_ n2_; clear hb ho35; have p394 : 0 ≤ (x5_1 : Int) := of_decide_eq_true (by first | (with_reducible assumption) | assumption); have q394 : x5_1 < (l0.length : Int) := of_decide_eq_true (by first | (with_reducible assumption) | assumption); obtain ⟨ad394, e394, hx394_0⟩ := Kd.at_int HR0.out x5_1 p394 q394; obtain rfl : ad382 = ad394 := (by injection e394); replace hx394_0 := (HB.out.cell (World.block_lt_of_cell? w _ hx394_0)).trans hx394_0; replace p394 := eq_true p394; replace q394 := eq_true q394; obtain ⟨Ao36, co36, eo36⟩ := Kd.R_slice HO393.out; subst eo36; have p395 : 0 ≤ ((ji22) : Int) := of_decide_eq_true (by first | (with_reducible assumption) | assumption); have q395 : (ji22) < (y391.length : Int) := of_decide_eq_true (by first | (with_reducible assumption) | assumption); obtain ⟨ad395, e395, hx395_0⟩ := Kd.at_string (Kd.R_reads' HO393.out).2.2 (ji22) p395 q395; cases e395; replace p395 := eq_true p395; replace q395 := eq_true q395; obtain ⟨Ao37, co37, eo37⟩ := Kd.R_slice HO_4.out; subst eo37; have p396 : 0 ≤ ((ji28) : Int) := of_decide_eq_true (by first | (with_reducible assumption) | assumption); have q396 : (ji28) < (x4_1.length : Int) := of_decide_eq_true (by first | (with_reducible assumption) | assumption); obtain ⟨ad396, e396, hx396_0, hx396_1⟩ := at_T57 (Kd.R_reads' HO_4.out).2.2 (ji28) p396 q396; (try rw [← Nbq31.out] at hx396_0); cases e396; replace p396 := eq_true p396; replace q396 := eq_true q396) | ((with_reducible refine gate_builtin (b := .append) (xs := #[.tmp 95, .tmp 98]) rfl ?_); (try (refine gate_guard (by rfl) ?_; dsimp only)); at_builtin; refine Kd.R_append k57 (w0 := w) w.heap.size rfl (.tmp 95) (.tmp 98) 48 57 (.agg #[(.bool false), (.string ⟨#[]⟩)]) 24 rfl Try.underlying48 info57 rfl (by decide) (by omega) (.slice (some ad396) x4_1.length co37) x4_1 (⟨false, rdOf ByteArray.empty y391 (ji22)⟩ : S57) [.bool false, .string (rdOf ByteArray.empty y391 (ji22))] (fun _ => True) (fun _ => False) rfl rfl ?aP (fun _ hk => hk.elim) ?aF ?aO ?aB ?aS ?aL ?_; (case aP => exact k57_mkM _ _ _ (⟨false, rdOf ByteArray.empty y391 (ji22)⟩ : S57)); (case aB => exact (by repeat (first | (with_reducible first | exact HB.out | apply below_alloc | apply pw_below_drewN | apply below_drew1) | exact HB.out))); (case aF => exact (fun _ _ => trivial)); (case aO => exact (by (with_reducible repeat (first | apply Kd.R_alloc | apply Kd.R_drewN | apply Kd.R_drew)); exact HO_4.out)); (case aS => exact (below_size (by repeat (first | (with_reducible first | exact HB.out | apply below_alloc | apply pw_below_drewN | apply below_drew1) | exact HB.out)))); (case aL => have := LMc33.out; omega); intro v398 w38 ho hb hg hat; rw [← Ny397.out] at ho; have n0_ := Aside0.mk (Kd.R_over' (by (with_reducible repeat (first | apply Kd.R_alloc | apply Kd.R_drewN | apply Kd.R_drew)); exact HO393.out) (Kd.R_typed (by (with_reducible repeat (first | apply Kd.R_alloc | apply Kd.R_drewN | apply Kd.R_drew)); exact HO_4.out)) (by decide) hg); have n1_ := Aside0.mk (hb); have n2_ := Aside0.mk (ho); clear HO393; clear HB; clear HO_4; have HO393 := n0_; have HB := n1_; have HO399 := n2_; clear n0_ n1_ n2_; clear ho hb hg hat))
                                      go_roundg kj4
                                      case measure => have := HK1.out; have := HJ4.out; omega
                                      case rel => exact ⟨(x3_1 ++ (⟨#[36, 36]⟩ : ByteArray)), (y397), (wrap64 (x5_1 + 1)), (by first | rfl | (simp; done) | (simp [*]; done)), (by first | rfl | (simp; done) | (simp [*]; done)), H', ⟨by have := HK1.out; have := HJ4.out; omega⟩, ⟨by (with_reducible repeat (first | apply Kd.R_alloc | apply Kd.R_drewN | apply Kd.R_drew)); exact HO399.out⟩, ⟨by repeat (first | (with_reducible first | exact HB.out | apply below_alloc | apply pw_below_drewN | apply below_drew1) | exact HB.out)⟩⟩
                                    · rw [if_neg c33] at H
                                      exact absurd H (by simp)
                                  · replace c32 := Bool.eq_false_iff.mpr c32
                                    subst c32
                                    have H1 : (if ((rd_T57 x4_1 (ji28)).f1).size + (rdOf ByteArray.empty y391 (ji22)).size ≤ 9223372036854775807 then (cruciblelaw3_PieceJoin.l0 kj4 l0 (x3_1 ++ (⟨#[36, 36]⟩ : ByteArray)) (x4_1.set ((ji28) : Int).toNat (⟨false, ((rd_T57 x4_1 (ji28)).f1) ++ (rdOf ByteArray.empty y391 (ji22))⟩ : S57)) (wrap64 (x5_1 + 1))) else (none)) = some r := by rw [if_neg (show ¬ (false = true) by decide)] at H; exact H
                                    clear H
                                    have H := H1
                                    clear H1
                                    by_cases c39 : ((rd_T57 x4_1 (ji28)).f1).size + (rdOf ByteArray.empty y391 (ji22)).size ≤ 9223372036854775807
                                    · rw [if_pos c39] at H
                                      have c39b0 := eq_true c39
                                      have c39b1 : decide (((rd_T57 x4_1 (ji28)).f1).size + (rdOf ByteArray.empty y391 (ji22)).size ≤ 9223372036854775807) = true := decide_eq_true c39
                                      try have c39b2 : (9223372036854775807 < ((rd_T57 x4_1 (ji28)).f1).size + (rdOf ByteArray.empty y391 (ji22)).size) = False := eq_false (Nat.not_lt.2 c39)
                                      obtain ⟨y401, hy401⟩ : ∃ y_ : List (S57), y_ = (x4_1.set ((ji28) : Int).toNat (⟨false, ((rd_T57 x4_1 (ji28)).f1) ++ (rdOf ByteArray.empty y391 (ji22))⟩ : S57)) := ⟨_, rfl⟩
                                      replace H : (cruciblelaw3_PieceJoin.l0 kj4 l0 (x3_1 ++ (⟨#[36, 36]⟩ : ByteArray)) y401 (wrap64 (x5_1 + 1))) = some r := by first | (rw [hy401]; with_reducible exact H) | (have H2_ := (Option.bind_some _ _).symm.trans H; rw [hy401]; with_reducible exact H2_) | (have H2_ := (Option.bind_some _ _).symm.trans H; with_reducible exact H2_) | with_reducible exact H | (rw [hy401]; exact H) | exact H
                                      have Ny401 := Aside0.mk hy401
                                      clear hy401
                                      have H' := Aside0.mk H
                                      clear H
                                      have p382 : 0 ≤ (x5_1 : Int) := of_decide_eq_true (by first | (with_reducible assumption) | assumption)
                                      have q382 : x5_1 < (l0.length : Int) := of_decide_eq_true (by first | (with_reducible assumption) | assumption)
                                      obtain ⟨ad382, e382, hx382_0⟩ := Kd.at_int HR0.out x5_1 p382 q382
                                      cases e382
                                      replace hx382_0 := (HB.out.cell (World.block_lt_of_cell? w _ hx382_0)).trans hx382_0
                                      replace p382 := eq_true p382
                                      replace q382 := eq_true q382
                                      go_wp2_with (first | ((with_reducible refine gate_dst (N := 50) rfl ?_); (try (refine gate_guard (by rfl) ?_; dsimp only)); refine Kd.R_lit Kd.string _ 9 ?hg (N := 50) ?hd (xs := ([(⟨#[113]⟩ : ByteArray), (⟨#[36]⟩ : ByteArray), (⟨#[32]⟩ : ByteArray), (⟨#[58]⟩ : ByteArray), (⟨#[125]⟩ : ByteArray)] : List ByteArray)) (inner := [.string (⟨#[113]⟩ : ByteArray), .string (⟨#[36]⟩ : ByteArray), .string (⟨#[32]⟩ : ByteArray), .string (⟨#[58]⟩ : ByteArray), .string (⟨#[125]⟩ : ByteArray)]) (ok := fun _ => True) (okp := fun _ => True) ?hr ?hp (fun _ hk => hk) trivial (Below.refl _ _) (Nat.le_refl _) (by simp) ?_; (case hd => rfl); (case hg => rfl); (case hr => first | (go_simp; done) | (go_simp; rfl)); (case hp => exact (Reps.one (show Kd.M Kd.string _ _ _ (⟨#[113]⟩ : ByteArray) [.string (⟨#[113]⟩ : ByteArray)] from rfl) (Reps.one (show Kd.M Kd.string _ _ _ (⟨#[36]⟩ : ByteArray) [.string (⟨#[36]⟩ : ByteArray)] from rfl) (Reps.one (show Kd.M Kd.string _ _ _ (⟨#[32]⟩ : ByteArray) [.string (⟨#[32]⟩ : ByteArray)] from rfl) (Reps.one (show Kd.M Kd.string _ _ _ (⟨#[58]⟩ : ByteArray) [.string (⟨#[58]⟩ : ByteArray)] from rfl) (Reps.one (show Kd.M Kd.string _ _ _ (⟨#[125]⟩ : ByteArray) [.string (⟨#[125]⟩ : ByteArray)] from rfl) (Reps.none _ _))))))); intro v392 w41 ho42 hb hg_ hnew_; clear hg_ hnew_; (first | rw [← Ny391.out] at ho42 | (simp only [Int.reduceToNat] at ho42; rw [← Ny391.out] at ho42)); have n0_ := Aside0.mk (Kd.R_below (by (with_reducible repeat (first | apply Kd.R_alloc | apply Kd.R_drewN | apply Kd.R_drew)); exact HO_4.out) hb); have n1_ := Aside0.mk (Kd.R_lower ho42 (below_size (by repeat (first | (with_reducible first | exact HB.out | apply below_alloc | apply pw_below_drewN | apply below_drew1) | exact HB.out)))); have n2_ := Aside0.mk (below_step (by repeat (first | (with_reducible first | exact HB.out | apply below_alloc | apply pw_below_drewN | apply below_drew1) | exact HB.out)) hb); clear HO_4; clear HB; have HO_4 := n0_; have HO393 := n1_; have HB := n2_; clear n0_ n1_ n2_; clear hb ho42; have p394 : 0 ≤ (x5_1 : Int) := of_decide_eq_true (by first | (with_reducible assumption) | assumption); have q394 : x5_1 < (l0.length : Int) := of_decide_eq_true (by first | (with_reducible assumption) | assumption); obtain ⟨ad394, e394, hx394_0⟩ := Kd.at_int HR0.out x5_1 p394 q394; obtain rfl : ad382 = ad394 := (by injection e394); replace hx394_0 := (HB.out.cell (World.block_lt_of_cell? w _ hx394_0)).trans hx394_0; replace p394 := eq_true p394; replace q394 := eq_true q394; obtain ⟨Ao43, co43, eo43⟩ := Kd.R_slice HO393.out; subst eo43; have p395 : 0 ≤ ((ji22) : Int) := of_decide_eq_true (by first | (with_reducible assumption) | assumption); have q395 : (ji22) < (y391.length : Int) := of_decide_eq_true (by first | (with_reducible assumption) | assumption); obtain ⟨ad395, e395, hx395_0⟩ := Kd.at_string (Kd.R_reads' HO393.out).2.2 (ji22) p395 q395; cases e395; replace p395 := eq_true p395; replace q395 := eq_true q395; obtain ⟨Ao44, co44, eo44⟩ := Kd.R_slice HO_4.out; subst eo44; have p396 : 0 ≤ ((ji28) : Int) := of_decide_eq_true (by first | (with_reducible assumption) | assumption); have q396 : (ji28) < (x4_1.length : Int) := of_decide_eq_true (by first | (with_reducible assumption) | assumption); obtain ⟨ad396, e396, hx396_0, hx396_1⟩ := at_T57 (Kd.R_reads' HO_4.out).2.2 (ji28) p396 q396; (try rw [← Nbq31.out] at hx396_0); cases e396; replace p396 := eq_true p396; replace q396 := eq_true q396; have p400 : 0 ≤ ((ji28) : Int) := of_decide_eq_true (by first | (with_reducible assumption) | assumption); have q400 : (ji28) < (x4_1.length : Int) := of_decide_eq_true (by first | (with_reducible assumption) | assumption); obtain ⟨ad400, e400, hx400_0, hx400_1⟩ := at_T57 (Kd.R_reads' HO_4.out).2.2 (ji28) p400 q400; (try rw [← Nbq31.out] at hx400_0); obtain rfl : ad396 = ad400 := (by injection e400); replace p400 := eq_true p400; replace q400 := eq_true q400; have p40 : 0 ≤ ((ji28) : Int) := of_decide_eq_true (by first | (with_reducible assumption) | assumption); have q40 : ((ji28) : Int) < ((x4_1.length : Int) : Int) := of_decide_eq_true (by first | (with_reducible assumption) | assumption); obtain ⟨go40, co40, eo40, gb40, gl40, cl40, HG40⟩ := Kd.R_form HO_4.out (by omega); (first | cases eo40 | (injection eo40 with ea_ en_ ec_; (first | subst ea_ | (injection ea_ with ea_; subst ea_)); subst ec_; clear en_)); have GB40 := Aside0.mk gb40; have GG40 := Aside0.mk HG40; clear gb40 gl40 HG40; (first | simp only [add_plain] at hx396_0 | skip); (first | simp only [add_plain] at hx396_1 | skip); (first | simp only [add_plain] at hx400_0 | skip); (first | simp only [add_plain] at hx400_1 | skip); obtain ⟨ce40, hcl40, hM40, hcc40, hfr40⟩ := Kd.R_elem HO_4.out z57 ((ji28) : Int) p40 q40; obtain rfl := k57_openM hM40; have hx40_0 : w41.cell? ⟨go40, ((ji28) : Int).toNat * 2, none⟩ = some (.bool ((rd_T57 x4_1 (ji28)).f0)) := hcc40 0 _ rfl; have hx40_1 : w41.cell? ⟨go40, ((ji28) : Int).toNat * 2 + 1, none⟩ = some (.string ((rd_T57 x4_1 (ji28)).f1)) := hcc40 1 _ rfl; have hf40_0 : w41.frozen? ⟨go40, ((ji28) : Int).toNat * 2, none⟩ = false := hfr40 0; have hf40_1 : w41.frozen? ⟨go40, ((ji28) : Int).toNat * 2 + 1, none⟩ = false := hfr40 1; clear hcl40 hcc40 hfr40 hM40; replace p40 := eq_true p40; replace q40 := eq_true q40; have HX45 := Aside0.mk (show Kd.R k57 57 w41 w.heap.size (fun _ => True) (.slice (some ⟨go40, 0, none⟩) x4_1.length co44) x4_1 from (by (with_reducible repeat (first | apply Kd.R_alloc | apply Kd.R_drewN | apply Kd.R_drew)); exact HO_4.out)); obtain ⟨ce45, hcl45, hM45, hcc45, hfr45⟩ := Kd.R_elem HX45.out z57 ((ji28) : Int) (of_decide_eq_true (by first | (with_reducible assumption) | assumption)) (by have h_ : ((ji28) : Int) < ((x4_1.length : Int) : Int) := of_decide_eq_true (by first | (with_reducible assumption) | assumption); first | exact h_ | (have e_ := (Kd.R_reads' HO_4.out).1; omega) | simpa using h_); obtain rfl := k57_openM hM45; have HP45 := Kd.R_seg HX45.out ((ji28) : Int) (of_decide_eq_true (by first | (with_reducible assumption) | assumption)) (by have h_ : ((ji28) : Int) < ((x4_1.length : Int) : Int) := of_decide_eq_true (by first | (with_reducible assumption) | assumption); first | exact h_ | (have e_ := (Kd.R_reads' HO_4.out).1; omega) | simpa using h_) (seg := [.string (((rd_T57 x4_1 (ji28)).f1) ++ (rdOf ByteArray.empty y391 (ji22)))]) (j := 1) hcl45 hcc45 (show 2 ≤ 2 from by decide) (x' := (⟨(rd_T57 x4_1 (ji28)).f0, ((rd_T57 x4_1 (ji28)).f1) ++ (rdOf ByteArray.empty y391 (ji22))⟩ : S57)) (k57_mkM _ _ _ (⟨(rd_T57 x4_1 (ji28)).f0, ((rd_T57 x4_1 (ji28)).f1) ++ (rdOf ByteArray.empty y391 (ji22))⟩ : S57) ) (fun _ hk => hk); have hx45_1 := hcc45 1 _ rfl; (try simp only [show (k57).sz = 2 from rfl, Nat.mul_one, Nat.add_zero] at hx45_1); have hf45_1 := hfr45 1; (try simp only [show (k57).sz = 2 from rfl, Nat.mul_one, Nat.add_zero] at hf45_1); clear hcl45 hcc45 hfr45 hM45) | ((with_reducible refine gate_store (t := 9) (p := 94) rfl ?_); refine store_event (t := 9) (p := 94) (v := ?vo_w46) (w1 := (w41.setCell ⟨go40, ((ji28) : Int).toNat * 2 + 1, none⟩ (.string (((rd_T57 x4_1 (ji28)).f1) ++ (rdOf ByteArray.empty y391 (ji22)))))) ?hg ?ho ?hn ?hr ?_; (case ho => rfl); (case hg => rfl); (case hn => rfl); (case hr => first | (go_simp; done) | (go_simp; rfl)); intro w46 hw; have hg : w41.grownBy w46 (some go40) := (by rw [hw]; exact HP45.2); have hp_ : Kd.R k57 57 w46 w.heap.size (fun _ => True) (.slice (some ⟨go40, 0, none⟩) x4_1.length co44) y401 := (by rw [hw, Ny401.out]; rw [← Nbq31.out] at HP45; exact HP45.1); clear HP45; have n0_ := Aside0.mk (hp_); have n1_ := Aside0.mk (Kd.R_over' (v := (.slice (some ⟨go40, 0, none⟩) x4_1.length co44)) (by (with_reducible repeat (first | apply Kd.R_alloc | apply Kd.R_drewN | apply Kd.R_drew)); exact HO393.out) (Kd.R_typed HO_4.out) (by decide) hg); have n2_ := Aside0.mk ((by rw [hw]; exact below_set (HB.out) GB40.out : Below w.heap.size w w46)); clear HO_4; clear HO393; clear HB; have HO_4 := n0_; have HO393 := n1_; have HB := n2_; clear n0_ n1_ n2_; clear hg hw hp_))
                                      go_roundg kj4
                                      case measure => have := HK1.out; have := HJ4.out; omega
                                      case rel => exact ⟨(x3_1 ++ (⟨#[36, 36]⟩ : ByteArray)), (y401), (wrap64 (x5_1 + 1)), (by first | rfl | (simp; done) | (simp [*]; done)), (by first | rfl | (simp; done) | (simp [*]; done)), H', ⟨by have := HK1.out; have := HJ4.out; omega⟩, ⟨by (with_reducible repeat (first | apply Kd.R_alloc | apply Kd.R_drewN | apply Kd.R_drew)); exact HO_4.out⟩, ⟨by repeat (first | (with_reducible first | exact HB.out | apply below_alloc | apply pw_below_drewN | apply below_drew1) | exact HB.out)⟩⟩
                                    · rw [if_neg c39] at H
                                      exact absurd H (by simp)
                                · rw [if_neg c30] at H
                                  exact absurd H (by simp)
                              · rw [if_neg c29] at H
                                exact absurd H (by simp)
                            · rw [if_neg c27] at H
                              have c27b0 : decide (0 < (x4_1.length : Int)) = false := decide_eq_false c27
                              have c27b1 : decide (0 < x4_1.length) = false := decide_eq_false (by omega)
                              clear c27
                              by_cases c47 : x4_1.length < 5864062014805
                              · rw [if_pos c47] at H
                                have LMc47 := Aside0.mk c47
                                clear c47
                                obtain ⟨y402, hy402⟩ : ∃ y_ : List (S57), y_ = (x4_1 ++ [(⟨false, rdOf ByteArray.empty y391 (ji22)⟩ : S57)]) := ⟨_, rfl⟩
                                replace H : (cruciblelaw3_PieceJoin.l0 kj4 l0 (x3_1 ++ (⟨#[36, 36]⟩ : ByteArray)) y402 (wrap64 (x5_1 + 1))) = some r := by first | (rw [hy402]; with_reducible exact H) | (have H2_ := (Option.bind_some _ _).symm.trans H; rw [hy402]; with_reducible exact H2_) | (have H2_ := (Option.bind_some _ _).symm.trans H; with_reducible exact H2_) | with_reducible exact H | (rw [hy402]; exact H) | exact H
                                have Ny402 := Aside0.mk hy402
                                clear hy402
                                have H' := Aside0.mk H
                                clear H
                                have p382 : 0 ≤ (x5_1 : Int) := of_decide_eq_true (by first | (with_reducible assumption) | assumption)
                                have q382 : x5_1 < (l0.length : Int) := of_decide_eq_true (by first | (with_reducible assumption) | assumption)
                                obtain ⟨ad382, e382, hx382_0⟩ := Kd.at_int HR0.out x5_1 p382 q382
                                cases e382
                                replace hx382_0 := (HB.out.cell (World.block_lt_of_cell? w _ hx382_0)).trans hx382_0
                                replace p382 := eq_true p382
                                replace q382 := eq_true q382
                                go_wp2_with (first | ((with_reducible refine gate_dst (N := 50) rfl ?_); (try (refine gate_guard (by rfl) ?_; dsimp only)); refine Kd.R_lit Kd.string _ 9 ?hg (N := 50) ?hd (xs := ([(⟨#[113]⟩ : ByteArray), (⟨#[36]⟩ : ByteArray), (⟨#[32]⟩ : ByteArray), (⟨#[58]⟩ : ByteArray), (⟨#[125]⟩ : ByteArray)] : List ByteArray)) (inner := [.string (⟨#[113]⟩ : ByteArray), .string (⟨#[36]⟩ : ByteArray), .string (⟨#[32]⟩ : ByteArray), .string (⟨#[58]⟩ : ByteArray), .string (⟨#[125]⟩ : ByteArray)]) (ok := fun _ => True) (okp := fun _ => True) ?hr ?hp (fun _ hk => hk) trivial (Below.refl _ _) (Nat.le_refl _) (by simp) ?_; (case hd => rfl); (case hg => rfl); (case hr => first | (go_simp; done) | (go_simp; rfl)); (case hp => exact (Reps.one (show Kd.M Kd.string _ _ _ (⟨#[113]⟩ : ByteArray) [.string (⟨#[113]⟩ : ByteArray)] from rfl) (Reps.one (show Kd.M Kd.string _ _ _ (⟨#[36]⟩ : ByteArray) [.string (⟨#[36]⟩ : ByteArray)] from rfl) (Reps.one (show Kd.M Kd.string _ _ _ (⟨#[32]⟩ : ByteArray) [.string (⟨#[32]⟩ : ByteArray)] from rfl) (Reps.one (show Kd.M Kd.string _ _ _ (⟨#[58]⟩ : ByteArray) [.string (⟨#[58]⟩ : ByteArray)] from rfl) (Reps.one (show Kd.M Kd.string _ _ _ (⟨#[125]⟩ : ByteArray) [.string (⟨#[125]⟩ : ByteArray)] from rfl) (Reps.none _ _))))))); intro v392 w48 ho49 hb hg_ hnew_; clear hg_ hnew_; (first | rw [← Ny391.out] at ho49 | (simp only [Int.reduceToNat] at ho49; rw [← Ny391.out] at ho49)); have n0_ := Aside0.mk (Kd.R_below (by (with_reducible repeat (first | apply Kd.R_alloc | apply Kd.R_drewN | apply Kd.R_drew)); exact HO_4.out) hb); have n1_ := Aside0.mk (Kd.R_lower ho49 (below_size (by repeat (first | (with_reducible first | exact HB.out | apply below_alloc | apply pw_below_drewN | apply below_drew1) | exact HB.out)))); have n2_ := Aside0.mk (below_step (by repeat (first | (with_reducible first | exact HB.out | apply below_alloc | apply pw_below_drewN | apply below_drew1) | exact HB.out)) hb); clear HO_4; clear HB; have HO_4 := n0_; have HO393 := n1_; have HB := n2_; clear n0_ n1_ n2_; clear hb ho49; have p394 : 0 ≤ (x5_1 : Int) := of_decide_eq_true (by first | (with_reducible assumption) | assumption); have q394 : x5_1 < (l0.length : Int) := of_decide_eq_true (by first | (with_reducible assumption) | assumption); obtain ⟨ad394, e394, hx394_0⟩ := Kd.at_int HR0.out x5_1 p394 q394; obtain rfl : ad382 = ad394 := (by injection e394); replace hx394_0 := (HB.out.cell (World.block_lt_of_cell? w _ hx394_0)).trans hx394_0; replace p394 := eq_true p394; replace q394 := eq_true q394; obtain ⟨Ao50, co50, eo50⟩ := Kd.R_slice HO393.out; subst eo50; have p395 : 0 ≤ ((ji22) : Int) := of_decide_eq_true (by first | (with_reducible assumption) | assumption); have q395 : (ji22) < (y391.length : Int) := of_decide_eq_true (by first | (with_reducible assumption) | assumption); obtain ⟨ad395, e395, hx395_0⟩ := Kd.at_string (Kd.R_reads' HO393.out).2.2 (ji22) p395 q395; cases e395; replace p395 := eq_true p395; replace q395 := eq_true q395; obtain ⟨Ao51, co51, eo51⟩ := Kd.R_slice HO_4.out; subst eo51) | ((with_reducible refine gate_builtin (b := .append) (xs := #[.tmp 95, .tmp 98]) rfl ?_); (try (refine gate_guard (by rfl) ?_; dsimp only)); at_builtin; refine Kd.R_append k57 (w0 := w) w.heap.size rfl (.tmp 95) (.tmp 98) 48 57 (.agg #[(.bool false), (.string ⟨#[]⟩)]) 24 rfl Try.underlying48 info57 rfl (by decide) (by omega) (.slice Ao51 x4_1.length co51) x4_1 (⟨false, rdOf ByteArray.empty y391 (ji22)⟩ : S57) [.bool false, .string (rdOf ByteArray.empty y391 (ji22))] (fun _ => True) (fun _ => False) rfl rfl ?aP (fun _ hk => hk.elim) ?aF ?aO ?aB ?aS ?aL ?_; (case aP => exact k57_mkM _ _ _ (⟨false, rdOf ByteArray.empty y391 (ji22)⟩ : S57)); (case aB => exact (by repeat (first | (with_reducible first | exact HB.out | apply below_alloc | apply pw_below_drewN | apply below_drew1) | exact HB.out))); (case aF => exact (fun _ _ => trivial)); (case aO => exact (by (with_reducible repeat (first | apply Kd.R_alloc | apply Kd.R_drewN | apply Kd.R_drew)); exact HO_4.out)); (case aS => exact (below_size (by repeat (first | (with_reducible first | exact HB.out | apply below_alloc | apply pw_below_drewN | apply below_drew1) | exact HB.out)))); (case aL => have := LMc47.out; omega); intro v403 w52 ho hb hg hat; rw [← Ny402.out] at ho; have n0_ := Aside0.mk (Kd.R_over' (by (with_reducible repeat (first | apply Kd.R_alloc | apply Kd.R_drewN | apply Kd.R_drew)); exact HO393.out) (Kd.R_typed (by (with_reducible repeat (first | apply Kd.R_alloc | apply Kd.R_drewN | apply Kd.R_drew)); exact HO_4.out)) (by decide) hg); have n1_ := Aside0.mk (hb); have n2_ := Aside0.mk (ho); clear HO393; clear HB; clear HO_4; have HO393 := n0_; have HB := n1_; have HO404 := n2_; clear n0_ n1_ n2_; clear ho hb hg hat))
                                go_roundg kj4
                                case measure => have := HK1.out; have := HJ4.out; omega
                                case rel => exact ⟨(x3_1 ++ (⟨#[36, 36]⟩ : ByteArray)), (y402), (wrap64 (x5_1 + 1)), (by first | rfl | (simp; done) | (simp [*]; done)), (by first | rfl | (simp; done) | (simp [*]; done)), H', ⟨by have := HK1.out; have := HJ4.out; omega⟩, ⟨by (with_reducible repeat (first | apply Kd.R_alloc | apply Kd.R_drewN | apply Kd.R_drew)); exact HO404.out⟩, ⟨by repeat (first | (with_reducible first | exact HB.out | apply below_alloc | apply pw_below_drewN | apply below_drew1) | exact HB.out)⟩⟩
                              · rw [if_neg c47] at H
                                exact absurd H (by simp)
                          · rw [if_neg c26] at H
                            exact absurd H (by simp)
                        · rw [if_neg c25] at H
                          have c25b0 : ((rdOf ByteArray.empty y391 (ji22)).toList == ([36] : List UInt8)) = false := beq_eq_false_iff_ne.mpr c25
                          have c25b1 : ((rdOf ByteArray.empty y391 (ji22)).toList != ([36] : List UInt8)) = true := bne_iff_ne.mpr c25
                          by_cases c53 : x3_1.size + (rdOf ByteArray.empty y391 (ji22)).size ≤ 9223372036854775807
                          · rw [if_pos c53] at H
                            have c53b0 := eq_true c53
                            have c53b1 : decide (x3_1.size + (rdOf ByteArray.empty y391 (ji22)).size ≤ 9223372036854775807) = true := decide_eq_true c53
                            try have c53b2 : (9223372036854775807 < x3_1.size + (rdOf ByteArray.empty y391 (ji22)).size) = False := eq_false (Nat.not_lt.2 c53)
                            by_cases c54 : (x4_1.length : Int) > 0
                            · rw [if_pos c54] at H
                              have c54b0 : decide (0 < (x4_1.length : Int)) = true := decide_eq_true c54
                              have c54b1 : decide (0 < x4_1.length) = true := decide_eq_true (by omega)
                              clear c54
                              obtain ⟨ji55, hji55⟩ : ∃ j_ : Int, (wrap64 ((x4_1.length : Int) - 1)) = j_ := ⟨_, rfl⟩
                              replace H : (if 0 ≤ (ji55) then (if (ji55) < (x4_1.length : Int) then (if ((rd_T57 x4_1 (ji55)).f0 = true) then (if x4_1.length < 5864062014805 then (cruciblelaw3_PieceJoin.l0 kj4 l0 (x3_1 ++ (rdOf ByteArray.empty y391 (ji22))) (x4_1 ++ [(⟨false, rdOf ByteArray.empty y391 (ji22)⟩ : S57)]) (wrap64 (x5_1 + 1))) else (none)) else (if ((rd_T57 x4_1 (ji55)).f1).size + (rdOf ByteArray.empty y391 (ji22)).size ≤ 9223372036854775807 then (cruciblelaw3_PieceJoin.l0 kj4 l0 (x3_1 ++ (rdOf ByteArray.empty y391 (ji22))) (x4_1.set ((ji55) : Int).toNat (⟨(rd_T57 x4_1 (ji55)).f0, ((rd_T57 x4_1 (ji55)).f1) ++ (rdOf ByteArray.empty y391 (ji22))⟩ : S57)) (wrap64 (x5_1 + 1))) else (none))) else (none)) else (none)) = some r := by first | (rw [hji55] at H; exact H) | (simp only [hji55] at H ⊢; exact H)
                              have hji55w : (IntKind.i64.wrap ((x4_1.length : Int) - 1)) = ji55 := (i64_w _).trans hji55
                              by_cases c56 : 0 ≤ (ji55)
                              · rw [if_pos c56] at H
                                have c56b0 : decide (0 ≤ (ji55)) = true := decide_eq_true c56
                                clear c56
                                by_cases c57 : (ji55) < (x4_1.length : Int)
                                · rw [if_pos c57] at H
                                  have c57b0 : decide ((ji55) < (x4_1.length : Int)) = true := decide_eq_true c57
                                  clear c57
                                  obtain ⟨bq58, hbq58⟩ : ∃ b_ : Bool, b_ = ((rd_T57 x4_1 (ji55)).f0) := ⟨_, rfl⟩
                                  replace H : (if (bq58 = true) then (if x4_1.length < 5864062014805 then (cruciblelaw3_PieceJoin.l0 kj4 l0 (x3_1 ++ (rdOf ByteArray.empty y391 (ji22))) (x4_1 ++ [(⟨false, rdOf ByteArray.empty y391 (ji22)⟩ : S57)]) (wrap64 (x5_1 + 1))) else (none)) else (if ((rd_T57 x4_1 (ji55)).f1).size + (rdOf ByteArray.empty y391 (ji22)).size ≤ 9223372036854775807 then (cruciblelaw3_PieceJoin.l0 kj4 l0 (x3_1 ++ (rdOf ByteArray.empty y391 (ji22))) (x4_1.set ((ji55) : Int).toNat (⟨bq58, ((rd_T57 x4_1 (ji55)).f1) ++ (rdOf ByteArray.empty y391 (ji22))⟩ : S57)) (wrap64 (x5_1 + 1))) else (none))) = some r := by rw [← hbq58] at H; exact H
                                  have Nbq58 := Aside0.mk hbq58
                                  clear hbq58
                                  by_cases c59 : (bq58 = true)
                                  · subst c59
                                    have H1 : (if x4_1.length < 5864062014805 then (cruciblelaw3_PieceJoin.l0 kj4 l0 (x3_1 ++ (rdOf ByteArray.empty y391 (ji22))) (x4_1 ++ [(⟨false, rdOf ByteArray.empty y391 (ji22)⟩ : S57)]) (wrap64 (x5_1 + 1))) else (none)) = some r := by rw [if_pos rfl] at H; exact H
                                    clear H
                                    have H := H1
                                    clear H1
                                    by_cases c60 : x4_1.length < 5864062014805
                                    · rw [if_pos c60] at H
                                      have LMc60 := Aside0.mk c60
                                      clear c60
                                      obtain ⟨y406, hy406⟩ : ∃ y_ : List (S57), y_ = (x4_1 ++ [(⟨false, rdOf ByteArray.empty y391 (ji22)⟩ : S57)]) := ⟨_, rfl⟩
                                      replace H : (cruciblelaw3_PieceJoin.l0 kj4 l0 (x3_1 ++ (rdOf ByteArray.empty y391 (ji22))) y406 (wrap64 (x5_1 + 1))) = some r := by first | (rw [hy406]; with_reducible exact H) | (have H2_ := (Option.bind_some _ _).symm.trans H; rw [hy406]; with_reducible exact H2_) | (have H2_ := (Option.bind_some _ _).symm.trans H; with_reducible exact H2_) | with_reducible exact H | (rw [hy406]; exact H) | exact H
                                      have Ny406 := Aside0.mk hy406
                                      clear hy406
                                      have H' := Aside0.mk H
                                      clear H
                                      have p382 : 0 ≤ (x5_1 : Int) := of_decide_eq_true (by first | (with_reducible assumption) | assumption)
                                      have q382 : x5_1 < (l0.length : Int) := of_decide_eq_true (by first | (with_reducible assumption) | assumption)
                                      obtain ⟨ad382, e382, hx382_0⟩ := Kd.at_int HR0.out x5_1 p382 q382
                                      cases e382
                                      replace hx382_0 := (HB.out.cell (World.block_lt_of_cell? w _ hx382_0)).trans hx382_0
                                      replace p382 := eq_true p382
                                      replace q382 := eq_true q382
                                      go_wp2_with (first | ((with_reducible refine gate_dst (N := 50) rfl ?_); (try (refine gate_guard (by rfl) ?_; dsimp only)); refine Kd.R_lit Kd.string _ 9 ?hg (N := 50) ?hd (xs := ([(⟨#[113]⟩ : ByteArray), (⟨#[36]⟩ : ByteArray), (⟨#[32]⟩ : ByteArray), (⟨#[58]⟩ : ByteArray), (⟨#[125]⟩ : ByteArray)] : List ByteArray)) (inner := [.string (⟨#[113]⟩ : ByteArray), .string (⟨#[36]⟩ : ByteArray), .string (⟨#[32]⟩ : ByteArray), .string (⟨#[58]⟩ : ByteArray), .string (⟨#[125]⟩ : ByteArray)]) (ok := fun _ => True) (okp := fun _ => True) ?hr ?hp (fun _ hk => hk) trivial (Below.refl _ _) (Nat.le_refl _) (by simp) ?_; (case hd => rfl); (case hg => rfl); (case hr => first | (go_simp; done) | (go_simp; rfl)); (case hp => exact (Reps.one (show Kd.M Kd.string _ _ _ (⟨#[113]⟩ : ByteArray) [.string (⟨#[113]⟩ : ByteArray)] from rfl) (Reps.one (show Kd.M Kd.string _ _ _ (⟨#[36]⟩ : ByteArray) [.string (⟨#[36]⟩ : ByteArray)] from rfl) (Reps.one (show Kd.M Kd.string _ _ _ (⟨#[32]⟩ : ByteArray) [.string (⟨#[32]⟩ : ByteArray)] from rfl) (Reps.one (show Kd.M Kd.string _ _ _ (⟨#[58]⟩ : ByteArray) [.string (⟨#[58]⟩ : ByteArray)] from rfl) (Reps.one (show Kd.M Kd.string _ _ _ (⟨#[125]⟩ : ByteArray) [.string (⟨#[125]⟩ : ByteArray)] from rfl) (Reps.none _ _))))))); intro v392 w61 ho62 hb hg_ hnew_; clear hg_ hnew_; (first | rw [← Ny391.out] at ho62 | (simp only [Int.reduceToNat] at ho62; rw [← Ny391.out] at ho62)); have n0_ := Aside0.mk (Kd.R_below (by (with_reducible repeat (first | apply Kd.R_alloc | apply Kd.R_drewN | apply Kd.R_drew)); exact HO_4.out) hb); have n1_ := Aside0.mk (Kd.R_lower ho62 (below_size (by repeat (first | (with_reducible first | exact HB.out | apply below_alloc | apply pw_below_drewN | apply below_drew1) | exact HB.out)))); have n2_ := Aside0.mk (below_step (by repeat (first | (with_reducible first | exact HB.out | apply below_alloc | apply pw_below_drewN | apply below_drew1) | exact HB.out)) hb); clear HO_4; clear HB; have HO_4 := n0_; have HO393 := n1_; have HB := n2_; clear n0_ n1_ n2_; clear hb ho62; have p394 : 0 ≤ (x5_1 : Int) := of_decide_eq_true (by first | (with_reducible assumption) | assumption); have q394 : x5_1 < (l0.length : Int) := of_decide_eq_true (by first | (with_reducible assumption) | assumption); obtain ⟨ad394, e394, hx394_0⟩ := Kd.at_int HR0.out x5_1 p394 q394; obtain rfl : ad382 = ad394 := (by injection e394); replace hx394_0 := (HB.out.cell (World.block_lt_of_cell? w _ hx394_0)).trans hx394_0; replace p394 := eq_true p394; replace q394 := eq_true q394; obtain ⟨Ao63, co63, eo63⟩ := Kd.R_slice HO393.out; subst eo63; have p395 : 0 ≤ ((ji22) : Int) := of_decide_eq_true (by first | (with_reducible assumption) | assumption); have q395 : (ji22) < (y391.length : Int) := of_decide_eq_true (by first | (with_reducible assumption) | assumption); obtain ⟨ad395, e395, hx395_0⟩ := Kd.at_string (Kd.R_reads' HO393.out).2.2 (ji22) p395 q395; cases e395; replace p395 := eq_true p395; replace q395 := eq_true q395; obtain ⟨Ao64, co64, eo64⟩ := Kd.R_slice HO_4.out; subst eo64; have p405 : 0 ≤ ((ji55) : Int) := of_decide_eq_true (by first | (with_reducible assumption) | assumption); have q405 : (ji55) < (x4_1.length : Int) := of_decide_eq_true (by first | (with_reducible assumption) | assumption); obtain ⟨ad405, e405, hx405_0, hx405_1⟩ := at_T57 (Kd.R_reads' HO_4.out).2.2 (ji55) p405 q405; (try rw [← Nbq58.out] at hx405_0); cases e405; replace p405 := eq_true p405; replace q405 := eq_true q405) | ((with_reducible refine gate_builtin (b := .append) (xs := #[.tmp 95, .tmp 98]) rfl ?_); (try (refine gate_guard (by rfl) ?_; dsimp only)); at_builtin; refine Kd.R_append k57 (w0 := w) w.heap.size rfl (.tmp 95) (.tmp 98) 48 57 (.agg #[(.bool false), (.string ⟨#[]⟩)]) 24 rfl Try.underlying48 info57 rfl (by decide) (by omega) (.slice (some ad405) x4_1.length co64) x4_1 (⟨false, rdOf ByteArray.empty y391 (ji22)⟩ : S57) [.bool false, .string (rdOf ByteArray.empty y391 (ji22))] (fun _ => True) (fun _ => False) rfl rfl ?aP (fun _ hk => hk.elim) ?aF ?aO ?aB ?aS ?aL ?_; (case aP => exact k57_mkM _ _ _ (⟨false, rdOf ByteArray.empty y391 (ji22)⟩ : S57)); (case aB => exact (by repeat (first | (with_reducible first | exact HB.out | apply below_alloc | apply pw_below_drewN | apply below_drew1) | exact HB.out))); (case aF => exact (fun _ _ => trivial)); (case aO => exact (by (with_reducible repeat (first | apply Kd.R_alloc | apply Kd.R_drewN | apply Kd.R_drew)); exact HO_4.out)); (case aS => exact (below_size (by repeat (first | (with_reducible first | exact HB.out | apply below_alloc | apply pw_below_drewN | apply below_drew1) | exact HB.out)))); (case aL => have := LMc60.out; omega); intro v407 w65 ho hb hg hat; rw [← Ny406.out] at ho; have n0_ := Aside0.mk (Kd.R_over' (by (with_reducible repeat (first | apply Kd.R_alloc | apply Kd.R_drewN | apply Kd.R_drew)); exact HO393.out) (Kd.R_typed (by (with_reducible repeat (first | apply Kd.R_alloc | apply Kd.R_drewN | apply Kd.R_drew)); exact HO_4.out)) (by decide) hg); have n1_ := Aside0.mk (hb); have n2_ := Aside0.mk (ho); clear HO393; clear HB; clear HO_4; have HO393 := n0_; have HB := n1_; have HO408 := n2_; clear n0_ n1_ n2_; clear ho hb hg hat))
                                      go_roundg kj4
                                      case measure => have := HK1.out; have := HJ4.out; omega
                                      case rel => exact ⟨(x3_1 ++ (rdOf ByteArray.empty y391 (ji22))), (y406), (wrap64 (x5_1 + 1)), (by first | rfl | (simp; done) | (simp only [← hji22] <;> (first | rfl | simp)) | (simp [*]; done)), (by first | rfl | (simp; done) | (simp [*]; done)), H', ⟨by have := HK1.out; have := HJ4.out; omega⟩, ⟨by (with_reducible repeat (first | apply Kd.R_alloc | apply Kd.R_drewN | apply Kd.R_drew)); exact HO408.out⟩, ⟨by repeat (first | (with_reducible first | exact HB.out | apply below_alloc | apply pw_below_drewN | apply below_drew1) | exact HB.out)⟩⟩
                                    · rw [if_neg c60] at H
                                      exact absurd H (by simp)
                                  · replace c59 := Bool.eq_false_iff.mpr c59
                                    subst c59
                                    have H1 : (if ((rd_T57 x4_1 (ji55)).f1).size + (rdOf ByteArray.empty y391 (ji22)).size ≤ 9223372036854775807 then (cruciblelaw3_PieceJoin.l0 kj4 l0 (x3_1 ++ (rdOf ByteArray.empty y391 (ji22))) (x4_1.set ((ji55) : Int).toNat (⟨false, ((rd_T57 x4_1 (ji55)).f1) ++ (rdOf ByteArray.empty y391 (ji22))⟩ : S57)) (wrap64 (x5_1 + 1))) else (none)) = some r := by rw [if_neg (show ¬ (false = true) by decide)] at H; exact H
                                    clear H
                                    have H := H1
                                    clear H1
                                    by_cases c66 : ((rd_T57 x4_1 (ji55)).f1).size + (rdOf ByteArray.empty y391 (ji22)).size ≤ 9223372036854775807
                                    · rw [if_pos c66] at H
                                      have c66b0 := eq_true c66
                                      have c66b1 : decide (((rd_T57 x4_1 (ji55)).f1).size + (rdOf ByteArray.empty y391 (ji22)).size ≤ 9223372036854775807) = true := decide_eq_true c66
                                      try have c66b2 : (9223372036854775807 < ((rd_T57 x4_1 (ji55)).f1).size + (rdOf ByteArray.empty y391 (ji22)).size) = False := eq_false (Nat.not_lt.2 c66)
                                      obtain ⟨y410, hy410⟩ : ∃ y_ : List (S57), y_ = (x4_1.set ((ji55) : Int).toNat (⟨false, ((rd_T57 x4_1 (ji55)).f1) ++ (rdOf ByteArray.empty y391 (ji22))⟩ : S57)) := ⟨_, rfl⟩
                                      replace H : (cruciblelaw3_PieceJoin.l0 kj4 l0 (x3_1 ++ (rdOf ByteArray.empty y391 (ji22))) y410 (wrap64 (x5_1 + 1))) = some r := by first | (rw [hy410]; with_reducible exact H) | (have H2_ := (Option.bind_some _ _).symm.trans H; rw [hy410]; with_reducible exact H2_) | (have H2_ := (Option.bind_some _ _).symm.trans H; with_reducible exact H2_) | with_reducible exact H | (rw [hy410]; exact H) | exact H
                                      have Ny410 := Aside0.mk hy410
                                      clear hy410
                                      have H' := Aside0.mk H
                                      clear H
                                      have p382 : 0 ≤ (x5_1 : Int) := of_decide_eq_true (by first | (with_reducible assumption) | assumption)
                                      have q382 : x5_1 < (l0.length : Int) := of_decide_eq_true (by first | (with_reducible assumption) | assumption)
                                      obtain ⟨ad382, e382, hx382_0⟩ := Kd.at_int HR0.out x5_1 p382 q382
                                      cases e382
                                      replace hx382_0 := (HB.out.cell (World.block_lt_of_cell? w _ hx382_0)).trans hx382_0
                                      replace p382 := eq_true p382
                                      replace q382 := eq_true q382
                                      go_wp2_with (first | ((with_reducible refine gate_dst (N := 50) rfl ?_); (try (refine gate_guard (by rfl) ?_; dsimp only)); refine Kd.R_lit Kd.string _ 9 ?hg (N := 50) ?hd (xs := ([(⟨#[113]⟩ : ByteArray), (⟨#[36]⟩ : ByteArray), (⟨#[32]⟩ : ByteArray), (⟨#[58]⟩ : ByteArray), (⟨#[125]⟩ : ByteArray)] : List ByteArray)) (inner := [.string (⟨#[113]⟩ : ByteArray), .string (⟨#[36]⟩ : ByteArray), .string (⟨#[32]⟩ : ByteArray), .string (⟨#[58]⟩ : ByteArray), .string (⟨#[125]⟩ : ByteArray)]) (ok := fun _ => True) (okp := fun _ => True) ?hr ?hp (fun _ hk => hk) trivial (Below.refl _ _) (Nat.le_refl _) (by simp) ?_; (case hd => rfl); (case hg => rfl); (case hr => first | (go_simp; done) | (go_simp; rfl)); (case hp => exact (Reps.one (show Kd.M Kd.string _ _ _ (⟨#[113]⟩ : ByteArray) [.string (⟨#[113]⟩ : ByteArray)] from rfl) (Reps.one (show Kd.M Kd.string _ _ _ (⟨#[36]⟩ : ByteArray) [.string (⟨#[36]⟩ : ByteArray)] from rfl) (Reps.one (show Kd.M Kd.string _ _ _ (⟨#[32]⟩ : ByteArray) [.string (⟨#[32]⟩ : ByteArray)] from rfl) (Reps.one (show Kd.M Kd.string _ _ _ (⟨#[58]⟩ : ByteArray) [.string (⟨#[58]⟩ : ByteArray)] from rfl) (Reps.one (show Kd.M Kd.string _ _ _ (⟨#[125]⟩ : ByteArray) [.string (⟨#[125]⟩ : ByteArray)] from rfl) (Reps.none _ _))))))); intro v392 w68 ho69 hb hg_ hnew_; clear hg_ hnew_; (first | rw [← Ny391.out] at ho69 | (simp only [Int.reduceToNat] at ho69; rw [← Ny391.out] at ho69)); have n0_ := Aside0.mk (Kd.R_below (by (with_reducible repeat (first | apply Kd.R_alloc | apply Kd.R_drewN | apply Kd.R_drew)); exact HO_4.out) hb); have n1_ := Aside0.mk (Kd.R_lower ho69 (below_size (by repeat (first | (with_reducible first | exact HB.out | apply below_alloc | apply pw_below_drewN | apply below_drew1) | exact HB.out)))); have n2_ := Aside0.mk (below_step (by repeat (first | (with_reducible first | exact HB.out | apply below_alloc | apply pw_below_drewN | apply below_drew1) | exact HB.out)) hb); clear HO_4; clear HB; have HO_4 := n0_; have HO393 := n1_; have HB := n2_; clear n0_ n1_ n2_; clear hb ho69; have p394 : 0 ≤ (x5_1 : Int) := of_decide_eq_true (by first | (with_reducible assumption) | assumption); have q394 : x5_1 < (l0.length : Int) := of_decide_eq_true (by first | (with_reducible assumption) | assumption); obtain ⟨ad394, e394, hx394_0⟩ := Kd.at_int HR0.out x5_1 p394 q394; obtain rfl : ad382 = ad394 := (by injection e394); replace hx394_0 := (HB.out.cell (World.block_lt_of_cell? w _ hx394_0)).trans hx394_0; replace p394 := eq_true p394; replace q394 := eq_true q394; obtain ⟨Ao70, co70, eo70⟩ := Kd.R_slice HO393.out; subst eo70; have p395 : 0 ≤ ((ji22) : Int) := of_decide_eq_true (by first | (with_reducible assumption) | assumption); have q395 : (ji22) < (y391.length : Int) := of_decide_eq_true (by first | (with_reducible assumption) | assumption); obtain ⟨ad395, e395, hx395_0⟩ := Kd.at_string (Kd.R_reads' HO393.out).2.2 (ji22) p395 q395; cases e395; replace p395 := eq_true p395; replace q395 := eq_true q395; obtain ⟨Ao71, co71, eo71⟩ := Kd.R_slice HO_4.out; subst eo71; have p405 : 0 ≤ ((ji55) : Int) := of_decide_eq_true (by first | (with_reducible assumption) | assumption); have q405 : (ji55) < (x4_1.length : Int) := of_decide_eq_true (by first | (with_reducible assumption) | assumption); obtain ⟨ad405, e405, hx405_0, hx405_1⟩ := at_T57 (Kd.R_reads' HO_4.out).2.2 (ji55) p405 q405; (try rw [← Nbq58.out] at hx405_0); cases e405; replace p405 := eq_true p405; replace q405 := eq_true q405; have p409 : 0 ≤ ((ji55) : Int) := of_decide_eq_true (by first | (with_reducible assumption) | assumption); have q409 : (ji55) < (x4_1.length : Int) := of_decide_eq_true (by first | (with_reducible assumption) | assumption); obtain ⟨ad409, e409, hx409_0, hx409_1⟩ := at_T57 (Kd.R_reads' HO_4.out).2.2 (ji55) p409 q409; (try rw [← Nbq58.out] at hx409_0); obtain rfl : ad405 = ad409 := (by injection e409); replace p409 := eq_true p409; replace q409 := eq_true q409; have p67 : 0 ≤ ((ji55) : Int) := of_decide_eq_true (by first | (with_reducible assumption) | assumption); have q67 : ((ji55) : Int) < ((x4_1.length : Int) : Int) := of_decide_eq_true (by first | (with_reducible assumption) | assumption); obtain ⟨go67, co67, eo67, gb67, gl67, cl67, HG67⟩ := Kd.R_form HO_4.out (by omega); (first | cases eo67 | (injection eo67 with ea_ en_ ec_; (first | subst ea_ | (injection ea_ with ea_; subst ea_)); subst ec_; clear en_)); have GB67 := Aside0.mk gb67; have GG67 := Aside0.mk HG67; clear gb67 gl67 HG67; (first | simp only [add_plain] at hx405_0 | skip); (first | simp only [add_plain] at hx405_1 | skip); (first | simp only [add_plain] at hx409_0 | skip); (first | simp only [add_plain] at hx409_1 | skip); obtain ⟨ce67, hcl67, hM67, hcc67, hfr67⟩ := Kd.R_elem HO_4.out z57 ((ji55) : Int) p67 q67; obtain rfl := k57_openM hM67; have hx67_0 : w68.cell? ⟨go67, ((ji55) : Int).toNat * 2, none⟩ = some (.bool ((rd_T57 x4_1 (ji55)).f0)) := hcc67 0 _ rfl; have hx67_1 : w68.cell? ⟨go67, ((ji55) : Int).toNat * 2 + 1, none⟩ = some (.string ((rd_T57 x4_1 (ji55)).f1)) := hcc67 1 _ rfl; have hf67_0 : w68.frozen? ⟨go67, ((ji55) : Int).toNat * 2, none⟩ = false := hfr67 0; have hf67_1 : w68.frozen? ⟨go67, ((ji55) : Int).toNat * 2 + 1, none⟩ = false := hfr67 1; clear hcl67 hcc67 hfr67 hM67; replace p67 := eq_true p67; replace q67 := eq_true q67; have HX72 := Aside0.mk (show Kd.R k57 57 w68 w.heap.size (fun _ => True) (.slice (some ⟨go67, 0, none⟩) x4_1.length co71) x4_1 from (by (with_reducible repeat (first | apply Kd.R_alloc | apply Kd.R_drewN | apply Kd.R_drew)); exact HO_4.out)); obtain ⟨ce72, hcl72, hM72, hcc72, hfr72⟩ := Kd.R_elem HX72.out z57 ((ji55) : Int) (of_decide_eq_true (by first | (with_reducible assumption) | assumption)) (by have h_ : ((ji55) : Int) < ((x4_1.length : Int) : Int) := of_decide_eq_true (by first | (with_reducible assumption) | assumption); first | exact h_ | (have e_ := (Kd.R_reads' HO_4.out).1; omega) | simpa using h_); obtain rfl := k57_openM hM72; have HP72 := Kd.R_seg HX72.out ((ji55) : Int) (of_decide_eq_true (by first | (with_reducible assumption) | assumption)) (by have h_ : ((ji55) : Int) < ((x4_1.length : Int) : Int) := of_decide_eq_true (by first | (with_reducible assumption) | assumption); first | exact h_ | (have e_ := (Kd.R_reads' HO_4.out).1; omega) | simpa using h_) (seg := [.string (((rd_T57 x4_1 (ji55)).f1) ++ (rdOf ByteArray.empty y391 (ji22)))]) (j := 1) hcl72 hcc72 (show 2 ≤ 2 from by decide) (x' := (⟨(rd_T57 x4_1 (ji55)).f0, ((rd_T57 x4_1 (ji55)).f1) ++ (rdOf ByteArray.empty y391 (ji22))⟩ : S57)) (k57_mkM _ _ _ (⟨(rd_T57 x4_1 (ji55)).f0, ((rd_T57 x4_1 (ji55)).f1) ++ (rdOf ByteArray.empty y391 (ji22))⟩ : S57) ) (fun _ hk => hk); have hx72_1 := hcc72 1 _ rfl; (try simp only [show (k57).sz = 2 from rfl, Nat.mul_one, Nat.add_zero] at hx72_1); have hf72_1 := hfr72 1; (try simp only [show (k57).sz = 2 from rfl, Nat.mul_one, Nat.add_zero] at hf72_1); clear hcl72 hcc72 hfr72 hM72) | ((with_reducible refine gate_store (t := 9) (p := 94) rfl ?_); refine store_event (t := 9) (p := 94) (v := ?vo_w73) (w1 := (w68.setCell ⟨go67, ((ji55) : Int).toNat * 2 + 1, none⟩ (.string (((rd_T57 x4_1 (ji55)).f1) ++ (rdOf ByteArray.empty y391 (ji22)))))) ?hg ?ho ?hn ?hr ?_; (case ho => rfl); (case hg => rfl); (case hn => rfl); (case hr => first | (go_simp; done) | (go_simp; rfl)); intro w73 hw; have hg : w68.grownBy w73 (some go67) := (by rw [hw]; exact HP72.2); have hp_ : Kd.R k57 57 w73 w.heap.size (fun _ => True) (.slice (some ⟨go67, 0, none⟩) x4_1.length co71) y410 := (by rw [hw, Ny410.out]; rw [← Nbq58.out] at HP72; exact HP72.1); clear HP72; have n0_ := Aside0.mk (hp_); have n1_ := Aside0.mk (Kd.R_over' (v := (.slice (some ⟨go67, 0, none⟩) x4_1.length co71)) (by (with_reducible repeat (first | apply Kd.R_alloc | apply Kd.R_drewN | apply Kd.R_drew)); exact HO393.out) (Kd.R_typed HO_4.out) (by decide) hg); have n2_ := Aside0.mk ((by rw [hw]; exact below_set (HB.out) GB67.out : Below w.heap.size w w73)); clear HO_4; clear HO393; clear HB; have HO_4 := n0_; have HO393 := n1_; have HB := n2_; clear n0_ n1_ n2_; clear hg hw hp_))
                                      go_roundg kj4
                                      case measure => have := HK1.out; have := HJ4.out; omega
                                      case rel => exact ⟨(x3_1 ++ (rdOf ByteArray.empty y391 (ji22))), (y410), (wrap64 (x5_1 + 1)), (by first | rfl | (simp; done) | (simp only [← hji22] <;> (first | rfl | simp)) | (simp [*]; done)), (by first | rfl | (simp; done) | (simp [*]; done)), H', ⟨by have := HK1.out; have := HJ4.out; omega⟩, ⟨by (with_reducible repeat (first | apply Kd.R_alloc | apply Kd.R_drewN | apply Kd.R_drew)); exact HO_4.out⟩, ⟨by repeat (first | (with_reducible first | exact HB.out | apply below_alloc | apply pw_below_drewN | apply below_drew1) | exact HB.out)⟩⟩
                                    · rw [if_neg c66] at H
                                      exact absurd H (by simp)
                                · rw [if_neg c57] at H
                                  exact absurd H (by simp)
                              · rw [if_neg c56] at H
                                exact absurd H (by simp)
                            · rw [if_neg c54] at H
                              have c54b0 : decide (0 < (x4_1.length : Int)) = false := decide_eq_false c54
                              have c54b1 : decide (0 < x4_1.length) = false := decide_eq_false (by omega)
                              clear c54
                              by_cases c74 : x4_1.length < 5864062014805
                              · rw [if_pos c74] at H
                                have LMc74 := Aside0.mk c74
                                clear c74
                                obtain ⟨y411, hy411⟩ : ∃ y_ : List (S57), y_ = (x4_1 ++ [(⟨false, rdOf ByteArray.empty y391 (ji22)⟩ : S57)]) := ⟨_, rfl⟩
                                replace H : (cruciblelaw3_PieceJoin.l0 kj4 l0 (x3_1 ++ (rdOf ByteArray.empty y391 (ji22))) y411 (wrap64 (x5_1 + 1))) = some r := by first | (rw [hy411]; with_reducible exact H) | (have H2_ := (Option.bind_some _ _).symm.trans H; rw [hy411]; with_reducible exact H2_) | (have H2_ := (Option.bind_some _ _).symm.trans H; with_reducible exact H2_) | with_reducible exact H | (rw [hy411]; exact H) | exact H
                                have Ny411 := Aside0.mk hy411
                                clear hy411
                                have H' := Aside0.mk H
                                clear H
                                have p382 : 0 ≤ (x5_1 : Int) := of_decide_eq_true (by first | (with_reducible assumption) | assumption)
                                have q382 : x5_1 < (l0.length : Int) := of_decide_eq_true (by first | (with_reducible assumption) | assumption)
                                obtain ⟨ad382, e382, hx382_0⟩ := Kd.at_int HR0.out x5_1 p382 q382
                                cases e382
                                replace hx382_0 := (HB.out.cell (World.block_lt_of_cell? w _ hx382_0)).trans hx382_0
                                replace p382 := eq_true p382
                                replace q382 := eq_true q382
                                go_wp2_with (first | ((with_reducible refine gate_dst (N := 50) rfl ?_); (try (refine gate_guard (by rfl) ?_; dsimp only)); refine Kd.R_lit Kd.string _ 9 ?hg (N := 50) ?hd (xs := ([(⟨#[113]⟩ : ByteArray), (⟨#[36]⟩ : ByteArray), (⟨#[32]⟩ : ByteArray), (⟨#[58]⟩ : ByteArray), (⟨#[125]⟩ : ByteArray)] : List ByteArray)) (inner := [.string (⟨#[113]⟩ : ByteArray), .string (⟨#[36]⟩ : ByteArray), .string (⟨#[32]⟩ : ByteArray), .string (⟨#[58]⟩ : ByteArray), .string (⟨#[125]⟩ : ByteArray)]) (ok := fun _ => True) (okp := fun _ => True) ?hr ?hp (fun _ hk => hk) trivial (Below.refl _ _) (Nat.le_refl _) (by simp) ?_; (case hd => rfl); (case hg => rfl); (case hr => first | (go_simp; done) | (go_simp; rfl)); (case hp => exact (Reps.one (show Kd.M Kd.string _ _ _ (⟨#[113]⟩ : ByteArray) [.string (⟨#[113]⟩ : ByteArray)] from rfl) (Reps.one (show Kd.M Kd.string _ _ _ (⟨#[36]⟩ : ByteArray) [.string (⟨#[36]⟩ : ByteArray)] from rfl) (Reps.one (show Kd.M Kd.string _ _ _ (⟨#[32]⟩ : ByteArray) [.string (⟨#[32]⟩ : ByteArray)] from rfl) (Reps.one (show Kd.M Kd.string _ _ _ (⟨#[58]⟩ : ByteArray) [.string (⟨#[58]⟩ : ByteArray)] from rfl) (Reps.one (show Kd.M Kd.string _ _ _ (⟨#[125]⟩ : ByteArray) [.string (⟨#[125]⟩ : ByteArray)] from rfl) (Reps.none _ _))))))); intro v392 w75 ho76 hb hg_ hnew_; clear hg_ hnew_; (first | rw [← Ny391.out] at ho76 | (simp only [Int.reduceToNat] at ho76; rw [← Ny391.out] at ho76)); have n0_ := Aside0.mk (Kd.R_below (by (with_reducible repeat (first | apply Kd.R_alloc | apply Kd.R_drewN | apply Kd.R_drew)); exact HO_4.out) hb); have n1_ := Aside0.mk (Kd.R_lower ho76 (below_size (by repeat (first | (with_reducible first | exact HB.out | apply below_alloc | apply pw_below_drewN | apply below_drew1) | exact HB.out)))); have n2_ := Aside0.mk (below_step (by repeat (first | (with_reducible first | exact HB.out | apply below_alloc | apply pw_below_drewN | apply below_drew1) | exact HB.out)) hb); clear HO_4; clear HB; have HO_4 := n0_; have HO393 := n1_; have HB := n2_; clear n0_ n1_ n2_; clear hb ho76; have p394 : 0 ≤ (x5_1 : Int) := of_decide_eq_true (by first | (with_reducible assumption) | assumption); have q394 : x5_1 < (l0.length : Int) := of_decide_eq_true (by first | (with_reducible assumption) | assumption); obtain ⟨ad394, e394, hx394_0⟩ := Kd.at_int HR0.out x5_1 p394 q394; obtain rfl : ad382 = ad394 := (by injection e394); replace hx394_0 := (HB.out.cell (World.block_lt_of_cell? w _ hx394_0)).trans hx394_0; replace p394 := eq_true p394; replace q394 := eq_true q394; obtain ⟨Ao77, co77, eo77⟩ := Kd.R_slice HO393.out; subst eo77; have p395 : 0 ≤ ((ji22) : Int) := of_decide_eq_true (by first | (with_reducible assumption) | assumption); have q395 : (ji22) < (y391.length : Int) := of_decide_eq_true (by first | (with_reducible assumption) | assumption); obtain ⟨ad395, e395, hx395_0⟩ := Kd.at_string (Kd.R_reads' HO393.out).2.2 (ji22) p395 q395; cases e395; replace p395 := eq_true p395; replace q395 := eq_true q395; obtain ⟨Ao78, co78, eo78⟩ := Kd.R_slice HO_4.out; subst eo78) | ((with_reducible refine gate_builtin (b := .append) (xs := #[.tmp 95, .tmp 98]) rfl ?_); (try (refine gate_guard (by rfl) ?_; dsimp only)); at_builtin; refine Kd.R_append k57 (w0 := w) w.heap.size rfl (.tmp 95) (.tmp 98) 48 57 (.agg #[(.bool false), (.string ⟨#[]⟩)]) 24 rfl Try.underlying48 info57 rfl (by decide) (by omega) (.slice Ao78 x4_1.length co78) x4_1 (⟨false, rdOf ByteArray.empty y391 (ji22)⟩ : S57) [.bool false, .string (rdOf ByteArray.empty y391 (ji22))] (fun _ => True) (fun _ => False) rfl rfl ?aP (fun _ hk => hk.elim) ?aF ?aO ?aB ?aS ?aL ?_; (case aP => exact k57_mkM _ _ _ (⟨false, rdOf ByteArray.empty y391 (ji22)⟩ : S57)); (case aB => exact (by repeat (first | (with_reducible first | exact HB.out | apply below_alloc | apply pw_below_drewN | apply below_drew1) | exact HB.out))); (case aF => exact (fun _ _ => trivial)); (case aO => exact (by (with_reducible repeat (first | apply Kd.R_alloc | apply Kd.R_drewN | apply Kd.R_drew)); exact HO_4.out)); (case aS => exact (below_size (by repeat (first | (with_reducible first | exact HB.out | apply below_alloc | apply pw_below_drewN | apply below_drew1) | exact HB.out)))); (case aL => have := LMc74.out; omega); intro v412 w79 ho hb hg hat; rw [← Ny411.out] at ho; have n0_ := Aside0.mk (Kd.R_over' (by (with_reducible repeat (first | apply Kd.R_alloc | apply Kd.R_drewN | apply Kd.R_drew)); exact HO393.out) (Kd.R_typed (by (with_reducible repeat (first | apply Kd.R_alloc | apply Kd.R_drewN | apply Kd.R_drew)); exact HO_4.out)) (by decide) hg); have n1_ := Aside0.mk (hb); have n2_ := Aside0.mk (ho); clear HO393; clear HB; clear HO_4; have HO393 := n0_; have HB := n1_; have HO413 := n2_; clear n0_ n1_ n2_; clear ho hb hg hat))
                                go_roundg kj4
                                case measure => have := HK1.out; have := HJ4.out; omega
                                case rel => exact ⟨(x3_1 ++ (rdOf ByteArray.empty y391 (ji22))), (y411), (wrap64 (x5_1 + 1)), (by first | rfl | (simp; done) | (simp only [← hji22] <;> (first | rfl | simp)) | (simp [*]; done)), (by first | rfl | (simp; done) | (simp [*]; done)), H', ⟨by have := HK1.out; have := HJ4.out; omega⟩, ⟨by (with_reducible repeat (first | apply Kd.R_alloc | apply Kd.R_drewN | apply Kd.R_drew)); exact HO413.out⟩, ⟨by repeat (first | (with_reducible first | exact HB.out | apply below_alloc | apply pw_below_drewN | apply below_drew1) | exact HB.out)⟩⟩
                              · rw [if_neg c74] at H
                                exact absurd H (by simp)
                          · rw [if_neg c53] at H
                            exact absurd H (by simp)
                      · rw [if_neg c24] at H
                        exact absurd H (by simp)
                    · rw [if_neg c23] at H
                      exact absurd H (by simp)
                · rw [if_neg c9] at H
                  exact absurd H (by simp)
              · rw [if_neg c8] at H
                exact absurd H (by simp)
            · replace c7 := Bool.eq_false_iff.mpr c7
              subst c7
              have H1 : ((pieces_Cut.f x3_1).bind fun bt376 => ((cruciblelaw0_Num.f bt376.2).bind fun t380 => (if t380 = 0 then ((cruciblelaw0_SamePieces.f kj4 bt376.1 x4_1).bind fun t381 => (some t381)) else (some false)))) = some r := by rw [if_neg (show ¬ (false = true) by decide)] at H; exact H
              clear H
              have H := H1
              clear H1
              replace H := Option.bind_eq_some_iff.mp H
              obtain ⟨⟨t376, t377⟩, A800, H⟩ := H
              replace H : ((cruciblelaw0_Num.f t377).bind fun t380 => (if t380 = 0 then ((cruciblelaw0_SamePieces.f kj4 t376 x4_1).bind fun t381 => (some t381)) else (some false))) = some r := H
              have A80 := Aside0.mk A800
              clear A800
              replace H := Option.bind_eq_some_iff.mp H
              obtain ⟨t380, A810, H⟩ := H
              replace H : (if t380 = 0 then ((cruciblelaw0_SamePieces.f kj4 t376 x4_1).bind fun t381 => (some t381)) else (some false)) = some r := H
              have A81 := Aside0.mk A810
              clear A810
              by_cases c82 : t380 = 0
              · rw [if_pos c82] at H
                have c82b0 : (t380 == 0) = true := beq_iff_eq.mpr c82
                have c82b1 : (t380 != 0) = false := bne_eq_false_iff_eq.mpr c82
                clear c82
                replace H := Option.bind_eq_some_iff.mp H
                obtain ⟨t381, A830, H⟩ := H
                replace H : (some t381) = some r := H
                have A83 := Aside0.mk A830
                clear A830
                obtain rfl := Option.some.inj H
                go_wp2_with (first | ((with_reducible refine gate_callee (f := 35) rfl ?_); refine goesL_ (some 102) rfl rfl Try.func35 (by kernel_rfl) rfl #[.string x3_1] rfl (by (try simp only [List.map_toArray, List.map_cons, List.map_nil]); first | done | rfl | (simp only [List.length_drop, List.length_take]; rfl)) ?_; (with_reducible refine (pieces_Cut.calls x3_1 t376 t377 _ A80.out).mono ?_); rintro e w84 ⟨v378, rfl, ho0, hb⟩; refine ⟨_, rfl, ?_⟩; have n0_ := Aside0.mk (Kd.R_elder' (by (with_reducible repeat (first | apply Kd.R_alloc | apply Kd.R_drewN | apply Kd.R_drew)); exact HO_4.out) (Kd.R_base ho0) hb); have n1_ := Aside0.mk (Kd.R_lower (Kd.R_new' ho0 (Kd.R_lt (by (with_reducible repeat (first | apply Kd.R_alloc | apply Kd.R_drewN | apply Kd.R_drew)); exact HO_4.out))) (below_size (by repeat (first | (with_reducible first | exact HB.out | apply below_alloc | apply pw_below_drewN | apply below_drew1) | exact HB.out)))); have n2_ := Aside0.mk (below_step (by repeat (first | (with_reducible first | exact HB.out | apply below_alloc | apply pw_below_drewN | apply below_drew1) | exact HB.out)) hb); clear HO_4; clear HB; have HO_4 := n0_; have HO379 := n1_; have HB := n2_; clear n0_ n1_ n2_; (try clear hb); (try clear hb2); (try clear hk); (try clear hi); (try clear ho0)) | ((with_reducible refine gate_callee (f := 20) rfl ?_); refine goesL_ (some 106) rfl rfl Try.func20 (by kernel_rfl) rfl #[.int .i64 t377] rfl (by (try simp only [List.map_toArray, List.map_cons, List.map_nil]); first | done | rfl | (simp only [List.length_drop, List.length_take]; rfl)) ?_; (with_reducible refine (cruciblelaw0_Num.calls t377 t380 _ A81.out).mono ?_); rintro e w' ⟨rfl, ⟨nd, rfl⟩⟩; refine ⟨_, rfl, ?_⟩; obtain ⟨Ao85, co85, eo85⟩ := Kd.R_slice HO379.out; subst eo85; obtain ⟨Ao86, co86, eo86⟩ := Kd.R_slice HO_4.out; subst eo86) | (go_at_call 37; (with_reducible refine (cruciblelaw0_SamePieces.calls kj4 _ _ t376 _ _ x4_1 t381 _ ?side1 ?side2 ?side3 ?side4 A83.out).mono ?_); (case side1 => repeat (first | exact (Kd.R_reads' HO379.out).2.2 | (with_reducible refine Kd.C_alloc ?_ _) | (with_reducible refine Kd.C_drewN ?_ _) | (with_reducible refine Kd.C_drew ?_))); (case side2 => exact (Kd.R_reads' HO379.out).2.1); (case side3 => repeat (first | exact (Kd.R_reads' HO_4.out).2.2 | (with_reducible refine Kd.C_alloc ?_ _) | (with_reducible refine Kd.C_drewN ?_ _) | (with_reducible refine Kd.C_drew ?_))); (case side4 => exact (Kd.R_reads' HO_4.out).2.1); rintro e w' ⟨rfl, ⟨nd, rfl⟩⟩))
                go_ret
                exact ⟨by first | rfl | (simp [errW_none, errW_some] <;> rfl) | (simp [*, errW_none, errW_some] <;> rfl), by repeat (first | (with_reducible first | exact HB.out | apply below_alloc | apply pw_below_drewN | apply below_drew1) | exact HB.out)⟩
              · rw [if_neg c82] at H
                have c82b0 : (t380 == 0) = false := beq_eq_false_iff_ne.mpr c82
                have c82b1 : (t380 != 0) = true := bne_iff_ne.mpr c82
                obtain rfl := Option.some.inj H
                go_wp2_with (first | ((with_reducible refine gate_callee (f := 35) rfl ?_); refine goesL_ (some 102) rfl rfl Try.func35 (by kernel_rfl) rfl #[.string x3_1] rfl (by (try simp only [List.map_toArray, List.map_cons, List.map_nil]); first | done | rfl | (simp only [List.length_drop, List.length_take]; rfl)) ?_; (with_reducible refine (pieces_Cut.calls x3_1 t376 t377 _ A80.out).mono ?_); rintro e w87 ⟨v378, rfl, ho0, hb⟩; refine ⟨_, rfl, ?_⟩; have n0_ := Aside0.mk (Kd.R_elder' (by (with_reducible repeat (first | apply Kd.R_alloc | apply Kd.R_drewN | apply Kd.R_drew)); exact HO_4.out) (Kd.R_base ho0) hb); have n1_ := Aside0.mk (Kd.R_lower (Kd.R_new' ho0 (Kd.R_lt (by (with_reducible repeat (first | apply Kd.R_alloc | apply Kd.R_drewN | apply Kd.R_drew)); exact HO_4.out))) (below_size (by repeat (first | (with_reducible first | exact HB.out | apply below_alloc | apply pw_below_drewN | apply below_drew1) | exact HB.out)))); have n2_ := Aside0.mk (below_step (by repeat (first | (with_reducible first | exact HB.out | apply below_alloc | apply pw_below_drewN | apply below_drew1) | exact HB.out)) hb); clear HO_4; clear HB; have HO_4 := n0_; have HO379 := n1_; have HB := n2_; clear n0_ n1_ n2_; (try clear hb); (try clear hb2); (try clear hk); (try clear hi); (try clear ho0)) | ((with_reducible refine gate_callee (f := 20) rfl ?_); refine goesL_ (some 106) rfl rfl Try.func20 (by kernel_rfl) rfl #[.int .i64 t377] rfl (by (try simp only [List.map_toArray, List.map_cons, List.map_nil]); first | done | rfl | (simp only [List.length_drop, List.length_take]; rfl)) ?_; (with_reducible refine (cruciblelaw0_Num.calls t377 t380 _ A81.out).mono ?_); rintro e w' ⟨rfl, ⟨nd, rfl⟩⟩; refine ⟨_, rfl, ?_⟩))
                go_ret
                exact ⟨by first | rfl | (simp [errW_none, errW_some] <;> rfl) | (simp [*, errW_none, errW_some] <;> rfl), by repeat (first | (with_reducible first | exact HB.out | apply below_alloc | apply pw_below_drewN | apply below_drew1) | exact HB.out)⟩
  · replace c3 := Bool.eq_false_iff.mpr c3
    subst c3
    have H1 : (some false) = some r := by rw [if_neg (show ¬ (false = true) by decide)] at H; exact H
    clear H
    have H := H1
    clear H1
    obtain rfl := Option.some.inj H
    go_enter Try.func13, Try.ntmps13
    go_wp2_with (first | ((with_reducible refine gate_callee (f := 39) rfl ?_); refine goesL_ (some 11) rfl rfl Try.func39 (by kernel_rfl) rfl #[] rfl (by (try simp only [List.map_toArray, List.map_cons, List.map_nil]); first | done | rfl | (simp only [List.length_drop, List.length_take]; rfl)) ?_; (with_reducible refine (cruciblelaw3_awake.calls k  false _ A2.out).mono ?_); rintro e w88 ⟨rfl, hb⟩; refine ⟨_, rfl, ?_⟩; have n0_ := Aside0.mk (below_step (by repeat (first | (with_reducible first | exact HB.out | apply below_alloc | apply pw_below_drewN | apply below_drew1) | exact HB.out)) hb); clear HB; have HB := n0_; clear n0_; (try clear hb); (try clear hb2); (try clear hk); (try clear hi)))
    go_ret
    exact ⟨by first | rfl | (simp [errW_none, errW_some] <;> rfl) | (simp [*, errW_none, errW_some] <;> rfl), by repeat (first | (with_reducible first | exact HB.out | apply below_alloc | apply pw_below_drewN | apply below_drew1) | exact HB.out)⟩

/-- THE ONE PURE STATEMENT of cruciblelaw3_PieceJoin: yours. -/
def cruciblelaw3_PieceJoin.Pure : Prop := ∀ (l0 : List Int), l0.length ≤ maxLen → l0.length * 8 ≤ 140737488351232 → (∀ x ∈ l0, (Lit.int .i64 x).wf = true) → ∃ k, cruciblelaw3_PieceJoin.f k l0 = some true
theorem cruciblelaw3_PieceJoin.walk (P : cruciblelaw3_PieceJoin.Pure) (a0 : Option Addr) (len0 cap0 : Nat) (z0 : List Int) (w : World) (w0 : (a0 = none ∧ len0 = 0 ∧ cap0 = 0 ∧ z0 = []) ∨ ∃ x, a0 = some x ∧ len0 ≤ cap0 ∧ cap0 ≤ maxLen ∧ z0.length = cap0 ∧ (∀ i, i < z0.length → w.cell? (x.add i) = some (.int .i64 (z0.getD i 0))) ∧ ∀ n ∈ z0, (Lit.int .i64 n).wf = true) (y0 : len0 * 8 ≤ 140737488351232) :
    Calls Try.prog 13 #[.slice a0 len0 cap0] w fun e w' => e = .returned (.bool true) ∧ Below w.heap.size w w' := by
  obtain ⟨l0, rfl, hr0, hm0, hw0, hc0⟩ := ReadsInt.ofRowC w0
  obtain ⟨k, h⟩ := P l0 hm0 y0 hw0
  refine (cruciblelaw3_PieceJoin.calls k _ _ l0 true w (Kd.C_of_reads (d := (0 : Int)) (h1 := fun _ => rfl) hr0) hc0 h).mono ?_
  rintro e w' ⟨rfl, hd⟩
  exact ⟨rfl, hd⟩

end Go.Proofs.Ytchkgljhklfhnaa.Print
