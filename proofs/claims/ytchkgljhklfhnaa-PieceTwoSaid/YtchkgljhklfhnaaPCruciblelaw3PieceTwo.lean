-- By a program of ours (wip/tools/myprint.sh) out of the translation.
import Derived.Test.YtchkgljhklfhnaaP0
import Derived.Test.YtchkgljhklfhnaaPCruciblelaw0Num
import Derived.Test.YtchkgljhklfhnaaPCruciblelaw0SamePieces
import Derived.Test.YtchkgljhklfhnaaPCruciblelaw3Awake
import Derived.Test.YtchkgljhklfhnaaQCut
namespace Go.Proofs.Ytchkgljhklfhnaa.Print
open Go.RowKit Go.Proofs.YtchkgljhklfhnaaW.PrintWords Go.Proofs.YtchkgljhklfhnaaW.PrintLast Go.Proofs.YtchkgljhklfhnaaW.PrintMore
attribute [local go_sem] max2_int min2_int max_two min_two max_three min_three max_four min_four   -- for this text's walks alone
set_option linter.unusedVariables false
set_option linter.unusedSimpArgs false

/-! ### cruciblelaw3_PieceTwo: function 14 -/
mutual
def cruciblelaw3_PieceTwo.j0 : Nat → ByteArray → ByteArray → List (S57) → List (S57) → Bool → Option (Bool)
  | 0, _, _, _, _, _ => none
  | k + 1, x0, x1, x5, x7, x43 => if x43 = true then (some true) else (if x0.size + 2 ≤ 9223372036854775807 then (if (x0 ++ (⟨#[36, 58]⟩ : ByteArray)).size + x1.size ≤ 9223372036854775807 then ((pieces_Cut.f ((x0 ++ (⟨#[36, 58]⟩ : ByteArray)) ++ x1)).bind fun bt425 => (if 2 + x1.size ≤ 9223372036854775807 then ((pieces_Cut.f ((⟨#[36, 58]⟩ : ByteArray) ++ x1)).bind fun bt429 => ((cruciblelaw0_Num.f bt425.2).bind fun t433 => (if t433 = 0 then ((cruciblelaw0_Num.f bt429.2).bind fun t434 => (if t434 = 0 then (if (bt429.1.length : Int) = 0 then (cruciblelaw3_PieceTwo.j1 k x5 x7 bt425.1 bt429.1 true) else (if 0 < (bt429.1.length : Int) then (cruciblelaw3_PieceTwo.j1 k x5 x7 bt425.1 bt429.1 ((rd_T57 bt429.1 0).f0)) else (none))) else (cruciblelaw3_PieceTwo.j1 k x5 x7 bt425.1 bt429.1 true))) else (cruciblelaw3_PieceTwo.j1 k x5 x7 bt425.1 bt429.1 true)))) else (none))) else (none)) else (none))
def cruciblelaw3_PieceTwo.j1 : Nat → List (S57) → List (S57) → List (S57) → List (S57) → Bool → Option (Bool)
  | 0, _, _, _, _, _ => none
  | k + 1, x5, x7, x9, x11, x76 => if x76 = true then (some false) else (if ([] : List (S57)).length + x5.length < 5864062014805 then ((some (([] : List (S57)) ++ x5 : List (S57))).bind fun y436 => (if (y436.length : Int) > 0 then (if 0 ≤ (wrap64 ((y436.length : Int) - 1)) then (if (wrap64 ((y436.length : Int) - 1)) < (y436.length : Int) then (if ((rd_T57 y436 (wrap64 ((y436.length : Int) - 1))).f0 = true) then (if y436.length + x11.length < 5864062014805 then ((cruciblelaw0_SamePieces.f k x9 (y436 ++ x11)).bind fun t443 => (if t443 = true then (some (decide ((x7.length : Int) ≤ (x11.length : Int)))) else (some false))) else (none)) else (if 0 < (x11.length : Int) then (if ((rd_T57 y436 (wrap64 ((y436.length : Int) - 1))).f1).size + ((rd_T57 x11 0).f1).size ≤ 9223372036854775807 then ((some (y436.set ((wrap64 ((y436.length : Int) - 1)) : Int).toNat (⟨(rd_T57 y436 (wrap64 ((y436.length : Int) - 1))).f0, ((rd_T57 y436 (wrap64 ((y436.length : Int) - 1))).f1) ++ ((rd_T57 x11 0).f1)⟩ : S57) : List (S57))).bind fun y446 => (if 1 ≤ (x11.length : Int) then ((some (x11.drop 1 : List (S57))).bind fun y447 => (if y446.length + y447.length < 5864062014805 then ((cruciblelaw0_SamePieces.f k x9 (y446 ++ y447)).bind fun t454 => (if t454 = true then (some (decide ((x7.length : Int) ≤ (x11.length : Int)))) else (some false))) else (none))) else (none))) else (none)) else (none))) else (none)) else (none)) else (if y436.length + x11.length < 5864062014805 then ((cruciblelaw0_SamePieces.f k x9 (y436 ++ x11)).bind fun t458 => (if t458 = true then (some (decide ((x7.length : Int) ≤ (x11.length : Int)))) else (some false))) else (none)))) else (none))
end
def cruciblelaw3_PieceTwo.f (k : Nat) (a0 : ByteArray) (a1 : ByteArray) : Option (Bool) := (cruciblelaw3_awake.f k).bind fun t414 => (if t414 = true then ((pieces_Cut.f a0).bind fun bt415 => ((pieces_Cut.f a1).bind fun bt419 => ((cruciblelaw0_Num.f bt415.2).bind fun t423 => (if t423 = 0 then ((cruciblelaw0_Num.f bt419.2).bind fun t424 => (if t424 = 0 then (if (a0.size : Int) > 900 then (cruciblelaw3_PieceTwo.j0 k a0 a1 bt415.1 bt419.1 true) else (cruciblelaw3_PieceTwo.j0 k a0 a1 bt415.1 bt419.1 (decide ((a1.size : Int) > 900)))) else (cruciblelaw3_PieceTwo.j0 k a0 a1 bt415.1 bt419.1 true))) else (cruciblelaw3_PieceTwo.j0 k a0 a1 bt415.1 bt419.1 true))))) else (some false))
theorem cruciblelaw3_PieceTwo.mono_l : ∀ k, (∀ y0 y1 y2 y3 y4, LeO (cruciblelaw3_PieceTwo.j0 k y0 y1 y2 y3 y4) (cruciblelaw3_PieceTwo.j0 (k + 1) y0 y1 y2 y3 y4)) ∧ (∀ y0 y1 y2 y3 y4, LeO (cruciblelaw3_PieceTwo.j1 k y0 y1 y2 y3 y4) (cruciblelaw3_PieceTwo.j1 (k + 1) y0 y1 y2 y3 y4))
  | 0 => ⟨fun _ _ _ _ _ r h => by simp [cruciblelaw3_PieceTwo.j0] at h, fun _ _ _ _ _ r h => by simp [cruciblelaw3_PieceTwo.j1] at h⟩
  | k + 1 => by
    obtain ⟨ih0, ih1⟩ := cruciblelaw3_PieceTwo.mono_l k
    refine ⟨?_, ?_⟩
    · intro y0 y1 y2 y3 y4
      unfold cruciblelaw3_PieceTwo.j0
      repeat' first
      | (with_reducible exact ih0 _ _ _ _ _)
      | (with_reducible exact ih1 _ _ _ _ _)
      | (with_reducible exact cruciblelaw0_SamePieces.mono _ _ _)
      | (with_reducible exact cruciblelaw3_awake.mono _)
      | (with_reducible exact LeO.refl _)
      | (with_reducible exact LeO.none _)
      | (with_reducible refine LeO.ite ?_ ?_)
      | (with_reducible refine LeO.bind ?_ (fun _ => ?_))
      | exact ih0 _ _ _ _ _
      | exact ih1 _ _ _ _ _
      | exact cruciblelaw0_SamePieces.mono _ _ _
      | exact cruciblelaw3_awake.mono _
      | exact LeO.none _
      | refine LeO.ite ?_ ?_
      | refine LeO.bind ?_ (fun _ => ?_)
    · intro y0 y1 y2 y3 y4
      unfold cruciblelaw3_PieceTwo.j1
      repeat' first
      | (with_reducible exact ih0 _ _ _ _ _)
      | (with_reducible exact ih1 _ _ _ _ _)
      | (with_reducible exact cruciblelaw0_SamePieces.mono _ _ _)
      | (with_reducible exact cruciblelaw3_awake.mono _)
      | (with_reducible exact LeO.refl _)
      | (with_reducible exact LeO.none _)
      | (with_reducible refine LeO.ite ?_ ?_)
      | (with_reducible refine LeO.bind ?_ (fun _ => ?_))
      | exact ih0 _ _ _ _ _
      | exact ih1 _ _ _ _ _
      | exact cruciblelaw0_SamePieces.mono _ _ _
      | exact cruciblelaw3_awake.mono _
      | exact LeO.none _
      | refine LeO.ite ?_ ?_
      | refine LeO.bind ?_ (fun _ => ?_)
theorem cruciblelaw3_PieceTwo.mono : ∀ a0 a1 k, LeO (cruciblelaw3_PieceTwo.f k a0 a1) (cruciblelaw3_PieceTwo.f (k + 1) a0 a1) := by
  intro a0 a1 k
  obtain ⟨ih0, ih1⟩ := cruciblelaw3_PieceTwo.mono_l k
  unfold cruciblelaw3_PieceTwo.f
  repeat' first
      | (with_reducible exact ih0 _ _ _ _ _)
      | (with_reducible exact ih1 _ _ _ _ _)
      | (with_reducible exact cruciblelaw0_SamePieces.mono _ _ _)
      | (with_reducible exact cruciblelaw3_awake.mono _)
      | (with_reducible exact LeO.refl _)
      | (with_reducible exact LeO.none _)
      | (with_reducible refine LeO.ite ?_ ?_)
      | (with_reducible refine LeO.bind ?_ (fun _ => ?_))
      | exact ih0 _ _ _ _ _
      | exact ih1 _ _ _ _ _
      | exact cruciblelaw0_SamePieces.mono _ _ _
      | exact cruciblelaw3_awake.mono _
      | exact LeO.none _
      | refine LeO.ite ?_ ?_
      | refine LeO.bind ?_ (fun _ => ?_)
def cruciblelaw3_PieceTwo.T14 : Bool × List (List Nat × List Nat) := (true, [([], []), ([], []), ([1], [1]), ([2], [2]), ([], []), ([], []), ([5], [5]), ([6], [6]), ([4, 7], [4, 7]), ([8], [8]), ([9], [9]), ([], []), ([11], [11]), ([12], [12]), ([13], [13]), ([10, 14], [10, 14]), ([0, 3, 0, 1, 2, 3, 4, 5, 6, 7, 8, 9, 10, 11, 12, 13, 14, 15], [0, 3]), ([16, 0, 1, 2, 3, 4, 5, 6, 7, 8, 9, 10, 11, 12, 13, 14, 15], [16]), ([17, 15, 0, 1, 2, 3, 4, 5, 6, 7, 8, 9, 10, 11, 12, 13, 14, 15], [15, 17])])
def cruciblelaw3_PieceTwo.B14 : List Nat := [0, 0, 2, 6, 0, 0, 32, 96, 240, 496, 1008, 0, 2048, 6144, 14336, 32752, 65535, 131071, 262143]
theorem cruciblelaw3_PieceTwo.tab14 : rtab .any (opsOf Try.f14 14) = cruciblelaw3_PieceTwo.T14 := by kernel_rfl
theorem cruciblelaw3_PieceTwo.bits14 : waitsOk cruciblelaw3_PieceTwo.T14.2 cruciblelaw3_PieceTwo.B14 = true := by kernel_rfl
set_option maxHeartbeats 8000000 in
set_option maxRecDepth 100000 in
theorem cruciblelaw3_PieceTwo.calls (k : Nat) (a0 : ByteArray) (a1 : ByteArray) (r : Bool) (w : World) (h : cruciblelaw3_PieceTwo.f k a0 a1 = some r) :
    Calls Try.prog 14 #[.string a0, .string a1] w fun e w' => e = .returned (.bool r) ∧ Below w.heap.size w w' := by
  have HB := Aside0.mk (Below.refl w.heap.size w)
  have H : ((cruciblelaw3_awake.f k).bind fun t414 => (if t414 = true then ((pieces_Cut.f a0).bind fun bt415 => ((pieces_Cut.f a1).bind fun bt419 => ((cruciblelaw0_Num.f bt415.2).bind fun t423 => (if t423 = 0 then ((cruciblelaw0_Num.f bt419.2).bind fun t424 => (if t424 = 0 then (if (a0.size : Int) > 900 then (cruciblelaw3_PieceTwo.j0 k a0 a1 bt415.1 bt419.1 true) else (cruciblelaw3_PieceTwo.j0 k a0 a1 bt415.1 bt419.1 (decide ((a1.size : Int) > 900)))) else (cruciblelaw3_PieceTwo.j0 k a0 a1 bt415.1 bt419.1 true))) else (cruciblelaw3_PieceTwo.j0 k a0 a1 bt415.1 bt419.1 true))))) else (some false))) = some r := h
  clear h
  replace H := Option.bind_eq_some_iff.mp H
  obtain ⟨t414, A30, H⟩ := H
  replace H : (if t414 = true then ((pieces_Cut.f a0).bind fun bt415 => ((pieces_Cut.f a1).bind fun bt419 => ((cruciblelaw0_Num.f bt415.2).bind fun t423 => (if t423 = 0 then ((cruciblelaw0_Num.f bt419.2).bind fun t424 => (if t424 = 0 then (if (a0.size : Int) > 900 then (cruciblelaw3_PieceTwo.j0 k a0 a1 bt415.1 bt419.1 true) else (cruciblelaw3_PieceTwo.j0 k a0 a1 bt415.1 bt419.1 (decide ((a1.size : Int) > 900)))) else (cruciblelaw3_PieceTwo.j0 k a0 a1 bt415.1 bt419.1 true))) else (cruciblelaw3_PieceTwo.j0 k a0 a1 bt415.1 bt419.1 true))))) else (some false)) = some r := H
  have A3 := Aside0.mk A30
  clear A30
  by_cases c4 : t414 = true
  · subst c4
    have H1 : ((pieces_Cut.f a0).bind fun bt415 => ((pieces_Cut.f a1).bind fun bt419 => ((cruciblelaw0_Num.f bt415.2).bind fun t423 => (if t423 = 0 then ((cruciblelaw0_Num.f bt419.2).bind fun t424 => (if t424 = 0 then (if (a0.size : Int) > 900 then (cruciblelaw3_PieceTwo.j0 k a0 a1 bt415.1 bt419.1 true) else (cruciblelaw3_PieceTwo.j0 k a0 a1 bt415.1 bt419.1 (decide ((a1.size : Int) > 900)))) else (cruciblelaw3_PieceTwo.j0 k a0 a1 bt415.1 bt419.1 true))) else (cruciblelaw3_PieceTwo.j0 k a0 a1 bt415.1 bt419.1 true))))) = some r := by rw [if_pos rfl] at H; exact H
    clear H
    have H := H1
    clear H1
    replace H := Option.bind_eq_some_iff.mp H
    obtain ⟨⟨t415, t416⟩, A50, H⟩ := H
    replace H : ((pieces_Cut.f a1).bind fun bt419 => ((cruciblelaw0_Num.f t416).bind fun t423 => (if t423 = 0 then ((cruciblelaw0_Num.f bt419.2).bind fun t424 => (if t424 = 0 then (if (a0.size : Int) > 900 then (cruciblelaw3_PieceTwo.j0 k a0 a1 t415 bt419.1 true) else (cruciblelaw3_PieceTwo.j0 k a0 a1 t415 bt419.1 (decide ((a1.size : Int) > 900)))) else (cruciblelaw3_PieceTwo.j0 k a0 a1 t415 bt419.1 true))) else (cruciblelaw3_PieceTwo.j0 k a0 a1 t415 bt419.1 true)))) = some r := H
    have A5 := Aside0.mk A50
    clear A50
    replace H := Option.bind_eq_some_iff.mp H
    obtain ⟨⟨t419, t420⟩, A60, H⟩ := H
    replace H : ((cruciblelaw0_Num.f t416).bind fun t423 => (if t423 = 0 then ((cruciblelaw0_Num.f t420).bind fun t424 => (if t424 = 0 then (if (a0.size : Int) > 900 then (cruciblelaw3_PieceTwo.j0 k a0 a1 t415 t419 true) else (cruciblelaw3_PieceTwo.j0 k a0 a1 t415 t419 (decide ((a1.size : Int) > 900)))) else (cruciblelaw3_PieceTwo.j0 k a0 a1 t415 t419 true))) else (cruciblelaw3_PieceTwo.j0 k a0 a1 t415 t419 true))) = some r := H
    have A6 := Aside0.mk A60
    clear A60
    have HC7 := Aside0.mk H
    clear H
    go_enter Try.func14, Try.ntmps14
    go_upto_region 5 with (first | ((with_reducible refine gate_callee (f := 39) rfl ?_); refine goesL_ (some 14) rfl rfl Try.func39 (by kernel_rfl) rfl #[] rfl (by (try simp only [List.map_toArray, List.map_cons, List.map_nil]); first | done | rfl | (simp only [List.length_drop, List.length_take]; rfl)) ?_; (with_reducible refine (cruciblelaw3_awake.calls k  true _ A3.out).mono ?_); rintro e w8 ⟨rfl, hb⟩; refine ⟨_, rfl, ?_⟩; have n0_ := Aside0.mk (below_step (by repeat (first | (with_reducible first | exact HB.out | apply below_alloc | apply pw_below_drewN | apply below_drew1) | exact HB.out)) hb); clear HB; have HB := n0_; clear n0_; (try clear hb); (try clear hb2); (try clear hk); (try clear hi)) | ((with_reducible refine gate_callee (f := 35) rfl ?_); refine goesL_ (some 18) rfl rfl Try.func35 (by kernel_rfl) rfl #[.string a0] rfl (by (try simp only [List.map_toArray, List.map_cons, List.map_nil]); first | done | rfl | (simp only [List.length_drop, List.length_take]; rfl)) ?_; (with_reducible refine (pieces_Cut.calls a0 t415 t416 _ A5.out).mono ?_); rintro e w9 ⟨v417, rfl, ho0, hb⟩; refine ⟨_, rfl, ?_⟩; have n0_ := Aside0.mk (Kd.R_lower ho0 (below_size (by repeat (first | (with_reducible first | exact HB.out | apply below_alloc | apply pw_below_drewN | apply below_drew1) | exact HB.out)))); have n1_ := Aside0.mk (below_step (by repeat (first | (with_reducible first | exact HB.out | apply below_alloc | apply pw_below_drewN | apply below_drew1) | exact HB.out)) hb); clear HB; have HO418 := n0_; have HB := n1_; clear n0_ n1_; (try clear hb); (try clear hb2); (try clear hk); (try clear hi); (try clear ho0)) | ((with_reducible refine gate_callee (f := 35) rfl ?_); refine goesL_ (some 23) rfl rfl Try.func35 (by kernel_rfl) rfl #[.string a1] rfl (by (try simp only [List.map_toArray, List.map_cons, List.map_nil]); first | done | rfl | (simp only [List.length_drop, List.length_take]; rfl)) ?_; (with_reducible refine (pieces_Cut.calls a1 t419 t420 _ A6.out).mono ?_); rintro e w10 ⟨v421, rfl, ho0, hb⟩; refine ⟨_, rfl, ?_⟩; have n0_ := Aside0.mk (Kd.R_elder' (by (with_reducible repeat (first | apply Kd.R_alloc | apply Kd.R_drewN | apply Kd.R_drew)); exact HO418.out) (Kd.R_base ho0) hb); have n1_ := Aside0.mk (Kd.R_lower (Kd.R_new' ho0 (Kd.R_lt (by (with_reducible repeat (first | apply Kd.R_alloc | apply Kd.R_drewN | apply Kd.R_drew)); exact HO418.out))) (below_size (by repeat (first | (with_reducible first | exact HB.out | apply below_alloc | apply pw_below_drewN | apply below_drew1) | exact HB.out)))); have n2_ := Aside0.mk (below_step (by repeat (first | (with_reducible first | exact HB.out | apply below_alloc | apply pw_below_drewN | apply below_drew1) | exact HB.out)) hb); clear HO418; clear HB; have HO418 := n0_; have HO422 := n1_; have HB := n2_; clear n0_ n1_ n2_; (try clear hb); (try clear hb2); (try clear hk); (try clear hi); (try clear ho0)))
    (try simp only [Act.put, List.setIfInBounds_toArray, List.set_cons_zero, List.set_cons_succ])
    go_cut [43] (fun v43 wc => ∃ (kq : Nat) (x43_6 : Bool), v43 = .bool x43_6 ∧ Aside0 (cruciblelaw3_PieceTwo.j0 kq a0 a1 t415 t419 x43_6 = some r) ∧ Aside0 (kq ≤ k) ∧ Aside0 (Kd.R k57 57 wc w.heap.size (fun k_ => some k_ ≠ (v421 : Value).ownBlock) v417 t415) ∧ Aside0 (Kd.R k57 57 wc w.heap.size (fun k_ => some k_ ≠ (v417 : Value).ownBlock) v421 t419) ∧ Aside0 (Below w.heap.size w wc))
    case first =>
      have H := HC7.out
      clear HC7
      replace H := Option.bind_eq_some_iff.mp H
      obtain ⟨t423, A110, H⟩ := H
      replace H : (if t423 = 0 then ((cruciblelaw0_Num.f t420).bind fun t424 => (if t424 = 0 then (if (a0.size : Int) > 900 then (cruciblelaw3_PieceTwo.j0 k a0 a1 t415 t419 true) else (cruciblelaw3_PieceTwo.j0 k a0 a1 t415 t419 (decide ((a1.size : Int) > 900)))) else (cruciblelaw3_PieceTwo.j0 k a0 a1 t415 t419 true))) else (cruciblelaw3_PieceTwo.j0 k a0 a1 t415 t419 true)) = some r := H
      have A11 := Aside0.mk A110
      clear A110
      by_cases c12 : t423 = 0
      · rw [if_pos c12] at H
        have c12b0 : (t423 == 0) = true := beq_iff_eq.mpr c12
        have c12b1 : (t423 != 0) = false := bne_eq_false_iff_eq.mpr c12
        clear c12
        (first | rw [c12b0] | (simp only [i64_w, i32_w]; rw [c12b0]) | skip)
        replace H := Option.bind_eq_some_iff.mp H
        obtain ⟨t424, A130, H⟩ := H
        replace H : (if t424 = 0 then (if (a0.size : Int) > 900 then (cruciblelaw3_PieceTwo.j0 k a0 a1 t415 t419 true) else (cruciblelaw3_PieceTwo.j0 k a0 a1 t415 t419 (decide ((a1.size : Int) > 900)))) else (cruciblelaw3_PieceTwo.j0 k a0 a1 t415 t419 true)) = some r := H
        have A13 := Aside0.mk A130
        clear A130
        by_cases c14 : t424 = 0
        · rw [if_pos c14] at H
          have c14b0 : (t424 == 0) = true := beq_iff_eq.mpr c14
          have c14b1 : (t424 != 0) = false := bne_eq_false_iff_eq.mpr c14
          clear c14
          by_cases c15 : (a0.size : Int) > 900
          · rw [if_pos c15] at H
            have c15b0 : decide (900 < (a0.size : Int)) = true := decide_eq_true c15
            have c15b1 : decide (900 < a0.size) = true := decide_eq_true (by omega)
            clear c15
            have H' := Aside0.mk H
            clear H
            go_wp2_with (first | ((with_reducible refine gate_callee (f := 20) rfl ?_); refine goesL_ (some 27) rfl rfl Try.func20 (by kernel_rfl) rfl #[.int .i64 t416] rfl (by (try simp only [List.map_toArray, List.map_cons, List.map_nil]); first | done | rfl | (simp only [List.length_drop, List.length_take]; rfl)) ?_; (with_reducible refine (cruciblelaw0_Num.calls t416 t423 _ A11.out).mono ?_); rintro e w' ⟨rfl, ⟨nd, rfl⟩⟩; refine ⟨_, rfl, ?_⟩) | (go_at_call 20; (with_reducible refine (cruciblelaw0_Num.calls t420 t424 _ A13.out).mono ?_); rintro e w' ⟨rfl, ⟨nd, rfl⟩⟩))
            go_meet
            case rel => exact ⟨_, (true), (by first | rfl | (simp; done) | (simp [*]; done)), H', ⟨by first | omega | exact Nat.le_refl _⟩, ⟨by (with_reducible repeat (first | apply Kd.R_alloc | apply Kd.R_drewN | apply Kd.R_drew)); exact Kd.R_mono HO418.out (fun _ hk => hk.2)⟩, ⟨by (with_reducible repeat (first | apply Kd.R_alloc | apply Kd.R_drewN | apply Kd.R_drew)); exact Kd.R_mono HO422.out (fun _ hk => hk.2)⟩, ⟨by repeat (first | (with_reducible first | exact HB.out | apply below_alloc | apply pw_below_drewN | apply below_drew1) | exact HB.out)⟩⟩
          · rw [if_neg c15] at H
            have c15b0 : decide (900 < (a0.size : Int)) = false := decide_eq_false c15
            have c15b1 : decide (900 < a0.size) = false := decide_eq_false (by omega)
            clear c15
            have H' := Aside0.mk H
            clear H
            go_wp2_with (first | ((with_reducible refine gate_callee (f := 20) rfl ?_); refine goesL_ (some 27) rfl rfl Try.func20 (by kernel_rfl) rfl #[.int .i64 t416] rfl (by (try simp only [List.map_toArray, List.map_cons, List.map_nil]); first | done | rfl | (simp only [List.length_drop, List.length_take]; rfl)) ?_; (with_reducible refine (cruciblelaw0_Num.calls t416 t423 _ A11.out).mono ?_); rintro e w' ⟨rfl, ⟨nd, rfl⟩⟩; refine ⟨_, rfl, ?_⟩) | (go_at_call 20; (with_reducible refine (cruciblelaw0_Num.calls t420 t424 _ A13.out).mono ?_); rintro e w' ⟨rfl, ⟨nd, rfl⟩⟩))
            go_meet
            case rel => exact ⟨_, (decide ((a1.size : Int) > 900)), (by first | rfl | (simp; done) | (simp [*]; done)), H', ⟨by first | omega | exact Nat.le_refl _⟩, ⟨by (with_reducible repeat (first | apply Kd.R_alloc | apply Kd.R_drewN | apply Kd.R_drew)); exact Kd.R_mono HO418.out (fun _ hk => hk.2)⟩, ⟨by (with_reducible repeat (first | apply Kd.R_alloc | apply Kd.R_drewN | apply Kd.R_drew)); exact Kd.R_mono HO422.out (fun _ hk => hk.2)⟩, ⟨by repeat (first | (with_reducible first | exact HB.out | apply below_alloc | apply pw_below_drewN | apply below_drew1) | exact HB.out)⟩⟩
        · rw [if_neg c14] at H
          have c14b0 : (t424 == 0) = false := beq_eq_false_iff_ne.mpr c14
          have c14b1 : (t424 != 0) = true := bne_iff_ne.mpr c14
          have H' := Aside0.mk H
          clear H
          go_wp2_with (first | ((with_reducible refine gate_callee (f := 20) rfl ?_); refine goesL_ (some 27) rfl rfl Try.func20 (by kernel_rfl) rfl #[.int .i64 t416] rfl (by (try simp only [List.map_toArray, List.map_cons, List.map_nil]); first | done | rfl | (simp only [List.length_drop, List.length_take]; rfl)) ?_; (with_reducible refine (cruciblelaw0_Num.calls t416 t423 _ A11.out).mono ?_); rintro e w' ⟨rfl, ⟨nd, rfl⟩⟩; refine ⟨_, rfl, ?_⟩) | (go_at_call 20; (with_reducible refine (cruciblelaw0_Num.calls t420 t424 _ A13.out).mono ?_); rintro e w' ⟨rfl, ⟨nd, rfl⟩⟩))
          go_meet
          case rel => exact ⟨_, (true), (by first | rfl | (simp; done) | (simp [*]; done)), H', ⟨by first | omega | exact Nat.le_refl _⟩, ⟨by (with_reducible repeat (first | apply Kd.R_alloc | apply Kd.R_drewN | apply Kd.R_drew)); exact Kd.R_mono HO418.out (fun _ hk => hk.2)⟩, ⟨by (with_reducible repeat (first | apply Kd.R_alloc | apply Kd.R_drewN | apply Kd.R_drew)); exact Kd.R_mono HO422.out (fun _ hk => hk.2)⟩, ⟨by repeat (first | (with_reducible first | exact HB.out | apply below_alloc | apply pw_below_drewN | apply below_drew1) | exact HB.out)⟩⟩
      · rw [if_neg c12] at H
        have c12b0 : (t423 == 0) = false := beq_eq_false_iff_ne.mpr c12
        have c12b1 : (t423 != 0) = true := bne_iff_ne.mpr c12
        (first | rw [c12b0] | (simp only [i64_w, i32_w]; rw [c12b0]) | skip)
        have H' := Aside0.mk H
        clear H
        go_wp2_with (first | ((with_reducible refine gate_callee (f := 20) rfl ?_); refine goesL_ (some 27) rfl rfl Try.func20 (by kernel_rfl) rfl #[.int .i64 t416] rfl (by (try simp only [List.map_toArray, List.map_cons, List.map_nil]); first | done | rfl | (simp only [List.length_drop, List.length_take]; rfl)) ?_; (with_reducible refine (cruciblelaw0_Num.calls t416 t423 _ A11.out).mono ?_); rintro e w' ⟨rfl, ⟨nd, rfl⟩⟩; refine ⟨_, rfl, ?_⟩))
        go_meet
        case rel => exact ⟨_, (true), (by first | rfl | (simp; done) | (simp [*]; done)), H', ⟨by first | omega | exact Nat.le_refl _⟩, ⟨by (with_reducible repeat (first | apply Kd.R_alloc | apply Kd.R_drewN | apply Kd.R_drew)); exact Kd.R_mono HO418.out (fun _ hk => hk.2)⟩, ⟨by (with_reducible repeat (first | apply Kd.R_alloc | apply Kd.R_drewN | apply Kd.R_drew)); exact Kd.R_mono HO422.out (fun _ hk => hk.2)⟩, ⟨by repeat (first | (with_reducible first | exact HB.out | apply below_alloc | apply pw_below_drewN | apply below_drew1) | exact HB.out)⟩⟩
    case rest =>
      clear HC7
      try clear c1
      try clear c2
      try clear p2
      try clear c3
      try clear c4
      try clear c12
      try clear c12b0
      try clear c12b1
      try clear c14
      try clear c14b0
      try clear c14b1
      try clear c15
      try clear c15b0
      try clear c15b1
      obtain ⟨kq, x43_6, rfl, HA, HJ6, HO_5, HO_7, HB⟩ := hcut
      cases kq with
      | zero => exact absurd HA.out (by simp [cruciblelaw3_PieceTwo.j0])
      | succ kj6 =>
        have H := HA.out
        clear HA
        simp only [cruciblelaw3_PieceTwo.j0] at H
        by_cases c16 : x43_6 = true
        · subst c16
          have H1 : (some true) = some r := by rw [if_pos rfl] at H; exact H
          clear H
          have H := H1
          clear H1
          obtain rfl := Option.some.inj H
          go_wp2
          go_ret
          exact ⟨by first | rfl | (simp [errW_none, errW_some] <;> rfl) | (simp [*, errW_none, errW_some] <;> rfl), by repeat (first | (with_reducible first | exact HB.out | apply below_alloc | apply pw_below_drewN | apply below_drew1) | exact HB.out)⟩
        · replace c16 := Bool.eq_false_iff.mpr c16
          subst c16
          have H1 : (if a0.size + 2 ≤ 9223372036854775807 then (if (a0 ++ (⟨#[36, 58]⟩ : ByteArray)).size + a1.size ≤ 9223372036854775807 then ((pieces_Cut.f ((a0 ++ (⟨#[36, 58]⟩ : ByteArray)) ++ a1)).bind fun bt425 => (if 2 + a1.size ≤ 9223372036854775807 then ((pieces_Cut.f ((⟨#[36, 58]⟩ : ByteArray) ++ a1)).bind fun bt429 => ((cruciblelaw0_Num.f bt425.2).bind fun t433 => (if t433 = 0 then ((cruciblelaw0_Num.f bt429.2).bind fun t434 => (if t434 = 0 then (if (bt429.1.length : Int) = 0 then (cruciblelaw3_PieceTwo.j1 kj6 t415 t419 bt425.1 bt429.1 true) else (if 0 < (bt429.1.length : Int) then (cruciblelaw3_PieceTwo.j1 kj6 t415 t419 bt425.1 bt429.1 ((rd_T57 bt429.1 0).f0)) else (none))) else (cruciblelaw3_PieceTwo.j1 kj6 t415 t419 bt425.1 bt429.1 true))) else (cruciblelaw3_PieceTwo.j1 kj6 t415 t419 bt425.1 bt429.1 true)))) else (none))) else (none)) else (none)) = some r := by rw [if_neg (show ¬ (false = true) by decide)] at H; exact H
          clear H
          have H := H1
          clear H1
          by_cases c17 : a0.size + 2 ≤ 9223372036854775807
          · rw [if_pos c17] at H
            have c17b0 := eq_true c17
            have c17b1 : decide (a0.size + 2 ≤ 9223372036854775807) = true := decide_eq_true c17
            try have c17b2 : (9223372036854775807 < a0.size + 2) = False := eq_false (Nat.not_lt.2 c17)
            by_cases c18 : (a0 ++ (⟨#[36, 58]⟩ : ByteArray)).size + a1.size ≤ 9223372036854775807
            · rw [if_pos c18] at H
              have c18b0 := eq_true c18
              have c18b1 : decide ((a0 ++ (⟨#[36, 58]⟩ : ByteArray)).size + a1.size ≤ 9223372036854775807) = true := decide_eq_true c18
              try have c18b2 : (9223372036854775807 < (a0 ++ (⟨#[36, 58]⟩ : ByteArray)).size + a1.size) = False := eq_false (Nat.not_lt.2 c18)
              replace H := Option.bind_eq_some_iff.mp H
              obtain ⟨⟨t425, t426⟩, A190, H⟩ := H
              replace H : (if 2 + a1.size ≤ 9223372036854775807 then ((pieces_Cut.f ((⟨#[36, 58]⟩ : ByteArray) ++ a1)).bind fun bt429 => ((cruciblelaw0_Num.f t426).bind fun t433 => (if t433 = 0 then ((cruciblelaw0_Num.f bt429.2).bind fun t434 => (if t434 = 0 then (if (bt429.1.length : Int) = 0 then (cruciblelaw3_PieceTwo.j1 kj6 t415 t419 t425 bt429.1 true) else (if 0 < (bt429.1.length : Int) then (cruciblelaw3_PieceTwo.j1 kj6 t415 t419 t425 bt429.1 ((rd_T57 bt429.1 0).f0)) else (none))) else (cruciblelaw3_PieceTwo.j1 kj6 t415 t419 t425 bt429.1 true))) else (cruciblelaw3_PieceTwo.j1 kj6 t415 t419 t425 bt429.1 true)))) else (none)) = some r := H
              have A19 := Aside0.mk A190
              clear A190
              by_cases c20 : 2 + a1.size ≤ 9223372036854775807
              · rw [if_pos c20] at H
                have c20b0 := eq_true c20
                have c20b1 : decide (2 + a1.size ≤ 9223372036854775807) = true := decide_eq_true c20
                try have c20b2 : (9223372036854775807 < 2 + a1.size) = False := eq_false (Nat.not_lt.2 c20)
                replace H := Option.bind_eq_some_iff.mp H
                obtain ⟨⟨t429, t430⟩, A210, H⟩ := H
                replace H : ((cruciblelaw0_Num.f t426).bind fun t433 => (if t433 = 0 then ((cruciblelaw0_Num.f t430).bind fun t434 => (if t434 = 0 then (if (t429.length : Int) = 0 then (cruciblelaw3_PieceTwo.j1 kj6 t415 t419 t425 t429 true) else (if 0 < (t429.length : Int) then (cruciblelaw3_PieceTwo.j1 kj6 t415 t419 t425 t429 ((rd_T57 t429 0).f0)) else (none))) else (cruciblelaw3_PieceTwo.j1 kj6 t415 t419 t425 t429 true))) else (cruciblelaw3_PieceTwo.j1 kj6 t415 t419 t425 t429 true))) = some r := H
                have A21 := Aside0.mk A210
                clear A210
                have HC22 := Aside0.mk H
                clear H
                go_upto_region 9 with (first | ((with_reducible refine gate_callee (f := 35) rfl ?_); refine goesL_ (some 49) rfl rfl Try.func35 (by kernel_rfl) rfl #[.string ((a0 ++ (⟨#[36, 58]⟩ : ByteArray)) ++ a1)] rfl (by (try simp only [List.map_toArray, List.map_cons, List.map_nil]); first | done | rfl | (simp only [List.length_drop, List.length_take]; rfl)) ?_; (with_reducible refine (pieces_Cut.calls ((a0 ++ (⟨#[36, 58]⟩ : ByteArray)) ++ a1) t425 t426 _ A19.out).mono ?_); rintro e w23 ⟨v427, rfl, ho0, hb⟩; refine ⟨_, rfl, ?_⟩; have n0_ := Aside0.mk (Kd.R_elder' (by (with_reducible repeat (first | apply Kd.R_alloc | apply Kd.R_drewN | apply Kd.R_drew)); exact HO_5.out) (Kd.R_base ho0) hb); have n1_ := Aside0.mk (Kd.R_elder' (by (with_reducible repeat (first | apply Kd.R_alloc | apply Kd.R_drewN | apply Kd.R_drew)); exact HO_7.out) (Kd.R_base ho0) hb); have n2_ := Aside0.mk (Kd.R_lower (Kd.R_new' (Kd.R_new' ho0 (Kd.R_lt (by (with_reducible repeat (first | apply Kd.R_alloc | apply Kd.R_drewN | apply Kd.R_drew)); exact HO_5.out))) (Kd.R_lt (by (with_reducible repeat (first | apply Kd.R_alloc | apply Kd.R_drewN | apply Kd.R_drew)); exact HO_7.out))) (below_size (by repeat (first | (with_reducible first | exact HB.out | apply below_alloc | apply pw_below_drewN | apply below_drew1) | exact HB.out)))); have n3_ := Aside0.mk (below_step (by repeat (first | (with_reducible first | exact HB.out | apply below_alloc | apply pw_below_drewN | apply below_drew1) | exact HB.out)) hb); clear HO_5; clear HO_7; clear HB; have HO_5 := n0_; have HO_7 := n1_; have HO428 := n2_; have HB := n3_; clear n0_ n1_ n2_ n3_; (try clear hb); (try clear hb2); (try clear hk); (try clear hi); (try clear ho0)) | ((with_reducible refine gate_callee (f := 35) rfl ?_); refine goesL_ (some 55) rfl rfl Try.func35 (by kernel_rfl) rfl #[.string ((⟨#[36, 58]⟩ : ByteArray) ++ a1)] rfl (by (try simp only [List.map_toArray, List.map_cons, List.map_nil]); first | done | rfl | (simp only [List.length_drop, List.length_take]; rfl)) ?_; (with_reducible refine (pieces_Cut.calls ((⟨#[36, 58]⟩ : ByteArray) ++ a1) t429 t430 _ A21.out).mono ?_); rintro e w24 ⟨v431, rfl, ho0, hb⟩; refine ⟨_, rfl, ?_⟩; have n0_ := Aside0.mk (Kd.R_elder' (by (with_reducible repeat (first | apply Kd.R_alloc | apply Kd.R_drewN | apply Kd.R_drew)); exact HO_5.out) (Kd.R_base ho0) hb); have n1_ := Aside0.mk (Kd.R_elder' (by (with_reducible repeat (first | apply Kd.R_alloc | apply Kd.R_drewN | apply Kd.R_drew)); exact HO_7.out) (Kd.R_base ho0) hb); have n2_ := Aside0.mk (Kd.R_elder' (by (with_reducible repeat (first | apply Kd.R_alloc | apply Kd.R_drewN | apply Kd.R_drew)); exact HO428.out) (Kd.R_base ho0) hb); have n3_ := Aside0.mk (Kd.R_lower (Kd.R_new' (Kd.R_new' (Kd.R_new' ho0 (Kd.R_lt (by (with_reducible repeat (first | apply Kd.R_alloc | apply Kd.R_drewN | apply Kd.R_drew)); exact HO_5.out))) (Kd.R_lt (by (with_reducible repeat (first | apply Kd.R_alloc | apply Kd.R_drewN | apply Kd.R_drew)); exact HO_7.out))) (Kd.R_lt (by (with_reducible repeat (first | apply Kd.R_alloc | apply Kd.R_drewN | apply Kd.R_drew)); exact HO428.out))) (below_size (by repeat (first | (with_reducible first | exact HB.out | apply below_alloc | apply pw_below_drewN | apply below_drew1) | exact HB.out)))); have n4_ := Aside0.mk (below_step (by repeat (first | (with_reducible first | exact HB.out | apply below_alloc | apply pw_below_drewN | apply below_drew1) | exact HB.out)) hb); clear HO_5; clear HO_7; clear HO428; clear HB; have HO_5 := n0_; have HO_7 := n1_; have HO428 := n2_; have HO432 := n3_; have HB := n4_; clear n0_ n1_ n2_ n3_ n4_; (try clear hb); (try clear hb2); (try clear hk); (try clear hi); (try clear ho0)))
                (try simp only [Act.put, List.setIfInBounds_toArray, List.set_cons_zero, List.set_cons_succ])
                go_cut [76] (fun v76 wc => ∃ (kq : Nat) (x76_21 : Bool), v76 = .bool x76_21 ∧ Aside0 (cruciblelaw3_PieceTwo.j1 kq t415 t419 t425 t429 x76_21 = some r) ∧ Aside0 (kq ≤ kj6) ∧ Aside0 (Kd.R k57 57 wc w.heap.size (fun k_ => some k_ ≠ (v421 : Value).ownBlock ∧ some k_ ≠ (v427 : Value).ownBlock ∧ some k_ ≠ (v431 : Value).ownBlock) v417 t415) ∧ Aside0 (Kd.R k57 57 wc w.heap.size (fun k_ => some k_ ≠ (v417 : Value).ownBlock ∧ some k_ ≠ (v427 : Value).ownBlock ∧ some k_ ≠ (v431 : Value).ownBlock) v421 t419) ∧ Aside0 (Kd.R k57 57 wc w.heap.size (fun k_ => some k_ ≠ (v417 : Value).ownBlock ∧ some k_ ≠ (v421 : Value).ownBlock ∧ some k_ ≠ (v431 : Value).ownBlock) v427 t425) ∧ Aside0 (Kd.R k57 57 wc w.heap.size (fun k_ => some k_ ≠ (v417 : Value).ownBlock ∧ some k_ ≠ (v421 : Value).ownBlock ∧ some k_ ≠ (v427 : Value).ownBlock) v431 t429) ∧ Aside0 (Below w.heap.size w wc))
                case first =>
                  have H := HC22.out
                  clear HC22
                  replace H := Option.bind_eq_some_iff.mp H
                  obtain ⟨t433, A250, H⟩ := H
                  replace H : (if t433 = 0 then ((cruciblelaw0_Num.f t430).bind fun t434 => (if t434 = 0 then (if (t429.length : Int) = 0 then (cruciblelaw3_PieceTwo.j1 kj6 t415 t419 t425 t429 true) else (if 0 < (t429.length : Int) then (cruciblelaw3_PieceTwo.j1 kj6 t415 t419 t425 t429 ((rd_T57 t429 0).f0)) else (none))) else (cruciblelaw3_PieceTwo.j1 kj6 t415 t419 t425 t429 true))) else (cruciblelaw3_PieceTwo.j1 kj6 t415 t419 t425 t429 true)) = some r := H
                  have A25 := Aside0.mk A250
                  clear A250
                  by_cases c26 : t433 = 0
                  · rw [if_pos c26] at H
                    have c26b0 : (t433 == 0) = true := beq_iff_eq.mpr c26
                    have c26b1 : (t433 != 0) = false := bne_eq_false_iff_eq.mpr c26
                    clear c26
                    (first | rw [c26b0] | (simp only [i64_w, i32_w]; rw [c26b0]) | skip)
                    replace H := Option.bind_eq_some_iff.mp H
                    obtain ⟨t434, A270, H⟩ := H
                    replace H : (if t434 = 0 then (if (t429.length : Int) = 0 then (cruciblelaw3_PieceTwo.j1 kj6 t415 t419 t425 t429 true) else (if 0 < (t429.length : Int) then (cruciblelaw3_PieceTwo.j1 kj6 t415 t419 t425 t429 ((rd_T57 t429 0).f0)) else (none))) else (cruciblelaw3_PieceTwo.j1 kj6 t415 t419 t425 t429 true)) = some r := H
                    have A27 := Aside0.mk A270
                    clear A270
                    by_cases c28 : t434 = 0
                    · rw [if_pos c28] at H
                      have c28b0 : (t434 == 0) = true := beq_iff_eq.mpr c28
                      have c28b1 : (t434 != 0) = false := bne_eq_false_iff_eq.mpr c28
                      clear c28
                      by_cases c29 : (t429.length : Int) = 0
                      · rw [if_pos c29] at H
                        have c29b0 : ((t429.length : Int) == 0) = true := beq_iff_eq.mpr c29
                        have c29b1 : ((t429.length : Int) != 0) = false := bne_eq_false_iff_eq.mpr c29
                        clear c29
                        have H' := Aside0.mk H
                        clear H
                        go_wp2_with (first | ((with_reducible refine gate_callee (f := 20) rfl ?_); refine goesL_ (some 59) rfl rfl Try.func20 (by kernel_rfl) rfl #[.int .i64 t426] rfl (by (try simp only [List.map_toArray, List.map_cons, List.map_nil]); first | done | rfl | (simp only [List.length_drop, List.length_take]; rfl)) ?_; (with_reducible refine (cruciblelaw0_Num.calls t426 t433 _ A25.out).mono ?_); rintro e w' ⟨rfl, ⟨nd, rfl⟩⟩; refine ⟨_, rfl, ?_⟩) | (go_at_call 20; (with_reducible refine (cruciblelaw0_Num.calls t430 t434 _ A27.out).mono ?_); rintro e w' ⟨rfl, ⟨nd, rfl⟩⟩; obtain ⟨Ao30, co30, eo30⟩ := Kd.R_slice HO432.out; subst eo30))
                        go_meet
                        case rel => exact ⟨_, (true), (by first | rfl | (simp; done) | (simp [*]; done)), H', ⟨by have := HJ6.out; first | omega | exact Nat.le_refl _⟩, ⟨by (with_reducible repeat (first | apply Kd.R_alloc | apply Kd.R_drewN | apply Kd.R_drew)); exact Kd.R_mono HO_5.out (fun _ hk => ⟨hk.1.1, ⟨hk.1.2, hk.2⟩⟩)⟩, ⟨by (with_reducible repeat (first | apply Kd.R_alloc | apply Kd.R_drewN | apply Kd.R_drew)); exact Kd.R_mono HO_7.out (fun _ hk => ⟨hk.1.1, ⟨hk.1.2, hk.2⟩⟩)⟩, ⟨by (with_reducible repeat (first | apply Kd.R_alloc | apply Kd.R_drewN | apply Kd.R_drew)); exact Kd.R_mono HO428.out (fun _ hk => ⟨hk.1.1.2, ⟨hk.1.2, hk.2⟩⟩)⟩, ⟨by (with_reducible repeat (first | apply Kd.R_alloc | apply Kd.R_drewN | apply Kd.R_drew)); exact Kd.R_mono HO432.out (fun _ hk => ⟨hk.1.1.2, ⟨hk.1.2, hk.2⟩⟩)⟩, ⟨by repeat (first | (with_reducible first | exact HB.out | apply below_alloc | apply pw_below_drewN | apply below_drew1) | exact HB.out)⟩⟩
                      · rw [if_neg c29] at H
                        have c29b0 : ((t429.length : Int) == 0) = false := beq_eq_false_iff_ne.mpr c29
                        have c29b1 : ((t429.length : Int) != 0) = true := bne_iff_ne.mpr c29
                        have c29b2 : ¬ (t429 = []) := fun h_ => c29 (by rw [h_]; rfl)
                        by_cases c31 : 0 < (t429.length : Int)
                        · rw [if_pos c31] at H
                          have c31b0 : decide (0 < (t429.length : Int)) = true := decide_eq_true c31
                          have c31b1 : decide (0 < t429.length) = true := decide_eq_true (by omega)
                          clear c31
                          have H' := Aside0.mk H
                          clear H
                          go_wp2_with (first | ((with_reducible refine gate_callee (f := 20) rfl ?_); refine goesL_ (some 59) rfl rfl Try.func20 (by kernel_rfl) rfl #[.int .i64 t426] rfl (by (try simp only [List.map_toArray, List.map_cons, List.map_nil]); first | done | rfl | (simp only [List.length_drop, List.length_take]; rfl)) ?_; (with_reducible refine (cruciblelaw0_Num.calls t426 t433 _ A25.out).mono ?_); rintro e w' ⟨rfl, ⟨nd, rfl⟩⟩; refine ⟨_, rfl, ?_⟩) | (go_at_call 20; (with_reducible refine (cruciblelaw0_Num.calls t430 t434 _ A27.out).mono ?_); rintro e w' ⟨rfl, ⟨nd, rfl⟩⟩; obtain ⟨Ao32, co32, eo32⟩ := Kd.R_slice HO432.out; subst eo32; have p435 : 0 ≤ (0 : Int) := (by omega); have q435 : 0 < (t429.length : Int) := of_decide_eq_true (by first | (with_reducible assumption) | assumption); obtain ⟨ad435, e435, hx435_0, hx435_1⟩ := at_T57 (Kd.R_reads' HO432.out).2.2 0 p435 q435; cases e435; have qi435 : (0 < t429.length) = True := eq_true (by omega); (try rw [show ((0 : Int)).toNat = 0 from rfl] at hx435_0); (try rw [show 0 * 2 = 0 from rfl] at hx435_0); (try rw [Addr.add_zero'] at hx435_0); (try rw [show ((0 : Int)).toNat = 0 from rfl] at hx435_1); (try rw [show 0 * 2 = 0 from rfl] at hx435_1); (try rw [Addr.add_zero'] at hx435_1); replace p435 := eq_true p435; replace q435 := eq_true q435))
                          go_meet
                          case rel => exact ⟨_, ((rd_T57 t429 0).f0), (by first | rfl | (simp; done) | (simp [*]; done)), H', ⟨by have := HJ6.out; first | omega | exact Nat.le_refl _⟩, ⟨by (with_reducible repeat (first | apply Kd.R_alloc | apply Kd.R_drewN | apply Kd.R_drew)); exact Kd.R_mono HO_5.out (fun _ hk => ⟨hk.1.1, ⟨hk.1.2, hk.2⟩⟩)⟩, ⟨by (with_reducible repeat (first | apply Kd.R_alloc | apply Kd.R_drewN | apply Kd.R_drew)); exact Kd.R_mono HO_7.out (fun _ hk => ⟨hk.1.1, ⟨hk.1.2, hk.2⟩⟩)⟩, ⟨by (with_reducible repeat (first | apply Kd.R_alloc | apply Kd.R_drewN | apply Kd.R_drew)); exact Kd.R_mono HO428.out (fun _ hk => ⟨hk.1.1.2, ⟨hk.1.2, hk.2⟩⟩)⟩, ⟨by (with_reducible repeat (first | apply Kd.R_alloc | apply Kd.R_drewN | apply Kd.R_drew)); exact Kd.R_mono HO432.out (fun _ hk => ⟨hk.1.1.2, ⟨hk.1.2, hk.2⟩⟩)⟩, ⟨by repeat (first | (with_reducible first | exact HB.out | apply below_alloc | apply pw_below_drewN | apply below_drew1) | exact HB.out)⟩⟩
                        · rw [if_neg c31] at H
                          exact absurd H (by simp)
                    · rw [if_neg c28] at H
                      have c28b0 : (t434 == 0) = false := beq_eq_false_iff_ne.mpr c28
                      have c28b1 : (t434 != 0) = true := bne_iff_ne.mpr c28
                      have H' := Aside0.mk H
                      clear H
                      go_wp2_with (first | ((with_reducible refine gate_callee (f := 20) rfl ?_); refine goesL_ (some 59) rfl rfl Try.func20 (by kernel_rfl) rfl #[.int .i64 t426] rfl (by (try simp only [List.map_toArray, List.map_cons, List.map_nil]); first | done | rfl | (simp only [List.length_drop, List.length_take]; rfl)) ?_; (with_reducible refine (cruciblelaw0_Num.calls t426 t433 _ A25.out).mono ?_); rintro e w' ⟨rfl, ⟨nd, rfl⟩⟩; refine ⟨_, rfl, ?_⟩) | (go_at_call 20; (with_reducible refine (cruciblelaw0_Num.calls t430 t434 _ A27.out).mono ?_); rintro e w' ⟨rfl, ⟨nd, rfl⟩⟩))
                      go_meet
                      case rel => exact ⟨_, (true), (by first | rfl | (simp; done) | (simp [*]; done)), H', ⟨by have := HJ6.out; first | omega | exact Nat.le_refl _⟩, ⟨by (with_reducible repeat (first | apply Kd.R_alloc | apply Kd.R_drewN | apply Kd.R_drew)); exact Kd.R_mono HO_5.out (fun _ hk => ⟨hk.1.1, ⟨hk.1.2, hk.2⟩⟩)⟩, ⟨by (with_reducible repeat (first | apply Kd.R_alloc | apply Kd.R_drewN | apply Kd.R_drew)); exact Kd.R_mono HO_7.out (fun _ hk => ⟨hk.1.1, ⟨hk.1.2, hk.2⟩⟩)⟩, ⟨by (with_reducible repeat (first | apply Kd.R_alloc | apply Kd.R_drewN | apply Kd.R_drew)); exact Kd.R_mono HO428.out (fun _ hk => ⟨hk.1.1.2, ⟨hk.1.2, hk.2⟩⟩)⟩, ⟨by (with_reducible repeat (first | apply Kd.R_alloc | apply Kd.R_drewN | apply Kd.R_drew)); exact Kd.R_mono HO432.out (fun _ hk => ⟨hk.1.1.2, ⟨hk.1.2, hk.2⟩⟩)⟩, ⟨by repeat (first | (with_reducible first | exact HB.out | apply below_alloc | apply pw_below_drewN | apply below_drew1) | exact HB.out)⟩⟩
                  · rw [if_neg c26] at H
                    have c26b0 : (t433 == 0) = false := beq_eq_false_iff_ne.mpr c26
                    have c26b1 : (t433 != 0) = true := bne_iff_ne.mpr c26
                    (first | rw [c26b0] | (simp only [i64_w, i32_w]; rw [c26b0]) | skip)
                    have H' := Aside0.mk H
                    clear H
                    go_wp2_with (first | ((with_reducible refine gate_callee (f := 20) rfl ?_); refine goesL_ (some 59) rfl rfl Try.func20 (by kernel_rfl) rfl #[.int .i64 t426] rfl (by (try simp only [List.map_toArray, List.map_cons, List.map_nil]); first | done | rfl | (simp only [List.length_drop, List.length_take]; rfl)) ?_; (with_reducible refine (cruciblelaw0_Num.calls t426 t433 _ A25.out).mono ?_); rintro e w' ⟨rfl, ⟨nd, rfl⟩⟩; refine ⟨_, rfl, ?_⟩))
                    go_meet
                    case rel => exact ⟨_, (true), (by first | rfl | (simp; done) | (simp [*]; done)), H', ⟨by have := HJ6.out; first | omega | exact Nat.le_refl _⟩, ⟨by (with_reducible repeat (first | apply Kd.R_alloc | apply Kd.R_drewN | apply Kd.R_drew)); exact Kd.R_mono HO_5.out (fun _ hk => ⟨hk.1.1, ⟨hk.1.2, hk.2⟩⟩)⟩, ⟨by (with_reducible repeat (first | apply Kd.R_alloc | apply Kd.R_drewN | apply Kd.R_drew)); exact Kd.R_mono HO_7.out (fun _ hk => ⟨hk.1.1, ⟨hk.1.2, hk.2⟩⟩)⟩, ⟨by (with_reducible repeat (first | apply Kd.R_alloc | apply Kd.R_drewN | apply Kd.R_drew)); exact Kd.R_mono HO428.out (fun _ hk => ⟨hk.1.1.2, ⟨hk.1.2, hk.2⟩⟩)⟩, ⟨by (with_reducible repeat (first | apply Kd.R_alloc | apply Kd.R_drewN | apply Kd.R_drew)); exact Kd.R_mono HO432.out (fun _ hk => ⟨hk.1.1.2, ⟨hk.1.2, hk.2⟩⟩)⟩, ⟨by repeat (first | (with_reducible first | exact HB.out | apply below_alloc | apply pw_below_drewN | apply below_drew1) | exact HB.out)⟩⟩
                case rest =>
                  clear HC22
                  try clear c1
                  try clear c2
                  try clear p2
                  try clear c3
                  try clear c4
                  try clear p4
                  try clear q4
                  try clear hx4
                  try clear qi4
                  try clear c12
                  try clear c12b0
                  try clear c12b1
                  try clear c14
                  try clear c14b0
                  try clear c14b1
                  try clear c15
                  try clear c15b0
                  try clear c15b1
                  try clear c16
                  try clear c17
                  try clear c17b0
                  try clear c17b1
                  try clear c17b2
                  try clear c18
                  try clear c18b0
                  try clear c18b1
                  try clear c18b2
                  try clear c20
                  try clear c20b0
                  try clear c20b1
                  try clear c20b2
                  try clear c26
                  try clear c26b0
                  try clear c26b1
                  try clear c28
                  try clear c28b0
                  try clear c28b1
                  try clear c29
                  try clear c29b0
                  try clear c29b1
                  try clear c29b2
                  try clear c31
                  try clear c31b0
                  try clear c31b1
                  try clear hx435_0
                  try clear hx435_1
                  try clear p2
                  try clear p435
                  try clear q435
                  obtain ⟨kq, x76_21, rfl, HA, HJ21, HO_5, HO_7, HO_9, HO_11, HB⟩ := hcut
                  cases kq with
                  | zero => exact absurd HA.out (by simp [cruciblelaw3_PieceTwo.j1])
                  | succ kj21 =>
                    have H := HA.out
                    clear HA
                    simp only [cruciblelaw3_PieceTwo.j1] at H
                    by_cases c33 : x76_21 = true
                    · subst c33
                      have H1 : (some false) = some r := by rw [if_pos rfl] at H; exact H
                      clear H
                      have H := H1
                      clear H1
                      obtain rfl := Option.some.inj H
                      go_wp2
                      go_ret
                      exact ⟨by first | rfl | (simp [errW_none, errW_some] <;> rfl) | (simp [*, errW_none, errW_some] <;> rfl), by repeat (first | (with_reducible first | exact HB.out | apply below_alloc | apply pw_below_drewN | apply below_drew1) | exact HB.out)⟩
                    · replace c33 := Bool.eq_false_iff.mpr c33
                      subst c33
                      have H1 : (if ([] : List (S57)).length + t415.length < 5864062014805 then ((some (([] : List (S57)) ++ t415 : List (S57))).bind fun y436 => (if (y436.length : Int) > 0 then (if 0 ≤ (wrap64 ((y436.length : Int) - 1)) then (if (wrap64 ((y436.length : Int) - 1)) < (y436.length : Int) then (if ((rd_T57 y436 (wrap64 ((y436.length : Int) - 1))).f0 = true) then (if y436.length + t429.length < 5864062014805 then ((cruciblelaw0_SamePieces.f kj21 t425 (y436 ++ t429)).bind fun t443 => (if t443 = true then (some (decide ((t419.length : Int) ≤ (t429.length : Int)))) else (some false))) else (none)) else (if 0 < (t429.length : Int) then (if ((rd_T57 y436 (wrap64 ((y436.length : Int) - 1))).f1).size + ((rd_T57 t429 0).f1).size ≤ 9223372036854775807 then ((some (y436.set ((wrap64 ((y436.length : Int) - 1)) : Int).toNat (⟨(rd_T57 y436 (wrap64 ((y436.length : Int) - 1))).f0, ((rd_T57 y436 (wrap64 ((y436.length : Int) - 1))).f1) ++ ((rd_T57 t429 0).f1)⟩ : S57) : List (S57))).bind fun y446 => (if 1 ≤ (t429.length : Int) then ((some (t429.drop 1 : List (S57))).bind fun y447 => (if y446.length + y447.length < 5864062014805 then ((cruciblelaw0_SamePieces.f kj21 t425 (y446 ++ y447)).bind fun t454 => (if t454 = true then (some (decide ((t419.length : Int) ≤ (t429.length : Int)))) else (some false))) else (none))) else (none))) else (none)) else (none))) else (none)) else (none)) else (if y436.length + t429.length < 5864062014805 then ((cruciblelaw0_SamePieces.f kj21 t425 (y436 ++ t429)).bind fun t458 => (if t458 = true then (some (decide ((t419.length : Int) ≤ (t429.length : Int)))) else (some false))) else (none)))) else (none)) = some r := by rw [if_neg (show ¬ (false = true) by decide)] at H; exact H
                      clear H
                      have H := H1
                      clear H1
                      by_cases c34 : ([] : List (S57)).length + t415.length < 5864062014805
                      · rw [if_pos c34] at H
                        have LMc34 := Aside0.mk c34
                        clear c34
                        obtain ⟨y436, hy436⟩ : ∃ y_ : List (S57), y_ = (([] : List (S57)) ++ t415) := ⟨_, rfl⟩
                        replace H : (if (y436.length : Int) > 0 then (if 0 ≤ (wrap64 ((y436.length : Int) - 1)) then (if (wrap64 ((y436.length : Int) - 1)) < (y436.length : Int) then (if ((rd_T57 y436 (wrap64 ((y436.length : Int) - 1))).f0 = true) then (if y436.length + t429.length < 5864062014805 then ((cruciblelaw0_SamePieces.f kj21 t425 (y436 ++ t429)).bind fun t443 => (if t443 = true then (some (decide ((t419.length : Int) ≤ (t429.length : Int)))) else (some false))) else (none)) else (if 0 < (t429.length : Int) then (if ((rd_T57 y436 (wrap64 ((y436.length : Int) - 1))).f1).size + ((rd_T57 t429 0).f1).size ≤ 9223372036854775807 then ((some (y436.set ((wrap64 ((y436.length : Int) - 1)) : Int).toNat (⟨(rd_T57 y436 (wrap64 ((y436.length : Int) - 1))).f0, ((rd_T57 y436 (wrap64 ((y436.length : Int) - 1))).f1) ++ ((rd_T57 t429 0).f1)⟩ : S57) : List (S57))).bind fun y446 => (if 1 ≤ (t429.length : Int) then ((some (t429.drop 1 : List (S57))).bind fun y447 => (if y446.length + y447.length < 5864062014805 then ((cruciblelaw0_SamePieces.f kj21 t425 (y446 ++ y447)).bind fun t454 => (if t454 = true then (some (decide ((t419.length : Int) ≤ (t429.length : Int)))) else (some false))) else (none))) else (none))) else (none)) else (none))) else (none)) else (none)) else (if y436.length + t429.length < 5864062014805 then ((cruciblelaw0_SamePieces.f kj21 t425 (y436 ++ t429)).bind fun t458 => (if t458 = true then (some (decide ((t419.length : Int) ≤ (t429.length : Int)))) else (some false))) else (none))) = some r := by first | (rw [hy436]; with_reducible exact H) | (have H2_ := (Option.bind_some _ _).symm.trans H; rw [hy436]; with_reducible exact H2_) | (have H2_ := (Option.bind_some _ _).symm.trans H; with_reducible exact H2_) | with_reducible exact H | (rw [hy436]; exact H) | exact H
                        have Ny436 := Aside0.mk hy436
                        clear hy436
                        by_cases c35 : (y436.length : Int) > 0
                        · rw [if_pos c35] at H
                          have c35b0 : decide (0 < (y436.length : Int)) = true := decide_eq_true c35
                          have c35b1 : decide (0 < y436.length) = true := decide_eq_true (by omega)
                          clear c35
                          obtain ⟨ji36, hji36⟩ : ∃ j_ : Int, (wrap64 ((y436.length : Int) - 1)) = j_ := ⟨_, rfl⟩
                          replace H : (if 0 ≤ (ji36) then (if (ji36) < (y436.length : Int) then (if ((rd_T57 y436 (ji36)).f0 = true) then (if y436.length + t429.length < 5864062014805 then ((cruciblelaw0_SamePieces.f kj21 t425 (y436 ++ t429)).bind fun t443 => (if t443 = true then (some (decide ((t419.length : Int) ≤ (t429.length : Int)))) else (some false))) else (none)) else (if 0 < (t429.length : Int) then (if ((rd_T57 y436 (ji36)).f1).size + ((rd_T57 t429 0).f1).size ≤ 9223372036854775807 then ((some (y436.set ((ji36) : Int).toNat (⟨(rd_T57 y436 (ji36)).f0, ((rd_T57 y436 (ji36)).f1) ++ ((rd_T57 t429 0).f1)⟩ : S57) : List (S57))).bind fun y446 => (if 1 ≤ (t429.length : Int) then ((some (t429.drop 1 : List (S57))).bind fun y447 => (if y446.length + y447.length < 5864062014805 then ((cruciblelaw0_SamePieces.f kj21 t425 (y446 ++ y447)).bind fun t454 => (if t454 = true then (some (decide ((t419.length : Int) ≤ (t429.length : Int)))) else (some false))) else (none))) else (none))) else (none)) else (none))) else (none)) else (none)) = some r := by first | (rw [hji36] at H; exact H) | (simp only [hji36] at H ⊢; exact H)
                          have hji36w : (IntKind.i64.wrap ((y436.length : Int) - 1)) = ji36 := (i64_w _).trans hji36
                          by_cases c37 : 0 ≤ (ji36)
                          · rw [if_pos c37] at H
                            have c37b0 : decide (0 ≤ (ji36)) = true := decide_eq_true c37
                            clear c37
                            by_cases c38 : (ji36) < (y436.length : Int)
                            · rw [if_pos c38] at H
                              have c38b0 : decide ((ji36) < (y436.length : Int)) = true := decide_eq_true c38
                              clear c38
                              obtain ⟨bq39, hbq39⟩ : ∃ b_ : Bool, b_ = ((rd_T57 y436 (ji36)).f0) := ⟨_, rfl⟩
                              replace H : (if (bq39 = true) then (if y436.length + t429.length < 5864062014805 then ((cruciblelaw0_SamePieces.f kj21 t425 (y436 ++ t429)).bind fun t443 => (if t443 = true then (some (decide ((t419.length : Int) ≤ (t429.length : Int)))) else (some false))) else (none)) else (if 0 < (t429.length : Int) then (if ((rd_T57 y436 (ji36)).f1).size + ((rd_T57 t429 0).f1).size ≤ 9223372036854775807 then ((some (y436.set ((ji36) : Int).toNat (⟨bq39, ((rd_T57 y436 (ji36)).f1) ++ ((rd_T57 t429 0).f1)⟩ : S57) : List (S57))).bind fun y446 => (if 1 ≤ (t429.length : Int) then ((some (t429.drop 1 : List (S57))).bind fun y447 => (if y446.length + y447.length < 5864062014805 then ((cruciblelaw0_SamePieces.f kj21 t425 (y446 ++ y447)).bind fun t454 => (if t454 = true then (some (decide ((t419.length : Int) ≤ (t429.length : Int)))) else (some false))) else (none))) else (none))) else (none)) else (none))) = some r := by rw [← hbq39] at H; exact H
                              have Nbq39 := Aside0.mk hbq39
                              clear hbq39
                              by_cases c40 : (bq39 = true)
                              · subst c40
                                have H1 : (if y436.length + t429.length < 5864062014805 then ((cruciblelaw0_SamePieces.f kj21 t425 (y436 ++ t429)).bind fun t443 => (if t443 = true then (some (decide ((t419.length : Int) ≤ (t429.length : Int)))) else (some false))) else (none)) = some r := by rw [if_pos rfl] at H; exact H
                                clear H
                                have H := H1
                                clear H1
                                by_cases c41 : y436.length + t429.length < 5864062014805
                                · rw [if_pos c41] at H
                                  have LMc41 := Aside0.mk c41
                                  clear c41
                                  obtain ⟨y440, hy440⟩ : ∃ y_ : List (S57), y_ = (y436 ++ t429) := ⟨_, rfl⟩
                                  replace H : ((cruciblelaw0_SamePieces.f kj21 t425 y440).bind fun t443 => (if t443 = true then (some (decide ((t419.length : Int) ≤ (t429.length : Int)))) else (some false))) = some r := by first | (rw [hy440]; with_reducible exact H) | (have H2_ := (Option.bind_some _ _).symm.trans H; rw [hy440]; with_reducible exact H2_) | (have H2_ := (Option.bind_some _ _).symm.trans H; with_reducible exact H2_) | with_reducible exact H | (rw [hy440]; exact H) | exact H
                                  have Ny440 := Aside0.mk hy440
                                  clear hy440
                                  replace H := Option.bind_eq_some_iff.mp H
                                  obtain ⟨t443, A420, H⟩ := H
                                  replace H : (if t443 = true then (some (decide ((t419.length : Int) ≤ (t429.length : Int)))) else (some false)) = some r := H
                                  have A42 := Aside0.mk A420
                                  clear A420
                                  by_cases c43 : t443 = true
                                  · subst c43
                                    have H1 : (some (decide ((t419.length : Int) ≤ (t429.length : Int)))) = some r := by rw [if_pos rfl] at H; exact H
                                    clear H
                                    have H := H1
                                    clear H1
                                    obtain rfl := Option.some.inj H
                                    obtain ⟨Ao45, co45, eo45⟩ := Kd.R_slice HO_5.out
                                    subst eo45
                                    go_wp2_with (first | ((with_reducible refine gate_builtin (b := .append) (xs := #[.tmp 77, .tmp 78]) rfl ?_); (try (refine gate_guard (by rfl) ?_; dsimp only)); at_builtin; refine Kd.R_append_rows k57 (w0 := w) w.heap.size rfl (.tmp 77) (.tmp 78) 48 57 (.agg #[(.bool false), (.string ⟨#[]⟩)]) 24 rfl Try.underlying48 info57 rfl (by decide) (by omega) (.slice none 0 0) ([] : List (S57)) t415 _ _ _ (fun k_ => some k_ ≠ (.slice Ao45 t415.length co45 : Value).ownBlock ∧ some k_ ≠ (v421 : Value).ownBlock ∧ some k_ ≠ (v427 : Value).ownBlock ∧ some k_ ≠ (v431 : Value).ownBlock) (fun _ => False) rfl rfl ?aO ?aR (fun _ _ h => h) (fun _ h => h.elim) ?aF ?aB ?aS ?aL ?_; (case aR => repeat (first | exact (Kd.R_reads' HO_5.out).2.2 | (with_reducible refine Kd.C_alloc ?_ _) | (with_reducible refine Kd.C_drewN ?_ _) | (with_reducible refine Kd.C_drew ?_))); (case aB => exact (by repeat (first | (with_reducible first | exact HB.out | apply below_alloc | apply pw_below_drewN | apply below_drew1) | exact HB.out))); (case aF => exact (fun k_ hk => ⟨Kd.fresh' (Kd.R_lt (by (with_reducible repeat (first | apply Kd.R_alloc | apply Kd.R_drewN | apply Kd.R_drew)); exact HO_5.out)) k_ hk, Kd.fresh' (Kd.R_lt (by (with_reducible repeat (first | apply Kd.R_alloc | apply Kd.R_drewN | apply Kd.R_drew)); exact HO_7.out)) k_ hk, Kd.fresh' (Kd.R_lt (by (with_reducible repeat (first | apply Kd.R_alloc | apply Kd.R_drewN | apply Kd.R_drew)); exact HO_9.out)) k_ hk, Kd.fresh' (Kd.R_lt (by (with_reducible repeat (first | apply Kd.R_alloc | apply Kd.R_drewN | apply Kd.R_drew)); exact HO_11.out)) k_ hk⟩)); (case aO => exact ((Kd.R_nil _ _ _ _ (fun k_ => some k_ ≠ (.slice Ao45 t415.length co45 : Value).ownBlock ∧ some k_ ≠ (v421 : Value).ownBlock ∧ some k_ ≠ (v427 : Value).ownBlock ∧ some k_ ≠ (v431 : Value).ownBlock)))); (case aS => exact (below_size (by repeat (first | (with_reducible first | exact HB.out | apply below_alloc | apply pw_below_drewN | apply below_drew1) | exact HB.out)))); (case aL => have := LMc34.out; omega); intro v437 w44 ho hb hg hat; rw [← Ny436.out] at ho; have n0_ := Aside0.mk (Kd.R_after (Kd.R_apart_nil (by (with_reducible repeat (first | apply Kd.R_alloc | apply Kd.R_drewN | apply Kd.R_drew)); exact HO_5.out)) hg hat); have n1_ := Aside0.mk (Kd.R_after (Kd.R_apart_nil (by (with_reducible repeat (first | apply Kd.R_alloc | apply Kd.R_drewN | apply Kd.R_drew)); exact HO_7.out)) hg hat); have n2_ := Aside0.mk (Kd.R_after (Kd.R_apart_nil (by (with_reducible repeat (first | apply Kd.R_alloc | apply Kd.R_drewN | apply Kd.R_drew)); exact HO_9.out)) hg hat); have n3_ := Aside0.mk (Kd.R_after (Kd.R_apart_nil (by (with_reducible repeat (first | apply Kd.R_alloc | apply Kd.R_drewN | apply Kd.R_drew)); exact HO_11.out)) hg hat); have n4_ := Aside0.mk (hb); have n5_ := Aside0.mk (ho); clear HO_5; clear HO_7; clear HO_9; clear HO_11; clear HB; have HO_5 := n0_; have HO_7 := n1_; have HO_9 := n2_; have HO_11 := n3_; have HB := n4_; have HO438 := n5_; clear n0_ n1_ n2_ n3_ n4_ n5_; clear ho hb hg hat; obtain ⟨Ao46, co46, eo46⟩ := Kd.R_slice HO438.out; subst eo46; have p439 : 0 ≤ ((ji36) : Int) := of_decide_eq_true (by first | (with_reducible assumption) | assumption); have q439 : (ji36) < (y436.length : Int) := of_decide_eq_true (by first | (with_reducible assumption) | assumption); obtain ⟨ad439, e439, hx439_0, hx439_1⟩ := at_T57 (Kd.R_reads' HO438.out).2.2 (ji36) p439 q439; (try rw [← Nbq39.out] at hx439_0); cases e439; replace p439 := eq_true p439; replace q439 := eq_true q439; obtain ⟨Ao48, co48, eo48⟩ := Kd.R_slice HO_11.out; subst eo48) | ((with_reducible refine gate_builtin (b := .append) (xs := #[.tmp 115, .tmp 116]) rfl ?_); (try (refine gate_guard (by rfl) ?_; dsimp only)); at_builtin; refine Kd.R_append_rows k57 (w0 := w) w.heap.size rfl (.tmp 115) (.tmp 116) 48 57 (.agg #[(.bool false), (.string ⟨#[]⟩)]) 24 rfl Try.underlying48 info57 rfl (by decide) (by omega) (.slice (some ad439) y436.length co46) y436 t429 _ _ _ (fun k_ => some k_ ≠ (.slice Ao45 t415.length co45 : Value).ownBlock ∧ some k_ ≠ (v421 : Value).ownBlock ∧ some k_ ≠ (v427 : Value).ownBlock ∧ some k_ ≠ (.slice Ao48 t429.length co48 : Value).ownBlock) (fun _ => False) rfl rfl ?aO ?aR (fun _ _ h => h) (fun _ h => h.elim) ?aF ?aB ?aS ?aL ?_; (case aR => repeat (first | exact (Kd.R_reads' HO_11.out).2.2 | (with_reducible refine Kd.C_alloc ?_ _) | (with_reducible refine Kd.C_drewN ?_ _) | (with_reducible refine Kd.C_drew ?_))); (case aB => exact (by repeat (first | (with_reducible first | exact HB.out | apply below_alloc | apply pw_below_drewN | apply below_drew1) | exact HB.out))); (case aF => exact (fun k_ hk => ⟨Kd.fresh' (Kd.R_lt (by (with_reducible repeat (first | apply Kd.R_alloc | apply Kd.R_drewN | apply Kd.R_drew)); exact HO_5.out)) k_ hk, Kd.fresh' (Kd.R_lt (by (with_reducible repeat (first | apply Kd.R_alloc | apply Kd.R_drewN | apply Kd.R_drew)); exact HO_7.out)) k_ hk, Kd.fresh' (Kd.R_lt (by (with_reducible repeat (first | apply Kd.R_alloc | apply Kd.R_drewN | apply Kd.R_drew)); exact HO_9.out)) k_ hk, Kd.fresh' (Kd.R_lt (by (with_reducible repeat (first | apply Kd.R_alloc | apply Kd.R_drewN | apply Kd.R_drew)); exact HO_11.out)) k_ hk⟩)); (case aO => exact (by (with_reducible repeat (first | apply Kd.R_alloc | apply Kd.R_drewN | apply Kd.R_drew)); exact HO438.out)); (case aS => exact (below_size (by repeat (first | (with_reducible first | exact HB.out | apply below_alloc | apply pw_below_drewN | apply below_drew1) | exact HB.out)))); (case aL => have := LMc41.out; omega); intro v441 w47 ho hb hg hat; rw [← Ny440.out] at ho; have n0_ := Aside0.mk (Kd.R_after (ok := (fun k_ => some k_ ≠ (v421 : Value).ownBlock ∧ some k_ ≠ (v427 : Value).ownBlock ∧ some k_ ≠ (.slice Ao48 t429.length co48 : Value).ownBlock)) (by (with_reducible repeat (first | apply Kd.R_alloc | apply Kd.R_drewN | apply Kd.R_drew)); exact HO_5.out) hg hat); have n1_ := Aside0.mk (Kd.R_after (ok := (fun k_ => some k_ ≠ (.slice Ao45 t415.length co45 : Value).ownBlock ∧ some k_ ≠ (v427 : Value).ownBlock ∧ some k_ ≠ (.slice Ao48 t429.length co48 : Value).ownBlock)) (by (with_reducible repeat (first | apply Kd.R_alloc | apply Kd.R_drewN | apply Kd.R_drew)); exact HO_7.out) hg hat); have n2_ := Aside0.mk (Kd.R_after (ok := (fun k_ => some k_ ≠ (.slice Ao45 t415.length co45 : Value).ownBlock ∧ some k_ ≠ (v421 : Value).ownBlock ∧ some k_ ≠ (.slice Ao48 t429.length co48 : Value).ownBlock)) (by (with_reducible repeat (first | apply Kd.R_alloc | apply Kd.R_drewN | apply Kd.R_drew)); exact HO_9.out) hg hat); have n3_ := Aside0.mk (Kd.R_after (ok := (fun k_ => some k_ ≠ (.slice Ao45 t415.length co45 : Value).ownBlock ∧ some k_ ≠ (v421 : Value).ownBlock ∧ some k_ ≠ (v427 : Value).ownBlock)) (by (with_reducible repeat (first | apply Kd.R_alloc | apply Kd.R_drewN | apply Kd.R_drew)); exact HO_11.out) hg hat); have n4_ := Aside0.mk (hb); have n5_ := Aside0.mk (ho); clear HO_5; clear HO_7; clear HO_9; clear HO_11; clear HB; clear HO438; have HO_5 := n0_; have HO_7 := n1_; have HO_9 := n2_; have HO_11 := n3_; have HB := n4_; have HO442 := n5_; clear n0_ n1_ n2_ n3_ n4_ n5_; clear ho hb hg hat; obtain ⟨Ao49, co49, eo49⟩ := Kd.R_slice HO_9.out; subst eo49; obtain ⟨Ao50, co50, eo50⟩ := Kd.R_slice HO442.out; subst eo50) | ((with_reducible refine gate_callee (f := 37) rfl ?_); refine goesL_ (some 120) rfl rfl Try.func37 (by kernel_rfl) rfl #[.slice Ao49 t425.length co49, .slice Ao50 y440.length co50] rfl (by (try simp only [List.map_toArray, List.map_cons, List.map_nil]); first | done | rfl | (simp only [List.length_drop, List.length_take]; rfl)) ?_; (with_reducible refine (cruciblelaw0_SamePieces.calls kj21 _ _ t425 _ _ y440 true _ ?side1 ?side2 ?side3 ?side4 A42.out).mono ?_); (case side1 => repeat (first | exact (Kd.R_reads' HO_9.out).2.2 | (with_reducible refine Kd.C_alloc ?_ _) | (with_reducible refine Kd.C_drewN ?_ _) | (with_reducible refine Kd.C_drew ?_))); (case side2 => exact (Kd.R_reads' HO_9.out).2.1); (case side3 => repeat (first | exact (Kd.R_reads' HO442.out).2.2 | (with_reducible refine Kd.C_alloc ?_ _) | (with_reducible refine Kd.C_drewN ?_ _) | (with_reducible refine Kd.C_drew ?_))); (case side4 => exact (Kd.R_reads' HO442.out).2.1); rintro e w' ⟨rfl, ⟨nd, rfl⟩⟩; refine ⟨_, rfl, ?_⟩; obtain ⟨Ao51, co51, eo51⟩ := Kd.R_slice HO_7.out; subst eo51))
                                    go_ret
                                    exact ⟨by first | rfl | (simp [errW_none, errW_some] <;> rfl) | (simp only [← hji36]; first | rfl | (simp [errW_none, errW_some] <;> rfl)) | (simp [*, errW_none, errW_some] <;> rfl), by repeat (first | (with_reducible first | exact HB.out | apply below_alloc | apply pw_below_drewN | apply below_drew1) | exact HB.out)⟩
                                  · replace c43 := Bool.eq_false_iff.mpr c43
                                    subst c43
                                    have H1 : (some false) = some r := by rw [if_neg (show ¬ (false = true) by decide)] at H; exact H
                                    clear H
                                    have H := H1
                                    clear H1
                                    obtain rfl := Option.some.inj H
                                    obtain ⟨Ao53, co53, eo53⟩ := Kd.R_slice HO_5.out
                                    subst eo53
                                    go_wp2_with (first | ((with_reducible refine gate_builtin (b := .append) (xs := #[.tmp 77, .tmp 78]) rfl ?_); (try (refine gate_guard (by rfl) ?_; dsimp only)); at_builtin; refine Kd.R_append_rows k57 (w0 := w) w.heap.size rfl (.tmp 77) (.tmp 78) 48 57 (.agg #[(.bool false), (.string ⟨#[]⟩)]) 24 rfl Try.underlying48 info57 rfl (by decide) (by omega) (.slice none 0 0) ([] : List (S57)) t415 _ _ _ (fun k_ => some k_ ≠ (.slice Ao53 t415.length co53 : Value).ownBlock ∧ some k_ ≠ (v421 : Value).ownBlock ∧ some k_ ≠ (v427 : Value).ownBlock ∧ some k_ ≠ (v431 : Value).ownBlock) (fun _ => False) rfl rfl ?aO ?aR (fun _ _ h => h) (fun _ h => h.elim) ?aF ?aB ?aS ?aL ?_; (case aR => repeat (first | exact (Kd.R_reads' HO_5.out).2.2 | (with_reducible refine Kd.C_alloc ?_ _) | (with_reducible refine Kd.C_drewN ?_ _) | (with_reducible refine Kd.C_drew ?_))); (case aB => exact (by repeat (first | (with_reducible first | exact HB.out | apply below_alloc | apply pw_below_drewN | apply below_drew1) | exact HB.out))); (case aF => exact (fun k_ hk => ⟨Kd.fresh' (Kd.R_lt (by (with_reducible repeat (first | apply Kd.R_alloc | apply Kd.R_drewN | apply Kd.R_drew)); exact HO_5.out)) k_ hk, Kd.fresh' (Kd.R_lt (by (with_reducible repeat (first | apply Kd.R_alloc | apply Kd.R_drewN | apply Kd.R_drew)); exact HO_7.out)) k_ hk, Kd.fresh' (Kd.R_lt (by (with_reducible repeat (first | apply Kd.R_alloc | apply Kd.R_drewN | apply Kd.R_drew)); exact HO_9.out)) k_ hk, Kd.fresh' (Kd.R_lt (by (with_reducible repeat (first | apply Kd.R_alloc | apply Kd.R_drewN | apply Kd.R_drew)); exact HO_11.out)) k_ hk⟩)); (case aO => exact ((Kd.R_nil _ _ _ _ (fun k_ => some k_ ≠ (.slice Ao53 t415.length co53 : Value).ownBlock ∧ some k_ ≠ (v421 : Value).ownBlock ∧ some k_ ≠ (v427 : Value).ownBlock ∧ some k_ ≠ (v431 : Value).ownBlock)))); (case aS => exact (below_size (by repeat (first | (with_reducible first | exact HB.out | apply below_alloc | apply pw_below_drewN | apply below_drew1) | exact HB.out)))); (case aL => have := LMc34.out; omega); intro v437 w52 ho hb hg hat; rw [← Ny436.out] at ho; have n0_ := Aside0.mk (Kd.R_after (Kd.R_apart_nil (by (with_reducible repeat (first | apply Kd.R_alloc | apply Kd.R_drewN | apply Kd.R_drew)); exact HO_5.out)) hg hat); have n1_ := Aside0.mk (Kd.R_after (Kd.R_apart_nil (by (with_reducible repeat (first | apply Kd.R_alloc | apply Kd.R_drewN | apply Kd.R_drew)); exact HO_7.out)) hg hat); have n2_ := Aside0.mk (Kd.R_after (Kd.R_apart_nil (by (with_reducible repeat (first | apply Kd.R_alloc | apply Kd.R_drewN | apply Kd.R_drew)); exact HO_9.out)) hg hat); have n3_ := Aside0.mk (Kd.R_after (Kd.R_apart_nil (by (with_reducible repeat (first | apply Kd.R_alloc | apply Kd.R_drewN | apply Kd.R_drew)); exact HO_11.out)) hg hat); have n4_ := Aside0.mk (hb); have n5_ := Aside0.mk (ho); clear HO_5; clear HO_7; clear HO_9; clear HO_11; clear HB; have HO_5 := n0_; have HO_7 := n1_; have HO_9 := n2_; have HO_11 := n3_; have HB := n4_; have HO438 := n5_; clear n0_ n1_ n2_ n3_ n4_ n5_; clear ho hb hg hat; obtain ⟨Ao54, co54, eo54⟩ := Kd.R_slice HO438.out; subst eo54; have p439 : 0 ≤ ((ji36) : Int) := of_decide_eq_true (by first | (with_reducible assumption) | assumption); have q439 : (ji36) < (y436.length : Int) := of_decide_eq_true (by first | (with_reducible assumption) | assumption); obtain ⟨ad439, e439, hx439_0, hx439_1⟩ := at_T57 (Kd.R_reads' HO438.out).2.2 (ji36) p439 q439; (try rw [← Nbq39.out] at hx439_0); cases e439; replace p439 := eq_true p439; replace q439 := eq_true q439; obtain ⟨Ao56, co56, eo56⟩ := Kd.R_slice HO_11.out; subst eo56) | ((with_reducible refine gate_builtin (b := .append) (xs := #[.tmp 115, .tmp 116]) rfl ?_); (try (refine gate_guard (by rfl) ?_; dsimp only)); at_builtin; refine Kd.R_append_rows k57 (w0 := w) w.heap.size rfl (.tmp 115) (.tmp 116) 48 57 (.agg #[(.bool false), (.string ⟨#[]⟩)]) 24 rfl Try.underlying48 info57 rfl (by decide) (by omega) (.slice (some ad439) y436.length co54) y436 t429 _ _ _ (fun k_ => some k_ ≠ (.slice Ao53 t415.length co53 : Value).ownBlock ∧ some k_ ≠ (v421 : Value).ownBlock ∧ some k_ ≠ (v427 : Value).ownBlock ∧ some k_ ≠ (.slice Ao56 t429.length co56 : Value).ownBlock) (fun _ => False) rfl rfl ?aO ?aR (fun _ _ h => h) (fun _ h => h.elim) ?aF ?aB ?aS ?aL ?_; (case aR => repeat (first | exact (Kd.R_reads' HO_11.out).2.2 | (with_reducible refine Kd.C_alloc ?_ _) | (with_reducible refine Kd.C_drewN ?_ _) | (with_reducible refine Kd.C_drew ?_))); (case aB => exact (by repeat (first | (with_reducible first | exact HB.out | apply below_alloc | apply pw_below_drewN | apply below_drew1) | exact HB.out))); (case aF => exact (fun k_ hk => ⟨Kd.fresh' (Kd.R_lt (by (with_reducible repeat (first | apply Kd.R_alloc | apply Kd.R_drewN | apply Kd.R_drew)); exact HO_5.out)) k_ hk, Kd.fresh' (Kd.R_lt (by (with_reducible repeat (first | apply Kd.R_alloc | apply Kd.R_drewN | apply Kd.R_drew)); exact HO_7.out)) k_ hk, Kd.fresh' (Kd.R_lt (by (with_reducible repeat (first | apply Kd.R_alloc | apply Kd.R_drewN | apply Kd.R_drew)); exact HO_9.out)) k_ hk, Kd.fresh' (Kd.R_lt (by (with_reducible repeat (first | apply Kd.R_alloc | apply Kd.R_drewN | apply Kd.R_drew)); exact HO_11.out)) k_ hk⟩)); (case aO => exact (by (with_reducible repeat (first | apply Kd.R_alloc | apply Kd.R_drewN | apply Kd.R_drew)); exact HO438.out)); (case aS => exact (below_size (by repeat (first | (with_reducible first | exact HB.out | apply below_alloc | apply pw_below_drewN | apply below_drew1) | exact HB.out)))); (case aL => have := LMc41.out; omega); intro v441 w55 ho hb hg hat; rw [← Ny440.out] at ho; have n0_ := Aside0.mk (Kd.R_after (ok := (fun k_ => some k_ ≠ (v421 : Value).ownBlock ∧ some k_ ≠ (v427 : Value).ownBlock ∧ some k_ ≠ (.slice Ao56 t429.length co56 : Value).ownBlock)) (by (with_reducible repeat (first | apply Kd.R_alloc | apply Kd.R_drewN | apply Kd.R_drew)); exact HO_5.out) hg hat); have n1_ := Aside0.mk (Kd.R_after (ok := (fun k_ => some k_ ≠ (.slice Ao53 t415.length co53 : Value).ownBlock ∧ some k_ ≠ (v427 : Value).ownBlock ∧ some k_ ≠ (.slice Ao56 t429.length co56 : Value).ownBlock)) (by (with_reducible repeat (first | apply Kd.R_alloc | apply Kd.R_drewN | apply Kd.R_drew)); exact HO_7.out) hg hat); have n2_ := Aside0.mk (Kd.R_after (ok := (fun k_ => some k_ ≠ (.slice Ao53 t415.length co53 : Value).ownBlock ∧ some k_ ≠ (v421 : Value).ownBlock ∧ some k_ ≠ (.slice Ao56 t429.length co56 : Value).ownBlock)) (by (with_reducible repeat (first | apply Kd.R_alloc | apply Kd.R_drewN | apply Kd.R_drew)); exact HO_9.out) hg hat); have n3_ := Aside0.mk (Kd.R_after (ok := (fun k_ => some k_ ≠ (.slice Ao53 t415.length co53 : Value).ownBlock ∧ some k_ ≠ (v421 : Value).ownBlock ∧ some k_ ≠ (v427 : Value).ownBlock)) (by (with_reducible repeat (first | apply Kd.R_alloc | apply Kd.R_drewN | apply Kd.R_drew)); exact HO_11.out) hg hat); have n4_ := Aside0.mk (hb); have n5_ := Aside0.mk (ho); clear HO_5; clear HO_7; clear HO_9; clear HO_11; clear HB; clear HO438; have HO_5 := n0_; have HO_7 := n1_; have HO_9 := n2_; have HO_11 := n3_; have HB := n4_; have HO442 := n5_; clear n0_ n1_ n2_ n3_ n4_ n5_; clear ho hb hg hat; obtain ⟨Ao57, co57, eo57⟩ := Kd.R_slice HO_9.out; subst eo57; obtain ⟨Ao58, co58, eo58⟩ := Kd.R_slice HO442.out; subst eo58) | ((with_reducible refine gate_callee (f := 37) rfl ?_); refine goesL_ (some 120) rfl rfl Try.func37 (by kernel_rfl) rfl #[.slice Ao57 t425.length co57, .slice Ao58 y440.length co58] rfl (by (try simp only [List.map_toArray, List.map_cons, List.map_nil]); first | done | rfl | (simp only [List.length_drop, List.length_take]; rfl)) ?_; (with_reducible refine (cruciblelaw0_SamePieces.calls kj21 _ _ t425 _ _ y440 false _ ?side1 ?side2 ?side3 ?side4 A42.out).mono ?_); (case side1 => repeat (first | exact (Kd.R_reads' HO_9.out).2.2 | (with_reducible refine Kd.C_alloc ?_ _) | (with_reducible refine Kd.C_drewN ?_ _) | (with_reducible refine Kd.C_drew ?_))); (case side2 => exact (Kd.R_reads' HO_9.out).2.1); (case side3 => repeat (first | exact (Kd.R_reads' HO442.out).2.2 | (with_reducible refine Kd.C_alloc ?_ _) | (with_reducible refine Kd.C_drewN ?_ _) | (with_reducible refine Kd.C_drew ?_))); (case side4 => exact (Kd.R_reads' HO442.out).2.1); rintro e w' ⟨rfl, ⟨nd, rfl⟩⟩; refine ⟨_, rfl, ?_⟩))
                                    go_ret
                                    exact ⟨by first | rfl | (simp [errW_none, errW_some] <;> rfl) | (simp only [← hji36]; first | rfl | (simp [errW_none, errW_some] <;> rfl)) | (simp [*, errW_none, errW_some] <;> rfl), by repeat (first | (with_reducible first | exact HB.out | apply below_alloc | apply pw_below_drewN | apply below_drew1) | exact HB.out)⟩
                                · rw [if_neg c41] at H
                                  exact absurd H (by simp)
                              · replace c40 := Bool.eq_false_iff.mpr c40
                                subst c40
                                have H1 : (if 0 < (t429.length : Int) then (if ((rd_T57 y436 (ji36)).f1).size + ((rd_T57 t429 0).f1).size ≤ 9223372036854775807 then ((some (y436.set ((ji36) : Int).toNat (⟨false, ((rd_T57 y436 (ji36)).f1) ++ ((rd_T57 t429 0).f1)⟩ : S57) : List (S57))).bind fun y446 => (if 1 ≤ (t429.length : Int) then ((some (t429.drop 1 : List (S57))).bind fun y447 => (if y446.length + y447.length < 5864062014805 then ((cruciblelaw0_SamePieces.f kj21 t425 (y446 ++ y447)).bind fun t454 => (if t454 = true then (some (decide ((t419.length : Int) ≤ (t429.length : Int)))) else (some false))) else (none))) else (none))) else (none)) else (none)) = some r := by rw [if_neg (show ¬ (false = true) by decide)] at H; exact H
                                clear H
                                have H := H1
                                clear H1
                                by_cases c59 : 0 < (t429.length : Int)
                                · rw [if_pos c59] at H
                                  have c59b0 : decide (0 < (t429.length : Int)) = true := decide_eq_true c59
                                  have c59b1 : decide (0 < t429.length) = true := decide_eq_true (by omega)
                                  clear c59
                                  by_cases c60 : ((rd_T57 y436 (ji36)).f1).size + ((rd_T57 t429 0).f1).size ≤ 9223372036854775807
                                  · rw [if_pos c60] at H
                                    have c60b0 := eq_true c60
                                    have c60b1 : decide (((rd_T57 y436 (ji36)).f1).size + ((rd_T57 t429 0).f1).size ≤ 9223372036854775807) = true := decide_eq_true c60
                                    try have c60b2 : (9223372036854775807 < ((rd_T57 y436 (ji36)).f1).size + ((rd_T57 t429 0).f1).size) = False := eq_false (Nat.not_lt.2 c60)
                                    obtain ⟨y446, hy446⟩ : ∃ y_ : List (S57), y_ = (y436.set ((ji36) : Int).toNat (⟨false, ((rd_T57 y436 (ji36)).f1) ++ ((rd_T57 t429 0).f1)⟩ : S57)) := ⟨_, rfl⟩
                                    replace H : (if 1 ≤ (t429.length : Int) then ((some (t429.drop 1 : List (S57))).bind fun y447 => (if y446.length + y447.length < 5864062014805 then ((cruciblelaw0_SamePieces.f kj21 t425 (y446 ++ y447)).bind fun t454 => (if t454 = true then (some (decide ((t419.length : Int) ≤ (t429.length : Int)))) else (some false))) else (none))) else (none)) = some r := by first | (rw [hy446]; with_reducible exact H) | (have H2_ := (Option.bind_some _ _).symm.trans H; rw [hy446]; with_reducible exact H2_) | (have H2_ := (Option.bind_some _ _).symm.trans H; with_reducible exact H2_) | with_reducible exact H | (rw [hy446]; exact H) | exact H
                                    have Ny446 := Aside0.mk hy446
                                    clear hy446
                                    by_cases c62 : 1 ≤ (t429.length : Int)
                                    · rw [if_pos c62] at H
                                      have c62b0 := eq_true c62
                                      have c62b1 : decide (1 ≤ (t429.length : Int)) = true := decide_eq_true c62
                                      clear c62
                                      obtain ⟨y447, hy447⟩ : ∃ y_ : List (S57), y_ = (t429.drop 1) := ⟨_, rfl⟩
                                      replace H : (if y446.length + y447.length < 5864062014805 then ((cruciblelaw0_SamePieces.f kj21 t425 (y446 ++ y447)).bind fun t454 => (if t454 = true then (some (decide ((t419.length : Int) ≤ (t429.length : Int)))) else (some false))) else (none)) = some r := by first | (rw [hy447]; with_reducible exact H) | (have H2_ := (Option.bind_some _ _).symm.trans H; rw [hy447]; with_reducible exact H2_) | (have H2_ := (Option.bind_some _ _).symm.trans H; with_reducible exact H2_) | with_reducible exact H | (rw [hy447]; exact H) | exact H
                                      have Ny447 := Aside0.mk hy447
                                      clear hy447
                                      by_cases c63 : y446.length + y447.length < 5864062014805
                                      · rw [if_pos c63] at H
                                        have LMc63 := Aside0.mk c63
                                        clear c63
                                        obtain ⟨y451, hy451⟩ : ∃ y_ : List (S57), y_ = (y446 ++ y447) := ⟨_, rfl⟩
                                        replace H : ((cruciblelaw0_SamePieces.f kj21 t425 y451).bind fun t454 => (if t454 = true then (some (decide ((t419.length : Int) ≤ (t429.length : Int)))) else (some false))) = some r := by first | (rw [hy451]; with_reducible exact H) | (have H2_ := (Option.bind_some _ _).symm.trans H; rw [hy451]; with_reducible exact H2_) | (have H2_ := (Option.bind_some _ _).symm.trans H; with_reducible exact H2_) | with_reducible exact H | (rw [hy451]; exact H) | exact H
                                        have Ny451 := Aside0.mk hy451
                                        clear hy451
                                        replace H := Option.bind_eq_some_iff.mp H
                                        obtain ⟨t454, A640, H⟩ := H
                                        replace H : (if t454 = true then (some (decide ((t419.length : Int) ≤ (t429.length : Int)))) else (some false)) = some r := H
                                        have A64 := Aside0.mk A640
                                        clear A640
                                        by_cases c65 : t454 = true
                                        · subst c65
                                          have H1 : (some (decide ((t419.length : Int) ≤ (t429.length : Int)))) = some r := by rw [if_pos rfl] at H; exact H
                                          clear H
                                          have H := H1
                                          clear H1
                                          obtain rfl := Option.some.inj H
                                          obtain ⟨Ao67, co67, eo67⟩ := Kd.R_slice HO_5.out
                                          subst eo67
                                          try go_wp2_with (first | ((with_reducible refine gate_builtin (b := .append) (xs := #[.tmp 77, .tmp 78]) rfl ?_); (try (refine gate_guard (by rfl) ?_; dsimp only)); at_builtin; refine Kd.R_append_rows k57 (w0 := w) w.heap.size rfl (.tmp 77) (.tmp 78) 48 57 (.agg #[(.bool false), (.string ⟨#[]⟩)]) 24 rfl Try.underlying48 info57 rfl (by decide) (by omega) (.slice none 0 0) ([] : List (S57)) t415 _ _ _ (fun k_ => some k_ ≠ (.slice Ao67 t415.length co67 : Value).ownBlock ∧ some k_ ≠ (v421 : Value).ownBlock ∧ some k_ ≠ (v427 : Value).ownBlock ∧ some k_ ≠ (v431 : Value).ownBlock) (fun _ => False) rfl rfl ?aO ?aR (fun _ _ h => h) (fun _ h => h.elim) ?aF ?aB ?aS ?aL ?_; (case aR => repeat (first | exact (Kd.R_reads' HO_5.out).2.2 | (with_reducible refine Kd.C_alloc ?_ _) | (with_reducible refine Kd.C_drewN ?_ _) | (with_reducible refine Kd.C_drew ?_))); (case aB => exact (by repeat (first | (with_reducible first | exact HB.out | apply below_alloc | apply pw_below_drewN | apply below_drew1) | exact HB.out))); (case aF => exact (fun k_ hk => ⟨Kd.fresh' (Kd.R_lt (by (with_reducible repeat (first | apply Kd.R_alloc | apply Kd.R_drewN | apply Kd.R_drew)); exact HO_5.out)) k_ hk, Kd.fresh' (Kd.R_lt (by (with_reducible repeat (first | apply Kd.R_alloc | apply Kd.R_drewN | apply Kd.R_drew)); exact HO_7.out)) k_ hk, Kd.fresh' (Kd.R_lt (by (with_reducible repeat (first | apply Kd.R_alloc | apply Kd.R_drewN | apply Kd.R_drew)); exact HO_9.out)) k_ hk, Kd.fresh' (Kd.R_lt (by (with_reducible repeat (first | apply Kd.R_alloc | apply Kd.R_drewN | apply Kd.R_drew)); exact HO_11.out)) k_ hk⟩)); (case aO => exact ((Kd.R_nil _ _ _ _ (fun k_ => some k_ ≠ (.slice Ao67 t415.length co67 : Value).ownBlock ∧ some k_ ≠ (v421 : Value).ownBlock ∧ some k_ ≠ (v427 : Value).ownBlock ∧ some k_ ≠ (v431 : Value).ownBlock)))); (case aS => exact (below_size (by repeat (first | (with_reducible first | exact HB.out | apply below_alloc | apply pw_below_drewN | apply below_drew1) | exact HB.out)))); (case aL => have := LMc34.out; omega); intro v437 w66 ho hb hg hat; rw [← Ny436.out] at ho; have n0_ := Aside0.mk (Kd.R_after (Kd.R_apart_nil (by (with_reducible repeat (first | apply Kd.R_alloc | apply Kd.R_drewN | apply Kd.R_drew)); exact HO_5.out)) hg hat); have n1_ := Aside0.mk (Kd.R_after (Kd.R_apart_nil (by (with_reducible repeat (first | apply Kd.R_alloc | apply Kd.R_drewN | apply Kd.R_drew)); exact HO_7.out)) hg hat); have n2_ := Aside0.mk (Kd.R_after (Kd.R_apart_nil (by (with_reducible repeat (first | apply Kd.R_alloc | apply Kd.R_drewN | apply Kd.R_drew)); exact HO_9.out)) hg hat); have n3_ := Aside0.mk (Kd.R_after (Kd.R_apart_nil (by (with_reducible repeat (first | apply Kd.R_alloc | apply Kd.R_drewN | apply Kd.R_drew)); exact HO_11.out)) hg hat); have n4_ := Aside0.mk (hb); have n5_ := Aside0.mk (ho); clear HO_5; clear HO_7; clear HO_9; clear HO_11; clear HB; have HO_5 := n0_; have HO_7 := n1_; have HO_9 := n2_; have HO_11 := n3_; have HB := n4_; have HO438 := n5_; clear n0_ n1_ n2_ n3_ n4_ n5_; clear ho hb hg hat; obtain ⟨Ao68, co68, eo68⟩ := Kd.R_slice HO438.out; subst eo68; have p439 : 0 ≤ ((ji36) : Int) := of_decide_eq_true (by first | (with_reducible assumption) | assumption); have q439 : (ji36) < (y436.length : Int) := of_decide_eq_true (by first | (with_reducible assumption) | assumption); obtain ⟨ad439, e439, hx439_0, hx439_1⟩ := at_T57 (Kd.R_reads' HO438.out).2.2 (ji36) p439 q439; (try rw [← Nbq39.out] at hx439_0); cases e439; replace p439 := eq_true p439; replace q439 := eq_true q439))
                                          have n0_ := Aside0.mk (Kd.R_drew HO_5.out)
                                          have n1_ := Aside0.mk (Kd.R_drew HO_7.out)
                                          have n2_ := Aside0.mk (Kd.R_drew HO_9.out)
                                          have n3_ := Aside0.mk (Kd.R_drew HO_11.out)
                                          have n4_ := Aside0.mk (Kd.R_drew HO438.out)
                                          have n5_ := Aside0.mk (below_drew1 HB.out)
                                          clear HO_5
                                          clear HO_7
                                          clear HO_9
                                          clear HO_11
                                          clear HO438
                                          clear HB
                                          have HO_5 := n0_
                                          have HO_7 := n1_
                                          have HO_9 := n2_
                                          have HO_11 := n3_
                                          have HO438 := n4_
                                          have HB := n5_
                                          clear n0_ n1_ n2_ n3_ n4_ n5_
                                          have p444 : 0 ≤ ((ji36) : Int) := of_decide_eq_true (by first | (with_reducible assumption) | assumption)
                                          have q444 : (ji36) < (y436.length : Int) := of_decide_eq_true (by first | (with_reducible assumption) | assumption)
                                          obtain ⟨ad444, e444, hx444_0, hx444_1⟩ := at_T57 (Kd.R_reads' HO438.out).2.2 (ji36) p444 q444
                                          (try rw [← Nbq39.out] at hx444_0)
                                          obtain rfl : ad439 = ad444 := (by injection e444)
                                          replace p444 := eq_true p444
                                          replace q444 := eq_true q444
                                          obtain ⟨Ao70, co70, eo70⟩ := Kd.R_slice HO_11.out
                                          (first | subst eo70 | (injection eo70 with f1_ f2_ f3_; have f4_ := f1_.symm; have f5_ := f3_.symm; clear f1_ f2_ f3_; subst f4_; subst f5_))
                                          have p445 : 0 ≤ (0 : Int) := (by omega)
                                          have q445 : 0 < (t429.length : Int) := of_decide_eq_true (by first | (with_reducible assumption) | assumption)
                                          obtain ⟨ad445, e445, hx445_0, hx445_1⟩ := at_T57 (Kd.R_reads' HO_11.out).2.2 0 p445 q445
                                          (try rw [← Nbq39.out] at hx445_0)
                                          cases e445
                                          have qi445 : (0 < t429.length) = True := eq_true (by omega)
                                          (try rw [show ((0 : Int)).toNat = 0 from rfl] at hx445_0)
                                          (try rw [show 0 * 2 = 0 from rfl] at hx445_0)
                                          (try rw [Addr.add_zero'] at hx445_0)
                                          (try rw [show ((0 : Int)).toNat = 0 from rfl] at hx445_1)
                                          (try rw [show 0 * 2 = 0 from rfl] at hx445_1)
                                          (try rw [Addr.add_zero'] at hx445_1)
                                          replace p445 := eq_true p445
                                          replace q445 := eq_true q445
                                          have p61 : 0 ≤ ((ji36) : Int) := of_decide_eq_true (by first | (with_reducible assumption) | assumption)
                                          have q61 : ((ji36) : Int) < ((y436.length : Int) : Int) := of_decide_eq_true (by first | (with_reducible assumption) | assumption)
                                          obtain ⟨go61, co61, eo61, gb61, gl61, cl61, HG61⟩ := Kd.R_form HO438.out (by omega)
                                          (first | cases eo61 | (injection eo61 with ea_ en_ ec_; (first | subst ea_ | (injection ea_ with ea_; subst ea_)); subst ec_; clear en_))
                                          have GB61 := Aside0.mk gb61
                                          have GG61 := Aside0.mk HG61
                                          clear gb61 gl61 HG61
                                          (first | simp only [add_plain] at hx439_0 | skip)
                                          (first | simp only [add_plain] at hx439_1 | skip)
                                          (first | simp only [add_plain] at hx444_0 | skip)
                                          (first | simp only [add_plain] at hx444_1 | skip)
                                          obtain ⟨ce61, hcl61, hM61, hcc61, hfr61⟩ := Kd.R_elem HO438.out z57 ((ji36) : Int) p61 q61
                                          obtain rfl := k57_openM hM61
                                          have hx61_0 : World.cell? _ ⟨go61, ((ji36) : Int).toNat * 2, none⟩ = some (.bool ((rd_T57 y436 (ji36)).f0)) := hcc61 0 _ rfl
                                          have hx61_1 : World.cell? _ ⟨go61, ((ji36) : Int).toNat * 2 + 1, none⟩ = some (.string ((rd_T57 y436 (ji36)).f1)) := hcc61 1 _ rfl
                                          have hf61_0 : World.frozen? _ ⟨go61, ((ji36) : Int).toNat * 2, none⟩ = false := hfr61 0
                                          have hf61_1 : World.frozen? _ ⟨go61, ((ji36) : Int).toNat * 2 + 1, none⟩ = false := hfr61 1
                                          clear hcl61 hcc61 hfr61 hM61
                                          replace p61 := eq_true p61
                                          replace q61 := eq_true q61
                                          obtain ⟨ce71, hcl71, hM71, hcc71, hfr71⟩ := Kd.R_elem HO438.out z57 ((ji36) : Int) (of_decide_eq_true (by first | (with_reducible assumption) | assumption)) (by have h_ : ((ji36) : Int) < ((y436.length : Int) : Int) := of_decide_eq_true (by first | (with_reducible assumption) | assumption); first | exact h_ | (have e_ := (Kd.R_reads' HO438.out).1; omega) | simpa using h_)
                                          obtain rfl := k57_openM hM71
                                          have HP71 := (Kd.R_seg HO438.out ((ji36) : Int) (of_decide_eq_true (by first | (with_reducible assumption) | assumption)) (by have h_ : ((ji36) : Int) < ((y436.length : Int) : Int) := of_decide_eq_true (by first | (with_reducible assumption) | assumption); first | exact h_ | (have e_ := (Kd.R_reads' HO438.out).1; omega) | simpa using h_) (seg := [.string (((rd_T57 y436 (ji36)).f1) ++ ((rd_T57 t429 0).f1))]) (j := 1) hcl71 hcc71 (show 2 ≤ 2 from by decide) (x' := (⟨(rd_T57 y436 (ji36)).f0, ((rd_T57 y436 (ji36)).f1) ++ ((rd_T57 t429 0).f1)⟩ : S57)) (k57_mkM _ _ _ (⟨(rd_T57 y436 (ji36)).f0, ((rd_T57 y436 (ji36)).f1) ++ ((rd_T57 t429 0).f1)⟩ : S57) ) (fun _ hk => hk)).1
                                          rw [← Nbq39.out] at HP71; rw [← Ny446.out] at HP71
                                          have HQ71 := Aside0.mk HP71
                                          clear hcl71 hcc71 hfr71 hM71 HP71
                                          refine start_ (n := 19) (S := fun w' => w'.cell? ⟨go61, ((ji36)).toNat * 2, none⟩ = some (.bool (false)) ∧ w'.cell? ⟨go61, ((ji36)).toNat * 2 + 1, none⟩ = some (.string ((rd_T57 y436 (ji36)).f1)) ∧ w'.cell? ad445 = some (.bool ((rd_T57 t429 0).f0)) ∧ w'.cell? ⟨ad445.block, ad445.off + 1, none⟩ = some (.string ((rd_T57 t429 0).f1))) (ds := [18]) #[false, false, false, false, false, false, false, false, false, false, false, false, false, false, false, false, false, false, false] (by kernel_rfl) rfl rfl ⟨hx444_0, hx444_1, hx445_0, hx445_1⟩ (fun hHeld => ?_); refine with_tabW cruciblelaw3_PieceTwo.tab14 cruciblelaw3_PieceTwo.bits14 (fun HT_ HW_ => ?_)
                                          generalize w66.drew = w69 at HO_5 HO_7 HO_9 HO_11 HO438 HB GG61 HQ71 hf61_0 hf61_1 hx439_0 hx439_1 hx444_0 hx444_1 hx445_0 hx445_1 hx61_0 hx61_1 hHeld ⊢
                                          refine pure_ (i := 0) (N := some 93) (v := ?_) (a' := ?_) #[true, false, false, false, false, false, false, false, false, false, false, false, false, false, false, false, false, false, false] rfl rfl (any_of HT_.out (by kernel_rfl)) (fun _ _ _ h => h) (Or.inl ⟨by rfl, ?_⟩) ?_ ?_
                                          rotate_left
                                          · intro w'
                                            go_simp
                                            with_reducible rfl
                                          rotate_left
                                          · simp only [Act.put, List.setIfInBounds_toArray, List.set_cons_zero, List.set_cons_succ, i64_w, i32_w]
                                            rfl
                                          refine pure_ (i := 1) (N := some 94) (v := ?_) (a' := ?_) #[true, true, false, false, false, false, false, false, false, false, false, false, false, false, false, false, false, false, false] rfl rfl (any_of HT_.out (by kernel_rfl)) (fun _ _ _ h => h) (Or.inl ⟨by rfl, ?_⟩) ?_ ?_
                                          rotate_left
                                          · intro w'
                                            go_simp
                                            with_reducible rfl
                                          rotate_left
                                          · simp only [Act.put, List.setIfInBounds_toArray, List.set_cons_zero, List.set_cons_succ, i64_w, i32_w]
                                            rfl
                                          refine pure_ (i := 2) (N := some 95) (v := ?_) (a' := ?_) #[true, true, true, false, false, false, false, false, false, false, false, false, false, false, false, false, false, false, false] rfl rfl (any_of HT_.out (by kernel_rfl)) (fun _ _ _ h => h) (Or.inl ⟨by rfl, ?_⟩) ?_ ?_
                                          rotate_left
                                          · intro w'
                                            go_simp
                                            with_reducible rfl
                                          rotate_left
                                          · simp only [Act.put, List.setIfInBounds_toArray, List.set_cons_zero, List.set_cons_succ, i64_w, i32_w]
                                            rfl
                                          refine pure_ (i := 3) (N := some 96) (v := ?_) (a' := ?_) #[true, true, true, true, false, false, false, false, false, false, false, false, false, false, false, false, false, false, false] rfl rfl (any_of HT_.out (by kernel_rfl)) (fun _ _ _ h => h) (Or.inl ⟨by rfl, ?_⟩) ?_ ?_
                                          rotate_left
                                          · intro w'
                                            go_simp
                                            with_reducible rfl
                                          rotate_left
                                          · simp only [Act.put, List.setIfInBounds_toArray, List.set_cons_zero, List.set_cons_succ, i64_w, i32_w]
                                            rfl
                                          refine pure_ (i := 4) (N := some 97) (v := ?_) (a' := ?_) #[true, true, true, true, true, false, false, false, false, false, false, false, false, false, false, false, false, false, false] rfl rfl (any_of HT_.out (by kernel_rfl)) (fun _ _ _ h => h) (Or.inl ⟨by rfl, ?_⟩) ?_ ?_
                                          rotate_left
                                          · intro w'
                                            go_simp
                                            with_reducible rfl
                                          rotate_left
                                          · simp only [Act.put, List.setIfInBounds_toArray, List.set_cons_zero, List.set_cons_succ, i64_w, i32_w]
                                            rfl
                                          refine pure_ (i := 5) (N := some 98) (v := ?_) (a' := ?_) #[true, true, true, true, true, true, false, false, false, false, false, false, false, false, false, false, false, false, false] rfl rfl (any_of HT_.out (by kernel_rfl)) (fun _ _ _ h => h) (Or.inl ⟨by rfl, ?_⟩) ?_ ?_
                                          rotate_left
                                          · intro w'
                                            go_simp
                                            with_reducible rfl
                                          rotate_left
                                          · simp only [Act.put, List.setIfInBounds_toArray, List.set_cons_zero, List.set_cons_succ, i64_w, i32_w]
                                            rfl
                                          refine pure_ (i := 6) (N := some 99) (v := ?_) (a' := ?_) #[true, true, true, true, true, true, true, false, false, false, false, false, false, false, false, false, false, false, false] rfl rfl (any_of HT_.out (by kernel_rfl)) (fun _ _ _ h => h) (Or.inl ⟨by rfl, ?_⟩) ?_ ?_
                                          rotate_left
                                          · intro w'
                                            go_simp
                                            with_reducible rfl
                                          rotate_left
                                          · simp only [Act.put, List.setIfInBounds_toArray, List.set_cons_zero, List.set_cons_succ, i64_w, i32_w]
                                            rfl
                                          refine pure_ (i := 7) (N := some 100) (v := ?_) (a' := ?_) #[true, true, true, true, true, true, true, true, false, false, false, false, false, false, false, false, false, false, false] rfl rfl (any_of HT_.out (by kernel_rfl)) (fun _ _ _ h => h) (Or.inl ⟨by rfl, ?_⟩) ?_ ?_
                                          rotate_left
                                          · intro w'
                                            go_simp
                                            with_reducible rfl
                                          rotate_left
                                          · simp only [Act.put, List.setIfInBounds_toArray, List.set_cons_zero, List.set_cons_succ, i64_w, i32_w]
                                            rfl
                                          refine pure_ (i := 8) (N := some 101) (v := ?_) (a' := ?_) #[true, true, true, true, true, true, true, true, true, false, false, false, false, false, false, false, false, false, false] rfl rfl (any_of HT_.out (by kernel_rfl)) (fun _ _ _ h => h) (Or.inl ⟨by rfl, ?_⟩) ?_ ?_
                                          rotate_left
                                          · intro w'
                                            go_simp
                                            with_reducible rfl
                                          rotate_left
                                          · simp only [Act.put, List.setIfInBounds_toArray, List.set_cons_zero, List.set_cons_succ, i64_w, i32_w]
                                            rfl
                                          refine pure_ (i := 9) (N := some 102) (v := ?_) (a' := ?_) #[true, true, true, true, true, true, true, true, true, true, false, false, false, false, false, false, false, false, false] rfl rfl (any_of HT_.out (by kernel_rfl)) (fun _ _ _ h => h) (Or.inl ⟨by rfl, ?_⟩) ?_ ?_
                                          rotate_left
                                          · intro w'
                                            go_simp
                                            with_reducible rfl
                                          rotate_left
                                          · simp only [Act.put, List.setIfInBounds_toArray, List.set_cons_zero, List.set_cons_succ, i64_w, i32_w]
                                            rfl
                                          refine pure_ (i := 11) (N := some 104) (v := ?_) (a' := ?_) #[true, true, true, true, true, true, true, true, true, true, false, true, false, false, false, false, false, false, false] rfl rfl (any_of HT_.out (by kernel_rfl)) (fun _ _ _ h => h) (Or.inl ⟨by rfl, ?_⟩) ?_ ?_
                                          rotate_left
                                          · intro w'
                                            go_simp
                                            with_reducible rfl
                                          rotate_left
                                          · simp only [Act.put, List.setIfInBounds_toArray, List.set_cons_zero, List.set_cons_succ, i64_w, i32_w]
                                            rfl
                                          refine pure_ (i := 12) (N := some 105) (v := ?_) (a' := ?_) #[true, true, true, true, true, true, true, true, true, true, false, true, true, false, false, false, false, false, false] rfl rfl (any_of HT_.out (by kernel_rfl)) (fun _ _ _ h => h) (Or.inl ⟨by rfl, ?_⟩) ?_ ?_
                                          rotate_left
                                          · intro w'
                                            go_simp
                                            with_reducible rfl
                                          rotate_left
                                          · simp only [Act.put, List.setIfInBounds_toArray, List.set_cons_zero, List.set_cons_succ, i64_w, i32_w]
                                            rfl
                                          refine pure_ (i := 13) (N := some 106) (v := ?_) (a' := ?_) #[true, true, true, true, true, true, true, true, true, true, false, true, true, true, false, false, false, false, false] rfl rfl (any_of HT_.out (by kernel_rfl)) (fun _ _ _ h => h) (Or.inl ⟨by rfl, ?_⟩) ?_ ?_
                                          rotate_left
                                          · intro w'
                                            go_simp
                                            with_reducible rfl
                                          rotate_left
                                          · simp only [Act.put, List.setIfInBounds_toArray, List.set_cons_zero, List.set_cons_succ, i64_w, i32_w]
                                            rfl
                                          refine take_ (i := 10) (N := some 103) (v := ?_) (a' := ?_) #[true, true, true, true, true, true, true, true, true, true, true, true, true, true, false, false, false, false, false] rfl rfl (take_ofW HT_.out HW_.out (by kernel_rfl)) (fun _ _ _ h => h) (Or.inl ⟨by rfl, ?_⟩) hHeld ?_ ?_
                                          rotate_left
                                          · rintro w' ⟨s0, s1, s2, s3⟩
                                            go_simp
                                            with_reducible rfl
                                          rotate_left
                                          · simp only [Act.put, List.setIfInBounds_toArray, List.set_cons_zero, List.set_cons_succ, i64_w, i32_w]
                                            rfl
                                          refine take_ (i := 14) (N := some 107) (v := ?_) (a' := ?_) #[true, true, true, true, true, true, true, true, true, true, true, true, true, true, true, false, false, false, false] rfl rfl (take_ofW HT_.out HW_.out (by kernel_rfl)) (fun _ _ _ h => h) (Or.inl ⟨by rfl, ?_⟩) hHeld ?_ ?_
                                          rotate_left
                                          · rintro w' ⟨s0, s1, s2, s3⟩
                                            go_simp
                                            with_reducible rfl
                                          rotate_left
                                          · simp only [Act.put, List.setIfInBounds_toArray, List.set_cons_zero, List.set_cons_succ, i64_w, i32_w]
                                            rfl
                                          refine pure_ (i := 15) (N := some 108) (v := ?_) (a' := ?_) #[true, true, true, true, true, true, true, true, true, true, true, true, true, true, true, true, false, false, false] rfl rfl (any_of HT_.out (by kernel_rfl)) (fun _ _ _ h => h) (Or.inl ⟨by rfl, ?_⟩) ?_ ?_
                                          rotate_left
                                          · intro w'
                                            go_simp
                                            with_reducible rfl
                                          rotate_left
                                          · simp only [Act.put, List.setIfInBounds_toArray, List.set_cons_zero, List.set_cons_succ, i64_w, i32_w]
                                            rfl
                                          refine pure_ (i := 16) (N := some 109) (v := ?_) (a' := ?_) #[true, true, true, true, true, true, true, true, true, true, true, true, true, true, true, true, true, false, false] rfl rfl (any_of HT_.out (by kernel_rfl)) (fun _ _ _ h => h) (Or.inl ⟨by rfl, ?_⟩) ?_ ?_
                                          rotate_left
                                          · intro w'
                                            go_simp
                                            with_reducible rfl
                                          rotate_left
                                          · simp only [Act.put, List.setIfInBounds_toArray, List.set_cons_zero, List.set_cons_succ, i64_w, i32_w]
                                            rfl
                                          refine pure_ (i := 17) (N := some 110) (v := ?_) (a' := ?_) #[true, true, true, true, true, true, true, true, true, true, true, true, true, true, true, true, true, true, false] rfl rfl (any_of HT_.out (by kernel_rfl)) (fun _ _ _ h => h) (Or.inl ⟨by rfl, ?_⟩) ?_ ?_
                                          rotate_left
                                          · intro w'
                                            go_simp
                                            with_reducible rfl
                                          rotate_left
                                          · simp only [Act.put, List.setIfInBounds_toArray, List.set_cons_zero, List.set_cons_succ, i64_w, i32_w]
                                            rfl
                                          refine last_ (i := 18) (N := none) #[true, true, true, true, true, true, true, true, true, true, true, true, true, true, true, true, true, true, true] rfl rfl (one_of HT_.out (by kernel_rfl)) (by decide) (fun K hK => ?_)
                                          refine skip_ (w1 := ?_) (by rfl) rfl ?_ ?_
                                          rotate_left
                                          · go_simp
                                            rfl
                                          refine hK.out _ _ ?_
                                          clear hK K
                                          refine done_ (done_of HT_.out (by kernel_rfl)) ?_
                                          have n0_ : Aside0 (Kd.R k57 57 (w69.setCell ⟨go61, ((ji36) : Int).toNat * 2 + 1, none⟩ (.string (((rd_T57 y436 (ji36)).f1) ++ ((rd_T57 t429 0).f1)))) w.heap.size (fun k_ => some k_ ≠ (v421 : Value).ownBlock ∧ some k_ ≠ (v427 : Value).ownBlock ∧ some k_ ≠ (.slice (some ad445) t429.length co70 : Value).ownBlock ∧ some k_ ≠ (.slice (some ⟨go61, 0, none⟩) y436.length co68 : Value).ownBlock) (.slice Ao67 t415.length co67) t415) := ⟨by (with_reducible repeat (first | apply Kd.R_alloc | apply Kd.R_drewN | apply Kd.R_drew)); exact Kd.R_mono (Kd.R_far (p := ⟨go61, ((ji36) : Int).toNat * 2 + 1, none⟩) (Kd.R_mono HO_5.out (fun k_ hk => (⟨hk, fun e_ => hk.2 (by rw [e_]; rfl)⟩ : _ ∧ k_ ≠ go61))) (fun _ hk => hk.2) (.string (((rd_T57 y436 (ji36)).f1) ++ ((rd_T57 t429 0).f1)))) (fun _ hk => ⟨hk.1.1.1, ⟨hk.1.1.2.1, ⟨hk.1.1.2.2, hk.1.2⟩⟩⟩)⟩
                                          have n1_ : Aside0 (Kd.R k57 57 (w69.setCell ⟨go61, ((ji36) : Int).toNat * 2 + 1, none⟩ (.string (((rd_T57 y436 (ji36)).f1) ++ ((rd_T57 t429 0).f1)))) w.heap.size (fun k_ => some k_ ≠ (.slice Ao67 t415.length co67 : Value).ownBlock ∧ some k_ ≠ (v427 : Value).ownBlock ∧ some k_ ≠ (.slice (some ad445) t429.length co70 : Value).ownBlock ∧ some k_ ≠ (.slice (some ⟨go61, 0, none⟩) y436.length co68 : Value).ownBlock) v421 t419) := ⟨by (with_reducible repeat (first | apply Kd.R_alloc | apply Kd.R_drewN | apply Kd.R_drew)); exact Kd.R_mono (Kd.R_far (p := ⟨go61, ((ji36) : Int).toNat * 2 + 1, none⟩) (Kd.R_mono HO_7.out (fun k_ hk => (⟨hk, fun e_ => hk.2 (by rw [e_]; rfl)⟩ : _ ∧ k_ ≠ go61))) (fun _ hk => hk.2) (.string (((rd_T57 y436 (ji36)).f1) ++ ((rd_T57 t429 0).f1)))) (fun _ hk => ⟨hk.1.1.1, ⟨hk.1.1.2.1, ⟨hk.1.1.2.2, hk.1.2⟩⟩⟩)⟩
                                          have n2_ : Aside0 (Kd.R k57 57 (w69.setCell ⟨go61, ((ji36) : Int).toNat * 2 + 1, none⟩ (.string (((rd_T57 y436 (ji36)).f1) ++ ((rd_T57 t429 0).f1)))) w.heap.size (fun k_ => some k_ ≠ (.slice Ao67 t415.length co67 : Value).ownBlock ∧ some k_ ≠ (v421 : Value).ownBlock ∧ some k_ ≠ (.slice (some ad445) t429.length co70 : Value).ownBlock ∧ some k_ ≠ (.slice (some ⟨go61, 0, none⟩) y436.length co68 : Value).ownBlock) v427 t425) := ⟨by (with_reducible repeat (first | apply Kd.R_alloc | apply Kd.R_drewN | apply Kd.R_drew)); exact Kd.R_mono (Kd.R_far (p := ⟨go61, ((ji36) : Int).toNat * 2 + 1, none⟩) (Kd.R_mono HO_9.out (fun k_ hk => (⟨hk, fun e_ => hk.2 (by rw [e_]; rfl)⟩ : _ ∧ k_ ≠ go61))) (fun _ hk => hk.2) (.string (((rd_T57 y436 (ji36)).f1) ++ ((rd_T57 t429 0).f1)))) (fun _ hk => ⟨hk.1.1.1, ⟨hk.1.1.2.1, ⟨hk.1.1.2.2, hk.1.2⟩⟩⟩)⟩
                                          have n3_ : Aside0 (Kd.R k57 57 (w69.setCell ⟨go61, ((ji36) : Int).toNat * 2 + 1, none⟩ (.string (((rd_T57 y436 (ji36)).f1) ++ ((rd_T57 t429 0).f1)))) w.heap.size (fun k_ => some k_ ≠ (.slice Ao67 t415.length co67 : Value).ownBlock ∧ some k_ ≠ (v421 : Value).ownBlock ∧ some k_ ≠ (v427 : Value).ownBlock ∧ some k_ ≠ (.slice (some ⟨go61, 0, none⟩) y436.length co68 : Value).ownBlock) (.slice (some ad445) t429.length co70) t429) := ⟨by (with_reducible repeat (first | apply Kd.R_alloc | apply Kd.R_drewN | apply Kd.R_drew)); exact Kd.R_mono (Kd.R_far (p := ⟨go61, ((ji36) : Int).toNat * 2 + 1, none⟩) (Kd.R_mono HO_11.out (fun k_ hk => (⟨hk, fun e_ => hk.2 (by rw [e_]; rfl)⟩ : _ ∧ k_ ≠ go61))) (fun _ hk => hk.2) (.string (((rd_T57 y436 (ji36)).f1) ++ ((rd_T57 t429 0).f1)))) (fun _ hk => ⟨hk.1.1.1, ⟨hk.1.1.2.1, ⟨hk.1.1.2.2, hk.1.2⟩⟩⟩)⟩
                                          have n4_ : Aside0 (Kd.R k57 57 (w69.setCell ⟨go61, ((ji36) : Int).toNat * 2 + 1, none⟩ (.string (((rd_T57 y436 (ji36)).f1) ++ ((rd_T57 t429 0).f1)))) w.heap.size (fun k_ => some k_ ≠ (.slice Ao67 t415.length co67 : Value).ownBlock ∧ some k_ ≠ (v421 : Value).ownBlock ∧ some k_ ≠ (v427 : Value).ownBlock ∧ some k_ ≠ (.slice (some ad445) t429.length co70 : Value).ownBlock) (.slice (some ⟨go61, 0, none⟩) y436.length co68) y446) := ⟨by (with_reducible repeat (first | apply Kd.R_alloc | apply Kd.R_drewN | apply Kd.R_drew)); exact HQ71.out⟩
                                          have n5_ : Aside0 (Below w.heap.size w (w69.setCell ⟨go61, ((ji36) : Int).toNat * 2 + 1, none⟩ (.string (((rd_T57 y436 (ji36)).f1) ++ ((rd_T57 t429 0).f1))))) := ⟨by repeat (first | (with_reducible first | exact HB.out | apply below_alloc | apply pw_below_drewN | apply below_drew1 | refine below_set ?_ GB61.out) | exact HB.out)⟩
                                          (try clear HO_5)
                                          (try clear HO_7)
                                          (try clear HO_9)
                                          (try clear HO_11)
                                          (try clear HO438)
                                          (try clear HB)
                                          generalize (w69.setCell ⟨go61, ((ji36) : Int).toNat * 2 + 1, none⟩ (.string (((rd_T57 y436 (ji36)).f1) ++ ((rd_T57 t429 0).f1)))) = w72 at n0_ n1_ n2_ n3_ n4_ n5_ ⊢
                                          have HO_5 := n0_
                                          have HO_7 := n1_
                                          have HO_9 := n2_
                                          have HO_11 := n3_
                                          have HO438 := n4_
                                          have HB := n5_
                                          clear n0_ n1_ n2_ n3_ n4_ n5_
                                          have q73 : (1 : Int) ≤ ((t429.length : Int) : Int) := of_decide_eq_true (by first | (with_reducible assumption) | assumption)
                                          obtain ⟨i073, hi073, _, hsz73, _⟩ := info_parts info57
                                          have hroom73 : t429.length ≤ co70 := (Kd.R_reads' HO_11.out).2.1
                                          have hC73 : Kd.C k57 _ (some ad445) t429.length t429 := (Kd.R_reads' HO_11.out).2.2
                                          have hcut73 := cut_from (P := Try.prog) 48 57 .i64 Try.underlying48 hi073 2 hsz73 (some ad445) t429.length co70 1 (by omega) q73
                                          have hr73 := Kd.C_drop (m := (1 : Int).toNat) (c := co70) hC73 (by omega) hroom73
                                          obtain ⟨A73, hA73⟩ : ∃ A1, A1 = (if co70 = (1 : Int).toNat then (some ad445) else ((some ad445) : Option Addr).map (·.add ((1 : Int).toNat * 2))) := ⟨_, rfl⟩
                                          obtain ⟨c73, hc73⟩ : ∃ c1, c1 = co70 - (1 : Int).toNat := ⟨_, rfl⟩
                                          have hy73 : y447.length = t429.length - (1 : Int).toNat := (by rw [Ny447.out, List.length_drop] <;> omega)
                                          rw [show (t429).drop (1 : Int).toNat = y447 from Ny447.out.symm] at hr73
                                          replace hr73 : Kd.C k57 _ A73 y447.length y447 := (by rw [hA73]; exact hr73)
                                          rw [← hy73, ← hA73, ← hc73] at hcut73
                                          have HR450 := Aside0.mk hr73
                                          have HC450 := Aside0.mk (show y447.length ≤ c73 from by rw [hy73, hc73]; exact Nat.sub_le_sub_right hroom73 _)
                                          clear hr73 hC73 hroom73 hi073 hsz73 hc73
                                          have KY73 := Aside0.mk hy73
                                          have KA73 := Aside0.mk hA73
                                          clear hy73 hA73
                                          have KL73 := Aside0.mk (show 1 ≤ t429.length from by omega)
                                          replace q73 := eq_true q73
                                          try go_wp2_with (first | ((with_reducible refine gate_builtin (b := .append) (xs := #[.tmp 111, .tmp 113]) rfl ?_); (try (refine gate_guard (by rfl) ?_; dsimp only)); at_builtin; refine Kd.R_append_rows k57 (w0 := w) w.heap.size rfl (.tmp 111) (.tmp 113) 48 57 (.agg #[(.bool false), (.string ⟨#[]⟩)]) 24 rfl Try.underlying48 info57 rfl (by decide) (by omega) (.slice (some ⟨go61, 0, none⟩) y436.length co68) y446 y447 _ _ _ (fun k_ => some k_ ≠ (.slice Ao67 t415.length co67 : Value).ownBlock ∧ some k_ ≠ (v421 : Value).ownBlock ∧ some k_ ≠ (v427 : Value).ownBlock ∧ some k_ ≠ (.slice (some ad445) t429.length co70 : Value).ownBlock) (fun _ => False) rfl rfl ?aO ?aR (fun _ _ h => h) (fun _ h => h.elim) ?aF ?aB ?aS ?aL ?_; (case aR => repeat (first | exact (by repeat (first | (with_reducible exact HR450.out) | (with_reducible refine Kd.C_alloc ?_ _) | (with_reducible refine Kd.C_drewN ?_ _) | (with_reducible refine Kd.C_drew ?_) | exact HR450.out)) | (with_reducible refine Kd.C_alloc ?_ _) | (with_reducible refine Kd.C_drewN ?_ _) | (with_reducible refine Kd.C_drew ?_))); (case aB => exact (by repeat (first | (with_reducible first | exact HB.out | apply below_alloc | apply pw_below_drewN | apply below_drew1) | exact HB.out))); (case aF => exact (fun k_ hk => ⟨Kd.fresh' (Kd.R_lt (by (with_reducible repeat (first | apply Kd.R_alloc | apply Kd.R_drewN | apply Kd.R_drew)); exact HO_5.out)) k_ hk, Kd.fresh' (Kd.R_lt (by (with_reducible repeat (first | apply Kd.R_alloc | apply Kd.R_drewN | apply Kd.R_drew)); exact HO_7.out)) k_ hk, Kd.fresh' (Kd.R_lt (by (with_reducible repeat (first | apply Kd.R_alloc | apply Kd.R_drewN | apply Kd.R_drew)); exact HO_9.out)) k_ hk, Kd.fresh' (Kd.R_lt (by (with_reducible repeat (first | apply Kd.R_alloc | apply Kd.R_drewN | apply Kd.R_drew)); exact HO_11.out)) k_ hk⟩)); (case aO => exact (by (with_reducible repeat (first | apply Kd.R_alloc | apply Kd.R_drewN | apply Kd.R_drew)); exact HO438.out)); (case aS => exact (below_size (by repeat (first | (with_reducible first | exact HB.out | apply below_alloc | apply pw_below_drewN | apply below_drew1) | exact HB.out)))); (case aL => have := LMc63.out; omega); intro v452 w74 ho hb hg hat; rw [← Ny451.out] at ho; have n0_ := Aside0.mk (Kd.R_after (ok := (fun k_ => some k_ ≠ (v421 : Value).ownBlock ∧ some k_ ≠ (v427 : Value).ownBlock ∧ some k_ ≠ (.slice (some ad445) t429.length co70 : Value).ownBlock)) (by (with_reducible repeat (first | apply Kd.R_alloc | apply Kd.R_drewN | apply Kd.R_drew)); exact Kd.R_mono HO_5.out (fun _ hk => ⟨⟨hk.1, ⟨hk.2.1, hk.2.2.1⟩⟩, hk.2.2.2⟩)) hg hat); have n1_ := Aside0.mk (Kd.R_after (ok := (fun k_ => some k_ ≠ (.slice Ao67 t415.length co67 : Value).ownBlock ∧ some k_ ≠ (v427 : Value).ownBlock ∧ some k_ ≠ (.slice (some ad445) t429.length co70 : Value).ownBlock)) (by (with_reducible repeat (first | apply Kd.R_alloc | apply Kd.R_drewN | apply Kd.R_drew)); exact Kd.R_mono HO_7.out (fun _ hk => ⟨⟨hk.1, ⟨hk.2.1, hk.2.2.1⟩⟩, hk.2.2.2⟩)) hg hat); have n2_ := Aside0.mk (Kd.R_after (ok := (fun k_ => some k_ ≠ (.slice Ao67 t415.length co67 : Value).ownBlock ∧ some k_ ≠ (v421 : Value).ownBlock ∧ some k_ ≠ (.slice (some ad445) t429.length co70 : Value).ownBlock)) (by (with_reducible repeat (first | apply Kd.R_alloc | apply Kd.R_drewN | apply Kd.R_drew)); exact Kd.R_mono HO_9.out (fun _ hk => ⟨⟨hk.1, ⟨hk.2.1, hk.2.2.1⟩⟩, hk.2.2.2⟩)) hg hat); have n3_ := Aside0.mk (Kd.R_after (ok := (fun k_ => some k_ ≠ (.slice Ao67 t415.length co67 : Value).ownBlock ∧ some k_ ≠ (v421 : Value).ownBlock ∧ some k_ ≠ (v427 : Value).ownBlock)) (by (with_reducible repeat (first | apply Kd.R_alloc | apply Kd.R_drewN | apply Kd.R_drew)); exact Kd.R_mono HO_11.out (fun _ hk => ⟨⟨hk.1, ⟨hk.2.1, hk.2.2.1⟩⟩, hk.2.2.2⟩)) hg hat); have n4_ := Aside0.mk (hb); have n5_ := Aside0.mk ((show Kd.C k57 w74 A73 y447.length y447 from by rw [Ny447.out, KA73.out]; exact Kd.C_drop (m := 1) (c := co70) ((Kd.R_reads' (Kd.R_after (ok := (fun k_ => some k_ ≠ (.slice Ao67 t415.length co67 : Value).ownBlock ∧ some k_ ≠ (v421 : Value).ownBlock ∧ some k_ ≠ (v427 : Value).ownBlock)) (by (with_reducible repeat (first | apply Kd.R_alloc | apply Kd.R_drewN | apply Kd.R_drew)); exact Kd.R_mono HO_11.out (fun _ hk => ⟨⟨hk.1, ⟨hk.2.1, hk.2.2.1⟩⟩, hk.2.2.2⟩)) hg hat)).2.2) KL73.out ((Kd.R_reads' (Kd.R_after (ok := (fun k_ => some k_ ≠ (.slice Ao67 t415.length co67 : Value).ownBlock ∧ some k_ ≠ (v421 : Value).ownBlock ∧ some k_ ≠ (v427 : Value).ownBlock)) (by (with_reducible repeat (first | apply Kd.R_alloc | apply Kd.R_drewN | apply Kd.R_drew)); exact Kd.R_mono HO_11.out (fun _ hk => ⟨⟨hk.1, ⟨hk.2.1, hk.2.2.1⟩⟩, hk.2.2.2⟩)) hg hat)).2.1))); have n6_ := Aside0.mk (ho); clear HO_5; clear HO_7; clear HO_9; clear HO_11; clear HB; clear HR450; clear HO438; have HO_5 := n0_; have HO_7 := n1_; have HO_9 := n2_; have HO_11 := n3_; have HB := n4_; have HR450 := n5_; have HO453 := n6_; clear n0_ n1_ n2_ n3_ n4_ n5_ n6_; clear ho hb hg hat; obtain ⟨Ao75, co75, eo75⟩ := Kd.R_slice HO_9.out; subst eo75; obtain ⟨Ao76, co76, eo76⟩ := Kd.R_slice HO453.out; subst eo76) | ((with_reducible refine gate_callee (f := 37) rfl ?_); refine goesL_ (some 120) rfl rfl Try.func37 (by kernel_rfl) rfl #[.slice Ao75 t425.length co75, .slice Ao76 y451.length co76] rfl (by (try simp only [List.map_toArray, List.map_cons, List.map_nil]); first | done | rfl | (simp only [List.length_drop, List.length_take]; rfl)) ?_; (with_reducible refine (cruciblelaw0_SamePieces.calls kj21 _ _ t425 _ _ y451 true _ ?side1 ?side2 ?side3 ?side4 A64.out).mono ?_); (case side1 => repeat (first | exact (Kd.R_reads' HO_9.out).2.2 | (with_reducible refine Kd.C_alloc ?_ _) | (with_reducible refine Kd.C_drewN ?_ _) | (with_reducible refine Kd.C_drew ?_))); (case side2 => exact (Kd.R_reads' HO_9.out).2.1); (case side3 => repeat (first | exact (Kd.R_reads' HO453.out).2.2 | (with_reducible refine Kd.C_alloc ?_ _) | (with_reducible refine Kd.C_drewN ?_ _) | (with_reducible refine Kd.C_drew ?_))); (case side4 => exact (Kd.R_reads' HO453.out).2.1); rintro e w' ⟨rfl, ⟨nd, rfl⟩⟩; refine ⟨_, rfl, ?_⟩; obtain ⟨Ao77, co77, eo77⟩ := Kd.R_slice HO_7.out; subst eo77))
                                          go_ret
                                          exact ⟨by first | rfl | (simp [errW_none, errW_some] <;> rfl) | (simp only [← hji36]; first | rfl | (simp [errW_none, errW_some] <;> rfl)) | (simp [*, errW_none, errW_some] <;> rfl), by repeat (first | (with_reducible first | exact HB.out | apply below_alloc | apply pw_below_drewN | apply below_drew1) | exact HB.out)⟩
                                        · replace c65 := Bool.eq_false_iff.mpr c65
                                          subst c65
                                          have H1 : (some false) = some r := by rw [if_neg (show ¬ (false = true) by decide)] at H; exact H
                                          clear H
                                          have H := H1
                                          clear H1
                                          obtain rfl := Option.some.inj H
                                          obtain ⟨Ao79, co79, eo79⟩ := Kd.R_slice HO_5.out
                                          subst eo79
                                          try go_wp2_with (first | ((with_reducible refine gate_builtin (b := .append) (xs := #[.tmp 77, .tmp 78]) rfl ?_); (try (refine gate_guard (by rfl) ?_; dsimp only)); at_builtin; refine Kd.R_append_rows k57 (w0 := w) w.heap.size rfl (.tmp 77) (.tmp 78) 48 57 (.agg #[(.bool false), (.string ⟨#[]⟩)]) 24 rfl Try.underlying48 info57 rfl (by decide) (by omega) (.slice none 0 0) ([] : List (S57)) t415 _ _ _ (fun k_ => some k_ ≠ (.slice Ao79 t415.length co79 : Value).ownBlock ∧ some k_ ≠ (v421 : Value).ownBlock ∧ some k_ ≠ (v427 : Value).ownBlock ∧ some k_ ≠ (v431 : Value).ownBlock) (fun _ => False) rfl rfl ?aO ?aR (fun _ _ h => h) (fun _ h => h.elim) ?aF ?aB ?aS ?aL ?_; (case aR => repeat (first | exact (Kd.R_reads' HO_5.out).2.2 | (with_reducible refine Kd.C_alloc ?_ _) | (with_reducible refine Kd.C_drewN ?_ _) | (with_reducible refine Kd.C_drew ?_))); (case aB => exact (by repeat (first | (with_reducible first | exact HB.out | apply below_alloc | apply pw_below_drewN | apply below_drew1) | exact HB.out))); (case aF => exact (fun k_ hk => ⟨Kd.fresh' (Kd.R_lt (by (with_reducible repeat (first | apply Kd.R_alloc | apply Kd.R_drewN | apply Kd.R_drew)); exact HO_5.out)) k_ hk, Kd.fresh' (Kd.R_lt (by (with_reducible repeat (first | apply Kd.R_alloc | apply Kd.R_drewN | apply Kd.R_drew)); exact HO_7.out)) k_ hk, Kd.fresh' (Kd.R_lt (by (with_reducible repeat (first | apply Kd.R_alloc | apply Kd.R_drewN | apply Kd.R_drew)); exact HO_9.out)) k_ hk, Kd.fresh' (Kd.R_lt (by (with_reducible repeat (first | apply Kd.R_alloc | apply Kd.R_drewN | apply Kd.R_drew)); exact HO_11.out)) k_ hk⟩)); (case aO => exact ((Kd.R_nil _ _ _ _ (fun k_ => some k_ ≠ (.slice Ao79 t415.length co79 : Value).ownBlock ∧ some k_ ≠ (v421 : Value).ownBlock ∧ some k_ ≠ (v427 : Value).ownBlock ∧ some k_ ≠ (v431 : Value).ownBlock)))); (case aS => exact (below_size (by repeat (first | (with_reducible first | exact HB.out | apply below_alloc | apply pw_below_drewN | apply below_drew1) | exact HB.out)))); (case aL => have := LMc34.out; omega); intro v437 w78 ho hb hg hat; rw [← Ny436.out] at ho; have n0_ := Aside0.mk (Kd.R_after (Kd.R_apart_nil (by (with_reducible repeat (first | apply Kd.R_alloc | apply Kd.R_drewN | apply Kd.R_drew)); exact HO_5.out)) hg hat); have n1_ := Aside0.mk (Kd.R_after (Kd.R_apart_nil (by (with_reducible repeat (first | apply Kd.R_alloc | apply Kd.R_drewN | apply Kd.R_drew)); exact HO_7.out)) hg hat); have n2_ := Aside0.mk (Kd.R_after (Kd.R_apart_nil (by (with_reducible repeat (first | apply Kd.R_alloc | apply Kd.R_drewN | apply Kd.R_drew)); exact HO_9.out)) hg hat); have n3_ := Aside0.mk (Kd.R_after (Kd.R_apart_nil (by (with_reducible repeat (first | apply Kd.R_alloc | apply Kd.R_drewN | apply Kd.R_drew)); exact HO_11.out)) hg hat); have n4_ := Aside0.mk (hb); have n5_ := Aside0.mk (ho); clear HO_5; clear HO_7; clear HO_9; clear HO_11; clear HB; have HO_5 := n0_; have HO_7 := n1_; have HO_9 := n2_; have HO_11 := n3_; have HB := n4_; have HO438 := n5_; clear n0_ n1_ n2_ n3_ n4_ n5_; clear ho hb hg hat; obtain ⟨Ao80, co80, eo80⟩ := Kd.R_slice HO438.out; subst eo80; have p439 : 0 ≤ ((ji36) : Int) := of_decide_eq_true (by first | (with_reducible assumption) | assumption); have q439 : (ji36) < (y436.length : Int) := of_decide_eq_true (by first | (with_reducible assumption) | assumption); obtain ⟨ad439, e439, hx439_0, hx439_1⟩ := at_T57 (Kd.R_reads' HO438.out).2.2 (ji36) p439 q439; (try rw [← Nbq39.out] at hx439_0); cases e439; replace p439 := eq_true p439; replace q439 := eq_true q439))
                                          have n0_ := Aside0.mk (Kd.R_drew HO_5.out)
                                          have n1_ := Aside0.mk (Kd.R_drew HO_7.out)
                                          have n2_ := Aside0.mk (Kd.R_drew HO_9.out)
                                          have n3_ := Aside0.mk (Kd.R_drew HO_11.out)
                                          have n4_ := Aside0.mk (Kd.R_drew HO438.out)
                                          have n5_ := Aside0.mk (below_drew1 HB.out)
                                          clear HO_5
                                          clear HO_7
                                          clear HO_9
                                          clear HO_11
                                          clear HO438
                                          clear HB
                                          have HO_5 := n0_
                                          have HO_7 := n1_
                                          have HO_9 := n2_
                                          have HO_11 := n3_
                                          have HO438 := n4_
                                          have HB := n5_
                                          clear n0_ n1_ n2_ n3_ n4_ n5_
                                          have p444 : 0 ≤ ((ji36) : Int) := of_decide_eq_true (by first | (with_reducible assumption) | assumption)
                                          have q444 : (ji36) < (y436.length : Int) := of_decide_eq_true (by first | (with_reducible assumption) | assumption)
                                          obtain ⟨ad444, e444, hx444_0, hx444_1⟩ := at_T57 (Kd.R_reads' HO438.out).2.2 (ji36) p444 q444
                                          (try rw [← Nbq39.out] at hx444_0)
                                          obtain rfl : ad439 = ad444 := (by injection e444)
                                          replace p444 := eq_true p444
                                          replace q444 := eq_true q444
                                          obtain ⟨Ao82, co82, eo82⟩ := Kd.R_slice HO_11.out
                                          (first | subst eo82 | (injection eo82 with f1_ f2_ f3_; have f4_ := f1_.symm; have f5_ := f3_.symm; clear f1_ f2_ f3_; subst f4_; subst f5_))
                                          have p445 : 0 ≤ (0 : Int) := (by omega)
                                          have q445 : 0 < (t429.length : Int) := of_decide_eq_true (by first | (with_reducible assumption) | assumption)
                                          obtain ⟨ad445, e445, hx445_0, hx445_1⟩ := at_T57 (Kd.R_reads' HO_11.out).2.2 0 p445 q445
                                          (try rw [← Nbq39.out] at hx445_0)
                                          cases e445
                                          have qi445 : (0 < t429.length) = True := eq_true (by omega)
                                          (try rw [show ((0 : Int)).toNat = 0 from rfl] at hx445_0)
                                          (try rw [show 0 * 2 = 0 from rfl] at hx445_0)
                                          (try rw [Addr.add_zero'] at hx445_0)
                                          (try rw [show ((0 : Int)).toNat = 0 from rfl] at hx445_1)
                                          (try rw [show 0 * 2 = 0 from rfl] at hx445_1)
                                          (try rw [Addr.add_zero'] at hx445_1)
                                          replace p445 := eq_true p445
                                          replace q445 := eq_true q445
                                          have p61 : 0 ≤ ((ji36) : Int) := of_decide_eq_true (by first | (with_reducible assumption) | assumption)
                                          have q61 : ((ji36) : Int) < ((y436.length : Int) : Int) := of_decide_eq_true (by first | (with_reducible assumption) | assumption)
                                          obtain ⟨go61, co61, eo61, gb61, gl61, cl61, HG61⟩ := Kd.R_form HO438.out (by omega)
                                          (first | cases eo61 | (injection eo61 with ea_ en_ ec_; (first | subst ea_ | (injection ea_ with ea_; subst ea_)); subst ec_; clear en_))
                                          have GB61 := Aside0.mk gb61
                                          have GG61 := Aside0.mk HG61
                                          clear gb61 gl61 HG61
                                          (first | simp only [add_plain] at hx439_0 | skip)
                                          (first | simp only [add_plain] at hx439_1 | skip)
                                          (first | simp only [add_plain] at hx444_0 | skip)
                                          (first | simp only [add_plain] at hx444_1 | skip)
                                          obtain ⟨ce61, hcl61, hM61, hcc61, hfr61⟩ := Kd.R_elem HO438.out z57 ((ji36) : Int) p61 q61
                                          obtain rfl := k57_openM hM61
                                          have hx61_0 : World.cell? _ ⟨go61, ((ji36) : Int).toNat * 2, none⟩ = some (.bool ((rd_T57 y436 (ji36)).f0)) := hcc61 0 _ rfl
                                          have hx61_1 : World.cell? _ ⟨go61, ((ji36) : Int).toNat * 2 + 1, none⟩ = some (.string ((rd_T57 y436 (ji36)).f1)) := hcc61 1 _ rfl
                                          have hf61_0 : World.frozen? _ ⟨go61, ((ji36) : Int).toNat * 2, none⟩ = false := hfr61 0
                                          have hf61_1 : World.frozen? _ ⟨go61, ((ji36) : Int).toNat * 2 + 1, none⟩ = false := hfr61 1
                                          clear hcl61 hcc61 hfr61 hM61
                                          replace p61 := eq_true p61
                                          replace q61 := eq_true q61
                                          obtain ⟨ce83, hcl83, hM83, hcc83, hfr83⟩ := Kd.R_elem HO438.out z57 ((ji36) : Int) (of_decide_eq_true (by first | (with_reducible assumption) | assumption)) (by have h_ : ((ji36) : Int) < ((y436.length : Int) : Int) := of_decide_eq_true (by first | (with_reducible assumption) | assumption); first | exact h_ | (have e_ := (Kd.R_reads' HO438.out).1; omega) | simpa using h_)
                                          obtain rfl := k57_openM hM83
                                          have HP83 := (Kd.R_seg HO438.out ((ji36) : Int) (of_decide_eq_true (by first | (with_reducible assumption) | assumption)) (by have h_ : ((ji36) : Int) < ((y436.length : Int) : Int) := of_decide_eq_true (by first | (with_reducible assumption) | assumption); first | exact h_ | (have e_ := (Kd.R_reads' HO438.out).1; omega) | simpa using h_) (seg := [.string (((rd_T57 y436 (ji36)).f1) ++ ((rd_T57 t429 0).f1))]) (j := 1) hcl83 hcc83 (show 2 ≤ 2 from by decide) (x' := (⟨(rd_T57 y436 (ji36)).f0, ((rd_T57 y436 (ji36)).f1) ++ ((rd_T57 t429 0).f1)⟩ : S57)) (k57_mkM _ _ _ (⟨(rd_T57 y436 (ji36)).f0, ((rd_T57 y436 (ji36)).f1) ++ ((rd_T57 t429 0).f1)⟩ : S57) ) (fun _ hk => hk)).1
                                          rw [← Nbq39.out] at HP83; rw [← Ny446.out] at HP83
                                          have HQ83 := Aside0.mk HP83
                                          clear hcl83 hcc83 hfr83 hM83 HP83
                                          refine start_ (n := 19) (S := fun w' => w'.cell? ⟨go61, ((ji36)).toNat * 2, none⟩ = some (.bool (false)) ∧ w'.cell? ⟨go61, ((ji36)).toNat * 2 + 1, none⟩ = some (.string ((rd_T57 y436 (ji36)).f1)) ∧ w'.cell? ad445 = some (.bool ((rd_T57 t429 0).f0)) ∧ w'.cell? ⟨ad445.block, ad445.off + 1, none⟩ = some (.string ((rd_T57 t429 0).f1))) (ds := [18]) #[false, false, false, false, false, false, false, false, false, false, false, false, false, false, false, false, false, false, false] (by kernel_rfl) rfl rfl ⟨hx444_0, hx444_1, hx445_0, hx445_1⟩ (fun hHeld => ?_); refine with_tabW cruciblelaw3_PieceTwo.tab14 cruciblelaw3_PieceTwo.bits14 (fun HT_ HW_ => ?_)
                                          generalize w78.drew = w81 at HO_5 HO_7 HO_9 HO_11 HO438 HB GG61 HQ83 hf61_0 hf61_1 hx439_0 hx439_1 hx444_0 hx444_1 hx445_0 hx445_1 hx61_0 hx61_1 hHeld ⊢
                                          refine pure_ (i := 0) (N := some 93) (v := ?_) (a' := ?_) #[true, false, false, false, false, false, false, false, false, false, false, false, false, false, false, false, false, false, false] rfl rfl (any_of HT_.out (by kernel_rfl)) (fun _ _ _ h => h) (Or.inl ⟨by rfl, ?_⟩) ?_ ?_
                                          rotate_left
                                          · intro w'
                                            go_simp
                                            with_reducible rfl
                                          rotate_left
                                          · simp only [Act.put, List.setIfInBounds_toArray, List.set_cons_zero, List.set_cons_succ, i64_w, i32_w]
                                            rfl
                                          refine pure_ (i := 1) (N := some 94) (v := ?_) (a' := ?_) #[true, true, false, false, false, false, false, false, false, false, false, false, false, false, false, false, false, false, false] rfl rfl (any_of HT_.out (by kernel_rfl)) (fun _ _ _ h => h) (Or.inl ⟨by rfl, ?_⟩) ?_ ?_
                                          rotate_left
                                          · intro w'
                                            go_simp
                                            with_reducible rfl
                                          rotate_left
                                          · simp only [Act.put, List.setIfInBounds_toArray, List.set_cons_zero, List.set_cons_succ, i64_w, i32_w]
                                            rfl
                                          refine pure_ (i := 2) (N := some 95) (v := ?_) (a' := ?_) #[true, true, true, false, false, false, false, false, false, false, false, false, false, false, false, false, false, false, false] rfl rfl (any_of HT_.out (by kernel_rfl)) (fun _ _ _ h => h) (Or.inl ⟨by rfl, ?_⟩) ?_ ?_
                                          rotate_left
                                          · intro w'
                                            go_simp
                                            with_reducible rfl
                                          rotate_left
                                          · simp only [Act.put, List.setIfInBounds_toArray, List.set_cons_zero, List.set_cons_succ, i64_w, i32_w]
                                            rfl
                                          refine pure_ (i := 3) (N := some 96) (v := ?_) (a' := ?_) #[true, true, true, true, false, false, false, false, false, false, false, false, false, false, false, false, false, false, false] rfl rfl (any_of HT_.out (by kernel_rfl)) (fun _ _ _ h => h) (Or.inl ⟨by rfl, ?_⟩) ?_ ?_
                                          rotate_left
                                          · intro w'
                                            go_simp
                                            with_reducible rfl
                                          rotate_left
                                          · simp only [Act.put, List.setIfInBounds_toArray, List.set_cons_zero, List.set_cons_succ, i64_w, i32_w]
                                            rfl
                                          refine pure_ (i := 4) (N := some 97) (v := ?_) (a' := ?_) #[true, true, true, true, true, false, false, false, false, false, false, false, false, false, false, false, false, false, false] rfl rfl (any_of HT_.out (by kernel_rfl)) (fun _ _ _ h => h) (Or.inl ⟨by rfl, ?_⟩) ?_ ?_
                                          rotate_left
                                          · intro w'
                                            go_simp
                                            with_reducible rfl
                                          rotate_left
                                          · simp only [Act.put, List.setIfInBounds_toArray, List.set_cons_zero, List.set_cons_succ, i64_w, i32_w]
                                            rfl
                                          refine pure_ (i := 5) (N := some 98) (v := ?_) (a' := ?_) #[true, true, true, true, true, true, false, false, false, false, false, false, false, false, false, false, false, false, false] rfl rfl (any_of HT_.out (by kernel_rfl)) (fun _ _ _ h => h) (Or.inl ⟨by rfl, ?_⟩) ?_ ?_
                                          rotate_left
                                          · intro w'
                                            go_simp
                                            with_reducible rfl
                                          rotate_left
                                          · simp only [Act.put, List.setIfInBounds_toArray, List.set_cons_zero, List.set_cons_succ, i64_w, i32_w]
                                            rfl
                                          refine pure_ (i := 6) (N := some 99) (v := ?_) (a' := ?_) #[true, true, true, true, true, true, true, false, false, false, false, false, false, false, false, false, false, false, false] rfl rfl (any_of HT_.out (by kernel_rfl)) (fun _ _ _ h => h) (Or.inl ⟨by rfl, ?_⟩) ?_ ?_
                                          rotate_left
                                          · intro w'
                                            go_simp
                                            with_reducible rfl
                                          rotate_left
                                          · simp only [Act.put, List.setIfInBounds_toArray, List.set_cons_zero, List.set_cons_succ, i64_w, i32_w]
                                            rfl
                                          refine pure_ (i := 7) (N := some 100) (v := ?_) (a' := ?_) #[true, true, true, true, true, true, true, true, false, false, false, false, false, false, false, false, false, false, false] rfl rfl (any_of HT_.out (by kernel_rfl)) (fun _ _ _ h => h) (Or.inl ⟨by rfl, ?_⟩) ?_ ?_
                                          rotate_left
                                          · intro w'
                                            go_simp
                                            with_reducible rfl
                                          rotate_left
                                          · simp only [Act.put, List.setIfInBounds_toArray, List.set_cons_zero, List.set_cons_succ, i64_w, i32_w]
                                            rfl
                                          refine pure_ (i := 8) (N := some 101) (v := ?_) (a' := ?_) #[true, true, true, true, true, true, true, true, true, false, false, false, false, false, false, false, false, false, false] rfl rfl (any_of HT_.out (by kernel_rfl)) (fun _ _ _ h => h) (Or.inl ⟨by rfl, ?_⟩) ?_ ?_
                                          rotate_left
                                          · intro w'
                                            go_simp
                                            with_reducible rfl
                                          rotate_left
                                          · simp only [Act.put, List.setIfInBounds_toArray, List.set_cons_zero, List.set_cons_succ, i64_w, i32_w]
                                            rfl
                                          refine pure_ (i := 9) (N := some 102) (v := ?_) (a' := ?_) #[true, true, true, true, true, true, true, true, true, true, false, false, false, false, false, false, false, false, false] rfl rfl (any_of HT_.out (by kernel_rfl)) (fun _ _ _ h => h) (Or.inl ⟨by rfl, ?_⟩) ?_ ?_
                                          rotate_left
                                          · intro w'
                                            go_simp
                                            with_reducible rfl
                                          rotate_left
                                          · simp only [Act.put, List.setIfInBounds_toArray, List.set_cons_zero, List.set_cons_succ, i64_w, i32_w]
                                            rfl
                                          refine pure_ (i := 11) (N := some 104) (v := ?_) (a' := ?_) #[true, true, true, true, true, true, true, true, true, true, false, true, false, false, false, false, false, false, false] rfl rfl (any_of HT_.out (by kernel_rfl)) (fun _ _ _ h => h) (Or.inl ⟨by rfl, ?_⟩) ?_ ?_
                                          rotate_left
                                          · intro w'
                                            go_simp
                                            with_reducible rfl
                                          rotate_left
                                          · simp only [Act.put, List.setIfInBounds_toArray, List.set_cons_zero, List.set_cons_succ, i64_w, i32_w]
                                            rfl
                                          refine pure_ (i := 12) (N := some 105) (v := ?_) (a' := ?_) #[true, true, true, true, true, true, true, true, true, true, false, true, true, false, false, false, false, false, false] rfl rfl (any_of HT_.out (by kernel_rfl)) (fun _ _ _ h => h) (Or.inl ⟨by rfl, ?_⟩) ?_ ?_
                                          rotate_left
                                          · intro w'
                                            go_simp
                                            with_reducible rfl
                                          rotate_left
                                          · simp only [Act.put, List.setIfInBounds_toArray, List.set_cons_zero, List.set_cons_succ, i64_w, i32_w]
                                            rfl
                                          refine pure_ (i := 13) (N := some 106) (v := ?_) (a' := ?_) #[true, true, true, true, true, true, true, true, true, true, false, true, true, true, false, false, false, false, false] rfl rfl (any_of HT_.out (by kernel_rfl)) (fun _ _ _ h => h) (Or.inl ⟨by rfl, ?_⟩) ?_ ?_
                                          rotate_left
                                          · intro w'
                                            go_simp
                                            with_reducible rfl
                                          rotate_left
                                          · simp only [Act.put, List.setIfInBounds_toArray, List.set_cons_zero, List.set_cons_succ, i64_w, i32_w]
                                            rfl
                                          refine take_ (i := 10) (N := some 103) (v := ?_) (a' := ?_) #[true, true, true, true, true, true, true, true, true, true, true, true, true, true, false, false, false, false, false] rfl rfl (take_ofW HT_.out HW_.out (by kernel_rfl)) (fun _ _ _ h => h) (Or.inl ⟨by rfl, ?_⟩) hHeld ?_ ?_
                                          rotate_left
                                          · rintro w' ⟨s0, s1, s2, s3⟩
                                            go_simp
                                            with_reducible rfl
                                          rotate_left
                                          · simp only [Act.put, List.setIfInBounds_toArray, List.set_cons_zero, List.set_cons_succ, i64_w, i32_w]
                                            rfl
                                          refine take_ (i := 14) (N := some 107) (v := ?_) (a' := ?_) #[true, true, true, true, true, true, true, true, true, true, true, true, true, true, true, false, false, false, false] rfl rfl (take_ofW HT_.out HW_.out (by kernel_rfl)) (fun _ _ _ h => h) (Or.inl ⟨by rfl, ?_⟩) hHeld ?_ ?_
                                          rotate_left
                                          · rintro w' ⟨s0, s1, s2, s3⟩
                                            go_simp
                                            with_reducible rfl
                                          rotate_left
                                          · simp only [Act.put, List.setIfInBounds_toArray, List.set_cons_zero, List.set_cons_succ, i64_w, i32_w]
                                            rfl
                                          refine pure_ (i := 15) (N := some 108) (v := ?_) (a' := ?_) #[true, true, true, true, true, true, true, true, true, true, true, true, true, true, true, true, false, false, false] rfl rfl (any_of HT_.out (by kernel_rfl)) (fun _ _ _ h => h) (Or.inl ⟨by rfl, ?_⟩) ?_ ?_
                                          rotate_left
                                          · intro w'
                                            go_simp
                                            with_reducible rfl
                                          rotate_left
                                          · simp only [Act.put, List.setIfInBounds_toArray, List.set_cons_zero, List.set_cons_succ, i64_w, i32_w]
                                            rfl
                                          refine pure_ (i := 16) (N := some 109) (v := ?_) (a' := ?_) #[true, true, true, true, true, true, true, true, true, true, true, true, true, true, true, true, true, false, false] rfl rfl (any_of HT_.out (by kernel_rfl)) (fun _ _ _ h => h) (Or.inl ⟨by rfl, ?_⟩) ?_ ?_
                                          rotate_left
                                          · intro w'
                                            go_simp
                                            with_reducible rfl
                                          rotate_left
                                          · simp only [Act.put, List.setIfInBounds_toArray, List.set_cons_zero, List.set_cons_succ, i64_w, i32_w]
                                            rfl
                                          refine pure_ (i := 17) (N := some 110) (v := ?_) (a' := ?_) #[true, true, true, true, true, true, true, true, true, true, true, true, true, true, true, true, true, true, false] rfl rfl (any_of HT_.out (by kernel_rfl)) (fun _ _ _ h => h) (Or.inl ⟨by rfl, ?_⟩) ?_ ?_
                                          rotate_left
                                          · intro w'
                                            go_simp
                                            with_reducible rfl
                                          rotate_left
                                          · simp only [Act.put, List.setIfInBounds_toArray, List.set_cons_zero, List.set_cons_succ, i64_w, i32_w]
                                            rfl
                                          refine last_ (i := 18) (N := none) #[true, true, true, true, true, true, true, true, true, true, true, true, true, true, true, true, true, true, true] rfl rfl (one_of HT_.out (by kernel_rfl)) (by decide) (fun K hK => ?_)
                                          refine skip_ (w1 := ?_) (by rfl) rfl ?_ ?_
                                          rotate_left
                                          · go_simp
                                            rfl
                                          refine hK.out _ _ ?_
                                          clear hK K
                                          refine done_ (done_of HT_.out (by kernel_rfl)) ?_
                                          have n0_ : Aside0 (Kd.R k57 57 (w81.setCell ⟨go61, ((ji36) : Int).toNat * 2 + 1, none⟩ (.string (((rd_T57 y436 (ji36)).f1) ++ ((rd_T57 t429 0).f1)))) w.heap.size (fun k_ => some k_ ≠ (v421 : Value).ownBlock ∧ some k_ ≠ (v427 : Value).ownBlock ∧ some k_ ≠ (.slice (some ad445) t429.length co82 : Value).ownBlock ∧ some k_ ≠ (.slice (some ⟨go61, 0, none⟩) y436.length co80 : Value).ownBlock) (.slice Ao79 t415.length co79) t415) := ⟨by (with_reducible repeat (first | apply Kd.R_alloc | apply Kd.R_drewN | apply Kd.R_drew)); exact Kd.R_mono (Kd.R_far (p := ⟨go61, ((ji36) : Int).toNat * 2 + 1, none⟩) (Kd.R_mono HO_5.out (fun k_ hk => (⟨hk, fun e_ => hk.2 (by rw [e_]; rfl)⟩ : _ ∧ k_ ≠ go61))) (fun _ hk => hk.2) (.string (((rd_T57 y436 (ji36)).f1) ++ ((rd_T57 t429 0).f1)))) (fun _ hk => ⟨hk.1.1.1, ⟨hk.1.1.2.1, ⟨hk.1.1.2.2, hk.1.2⟩⟩⟩)⟩
                                          have n1_ : Aside0 (Kd.R k57 57 (w81.setCell ⟨go61, ((ji36) : Int).toNat * 2 + 1, none⟩ (.string (((rd_T57 y436 (ji36)).f1) ++ ((rd_T57 t429 0).f1)))) w.heap.size (fun k_ => some k_ ≠ (.slice Ao79 t415.length co79 : Value).ownBlock ∧ some k_ ≠ (v427 : Value).ownBlock ∧ some k_ ≠ (.slice (some ad445) t429.length co82 : Value).ownBlock ∧ some k_ ≠ (.slice (some ⟨go61, 0, none⟩) y436.length co80 : Value).ownBlock) v421 t419) := ⟨by (with_reducible repeat (first | apply Kd.R_alloc | apply Kd.R_drewN | apply Kd.R_drew)); exact Kd.R_mono (Kd.R_far (p := ⟨go61, ((ji36) : Int).toNat * 2 + 1, none⟩) (Kd.R_mono HO_7.out (fun k_ hk => (⟨hk, fun e_ => hk.2 (by rw [e_]; rfl)⟩ : _ ∧ k_ ≠ go61))) (fun _ hk => hk.2) (.string (((rd_T57 y436 (ji36)).f1) ++ ((rd_T57 t429 0).f1)))) (fun _ hk => ⟨hk.1.1.1, ⟨hk.1.1.2.1, ⟨hk.1.1.2.2, hk.1.2⟩⟩⟩)⟩
                                          have n2_ : Aside0 (Kd.R k57 57 (w81.setCell ⟨go61, ((ji36) : Int).toNat * 2 + 1, none⟩ (.string (((rd_T57 y436 (ji36)).f1) ++ ((rd_T57 t429 0).f1)))) w.heap.size (fun k_ => some k_ ≠ (.slice Ao79 t415.length co79 : Value).ownBlock ∧ some k_ ≠ (v421 : Value).ownBlock ∧ some k_ ≠ (.slice (some ad445) t429.length co82 : Value).ownBlock ∧ some k_ ≠ (.slice (some ⟨go61, 0, none⟩) y436.length co80 : Value).ownBlock) v427 t425) := ⟨by (with_reducible repeat (first | apply Kd.R_alloc | apply Kd.R_drewN | apply Kd.R_drew)); exact Kd.R_mono (Kd.R_far (p := ⟨go61, ((ji36) : Int).toNat * 2 + 1, none⟩) (Kd.R_mono HO_9.out (fun k_ hk => (⟨hk, fun e_ => hk.2 (by rw [e_]; rfl)⟩ : _ ∧ k_ ≠ go61))) (fun _ hk => hk.2) (.string (((rd_T57 y436 (ji36)).f1) ++ ((rd_T57 t429 0).f1)))) (fun _ hk => ⟨hk.1.1.1, ⟨hk.1.1.2.1, ⟨hk.1.1.2.2, hk.1.2⟩⟩⟩)⟩
                                          have n3_ : Aside0 (Kd.R k57 57 (w81.setCell ⟨go61, ((ji36) : Int).toNat * 2 + 1, none⟩ (.string (((rd_T57 y436 (ji36)).f1) ++ ((rd_T57 t429 0).f1)))) w.heap.size (fun k_ => some k_ ≠ (.slice Ao79 t415.length co79 : Value).ownBlock ∧ some k_ ≠ (v421 : Value).ownBlock ∧ some k_ ≠ (v427 : Value).ownBlock ∧ some k_ ≠ (.slice (some ⟨go61, 0, none⟩) y436.length co80 : Value).ownBlock) (.slice (some ad445) t429.length co82) t429) := ⟨by (with_reducible repeat (first | apply Kd.R_alloc | apply Kd.R_drewN | apply Kd.R_drew)); exact Kd.R_mono (Kd.R_far (p := ⟨go61, ((ji36) : Int).toNat * 2 + 1, none⟩) (Kd.R_mono HO_11.out (fun k_ hk => (⟨hk, fun e_ => hk.2 (by rw [e_]; rfl)⟩ : _ ∧ k_ ≠ go61))) (fun _ hk => hk.2) (.string (((rd_T57 y436 (ji36)).f1) ++ ((rd_T57 t429 0).f1)))) (fun _ hk => ⟨hk.1.1.1, ⟨hk.1.1.2.1, ⟨hk.1.1.2.2, hk.1.2⟩⟩⟩)⟩
                                          have n4_ : Aside0 (Kd.R k57 57 (w81.setCell ⟨go61, ((ji36) : Int).toNat * 2 + 1, none⟩ (.string (((rd_T57 y436 (ji36)).f1) ++ ((rd_T57 t429 0).f1)))) w.heap.size (fun k_ => some k_ ≠ (.slice Ao79 t415.length co79 : Value).ownBlock ∧ some k_ ≠ (v421 : Value).ownBlock ∧ some k_ ≠ (v427 : Value).ownBlock ∧ some k_ ≠ (.slice (some ad445) t429.length co82 : Value).ownBlock) (.slice (some ⟨go61, 0, none⟩) y436.length co80) y446) := ⟨by (with_reducible repeat (first | apply Kd.R_alloc | apply Kd.R_drewN | apply Kd.R_drew)); exact HQ83.out⟩
                                          have n5_ : Aside0 (Below w.heap.size w (w81.setCell ⟨go61, ((ji36) : Int).toNat * 2 + 1, none⟩ (.string (((rd_T57 y436 (ji36)).f1) ++ ((rd_T57 t429 0).f1))))) := ⟨by repeat (first | (with_reducible first | exact HB.out | apply below_alloc | apply pw_below_drewN | apply below_drew1 | refine below_set ?_ GB61.out) | exact HB.out)⟩
                                          (try clear HO_5)
                                          (try clear HO_7)
                                          (try clear HO_9)
                                          (try clear HO_11)
                                          (try clear HO438)
                                          (try clear HB)
                                          generalize (w81.setCell ⟨go61, ((ji36) : Int).toNat * 2 + 1, none⟩ (.string (((rd_T57 y436 (ji36)).f1) ++ ((rd_T57 t429 0).f1)))) = w84 at n0_ n1_ n2_ n3_ n4_ n5_ ⊢
                                          have HO_5 := n0_
                                          have HO_7 := n1_
                                          have HO_9 := n2_
                                          have HO_11 := n3_
                                          have HO438 := n4_
                                          have HB := n5_
                                          clear n0_ n1_ n2_ n3_ n4_ n5_
                                          have q85 : (1 : Int) ≤ ((t429.length : Int) : Int) := of_decide_eq_true (by first | (with_reducible assumption) | assumption)
                                          obtain ⟨i085, hi085, _, hsz85, _⟩ := info_parts info57
                                          have hroom85 : t429.length ≤ co82 := (Kd.R_reads' HO_11.out).2.1
                                          have hC85 : Kd.C k57 _ (some ad445) t429.length t429 := (Kd.R_reads' HO_11.out).2.2
                                          have hcut85 := cut_from (P := Try.prog) 48 57 .i64 Try.underlying48 hi085 2 hsz85 (some ad445) t429.length co82 1 (by omega) q85
                                          have hr85 := Kd.C_drop (m := (1 : Int).toNat) (c := co82) hC85 (by omega) hroom85
                                          obtain ⟨A85, hA85⟩ : ∃ A1, A1 = (if co82 = (1 : Int).toNat then (some ad445) else ((some ad445) : Option Addr).map (·.add ((1 : Int).toNat * 2))) := ⟨_, rfl⟩
                                          obtain ⟨c85, hc85⟩ : ∃ c1, c1 = co82 - (1 : Int).toNat := ⟨_, rfl⟩
                                          have hy85 : y447.length = t429.length - (1 : Int).toNat := (by rw [Ny447.out, List.length_drop] <;> omega)
                                          rw [show (t429).drop (1 : Int).toNat = y447 from Ny447.out.symm] at hr85
                                          replace hr85 : Kd.C k57 _ A85 y447.length y447 := (by rw [hA85]; exact hr85)
                                          rw [← hy85, ← hA85, ← hc85] at hcut85
                                          have HR450 := Aside0.mk hr85
                                          have HC450 := Aside0.mk (show y447.length ≤ c85 from by rw [hy85, hc85]; exact Nat.sub_le_sub_right hroom85 _)
                                          clear hr85 hC85 hroom85 hi085 hsz85 hc85
                                          have KY85 := Aside0.mk hy85
                                          have KA85 := Aside0.mk hA85
                                          clear hy85 hA85
                                          have KL85 := Aside0.mk (show 1 ≤ t429.length from by omega)
                                          replace q85 := eq_true q85
                                          try go_wp2_with (first | ((with_reducible refine gate_builtin (b := .append) (xs := #[.tmp 111, .tmp 113]) rfl ?_); (try (refine gate_guard (by rfl) ?_; dsimp only)); at_builtin; refine Kd.R_append_rows k57 (w0 := w) w.heap.size rfl (.tmp 111) (.tmp 113) 48 57 (.agg #[(.bool false), (.string ⟨#[]⟩)]) 24 rfl Try.underlying48 info57 rfl (by decide) (by omega) (.slice (some ⟨go61, 0, none⟩) y436.length co80) y446 y447 _ _ _ (fun k_ => some k_ ≠ (.slice Ao79 t415.length co79 : Value).ownBlock ∧ some k_ ≠ (v421 : Value).ownBlock ∧ some k_ ≠ (v427 : Value).ownBlock ∧ some k_ ≠ (.slice (some ad445) t429.length co82 : Value).ownBlock) (fun _ => False) rfl rfl ?aO ?aR (fun _ _ h => h) (fun _ h => h.elim) ?aF ?aB ?aS ?aL ?_; (case aR => repeat (first | exact (by repeat (first | (with_reducible exact HR450.out) | (with_reducible refine Kd.C_alloc ?_ _) | (with_reducible refine Kd.C_drewN ?_ _) | (with_reducible refine Kd.C_drew ?_) | exact HR450.out)) | (with_reducible refine Kd.C_alloc ?_ _) | (with_reducible refine Kd.C_drewN ?_ _) | (with_reducible refine Kd.C_drew ?_))); (case aB => exact (by repeat (first | (with_reducible first | exact HB.out | apply below_alloc | apply pw_below_drewN | apply below_drew1) | exact HB.out))); (case aF => exact (fun k_ hk => ⟨Kd.fresh' (Kd.R_lt (by (with_reducible repeat (first | apply Kd.R_alloc | apply Kd.R_drewN | apply Kd.R_drew)); exact HO_5.out)) k_ hk, Kd.fresh' (Kd.R_lt (by (with_reducible repeat (first | apply Kd.R_alloc | apply Kd.R_drewN | apply Kd.R_drew)); exact HO_7.out)) k_ hk, Kd.fresh' (Kd.R_lt (by (with_reducible repeat (first | apply Kd.R_alloc | apply Kd.R_drewN | apply Kd.R_drew)); exact HO_9.out)) k_ hk, Kd.fresh' (Kd.R_lt (by (with_reducible repeat (first | apply Kd.R_alloc | apply Kd.R_drewN | apply Kd.R_drew)); exact HO_11.out)) k_ hk⟩)); (case aO => exact (by (with_reducible repeat (first | apply Kd.R_alloc | apply Kd.R_drewN | apply Kd.R_drew)); exact HO438.out)); (case aS => exact (below_size (by repeat (first | (with_reducible first | exact HB.out | apply below_alloc | apply pw_below_drewN | apply below_drew1) | exact HB.out)))); (case aL => have := LMc63.out; omega); intro v452 w86 ho hb hg hat; rw [← Ny451.out] at ho; have n0_ := Aside0.mk (Kd.R_after (ok := (fun k_ => some k_ ≠ (v421 : Value).ownBlock ∧ some k_ ≠ (v427 : Value).ownBlock ∧ some k_ ≠ (.slice (some ad445) t429.length co82 : Value).ownBlock)) (by (with_reducible repeat (first | apply Kd.R_alloc | apply Kd.R_drewN | apply Kd.R_drew)); exact Kd.R_mono HO_5.out (fun _ hk => ⟨⟨hk.1, ⟨hk.2.1, hk.2.2.1⟩⟩, hk.2.2.2⟩)) hg hat); have n1_ := Aside0.mk (Kd.R_after (ok := (fun k_ => some k_ ≠ (.slice Ao79 t415.length co79 : Value).ownBlock ∧ some k_ ≠ (v427 : Value).ownBlock ∧ some k_ ≠ (.slice (some ad445) t429.length co82 : Value).ownBlock)) (by (with_reducible repeat (first | apply Kd.R_alloc | apply Kd.R_drewN | apply Kd.R_drew)); exact Kd.R_mono HO_7.out (fun _ hk => ⟨⟨hk.1, ⟨hk.2.1, hk.2.2.1⟩⟩, hk.2.2.2⟩)) hg hat); have n2_ := Aside0.mk (Kd.R_after (ok := (fun k_ => some k_ ≠ (.slice Ao79 t415.length co79 : Value).ownBlock ∧ some k_ ≠ (v421 : Value).ownBlock ∧ some k_ ≠ (.slice (some ad445) t429.length co82 : Value).ownBlock)) (by (with_reducible repeat (first | apply Kd.R_alloc | apply Kd.R_drewN | apply Kd.R_drew)); exact Kd.R_mono HO_9.out (fun _ hk => ⟨⟨hk.1, ⟨hk.2.1, hk.2.2.1⟩⟩, hk.2.2.2⟩)) hg hat); have n3_ := Aside0.mk (Kd.R_after (ok := (fun k_ => some k_ ≠ (.slice Ao79 t415.length co79 : Value).ownBlock ∧ some k_ ≠ (v421 : Value).ownBlock ∧ some k_ ≠ (v427 : Value).ownBlock)) (by (with_reducible repeat (first | apply Kd.R_alloc | apply Kd.R_drewN | apply Kd.R_drew)); exact Kd.R_mono HO_11.out (fun _ hk => ⟨⟨hk.1, ⟨hk.2.1, hk.2.2.1⟩⟩, hk.2.2.2⟩)) hg hat); have n4_ := Aside0.mk (hb); have n5_ := Aside0.mk ((show Kd.C k57 w86 A85 y447.length y447 from by rw [Ny447.out, KA85.out]; exact Kd.C_drop (m := 1) (c := co82) ((Kd.R_reads' (Kd.R_after (ok := (fun k_ => some k_ ≠ (.slice Ao79 t415.length co79 : Value).ownBlock ∧ some k_ ≠ (v421 : Value).ownBlock ∧ some k_ ≠ (v427 : Value).ownBlock)) (by (with_reducible repeat (first | apply Kd.R_alloc | apply Kd.R_drewN | apply Kd.R_drew)); exact Kd.R_mono HO_11.out (fun _ hk => ⟨⟨hk.1, ⟨hk.2.1, hk.2.2.1⟩⟩, hk.2.2.2⟩)) hg hat)).2.2) KL85.out ((Kd.R_reads' (Kd.R_after (ok := (fun k_ => some k_ ≠ (.slice Ao79 t415.length co79 : Value).ownBlock ∧ some k_ ≠ (v421 : Value).ownBlock ∧ some k_ ≠ (v427 : Value).ownBlock)) (by (with_reducible repeat (first | apply Kd.R_alloc | apply Kd.R_drewN | apply Kd.R_drew)); exact Kd.R_mono HO_11.out (fun _ hk => ⟨⟨hk.1, ⟨hk.2.1, hk.2.2.1⟩⟩, hk.2.2.2⟩)) hg hat)).2.1))); have n6_ := Aside0.mk (ho); clear HO_5; clear HO_7; clear HO_9; clear HO_11; clear HB; clear HR450; clear HO438; have HO_5 := n0_; have HO_7 := n1_; have HO_9 := n2_; have HO_11 := n3_; have HB := n4_; have HR450 := n5_; have HO453 := n6_; clear n0_ n1_ n2_ n3_ n4_ n5_ n6_; clear ho hb hg hat; obtain ⟨Ao87, co87, eo87⟩ := Kd.R_slice HO_9.out; subst eo87; obtain ⟨Ao88, co88, eo88⟩ := Kd.R_slice HO453.out; subst eo88) | ((with_reducible refine gate_callee (f := 37) rfl ?_); refine goesL_ (some 120) rfl rfl Try.func37 (by kernel_rfl) rfl #[.slice Ao87 t425.length co87, .slice Ao88 y451.length co88] rfl (by (try simp only [List.map_toArray, List.map_cons, List.map_nil]); first | done | rfl | (simp only [List.length_drop, List.length_take]; rfl)) ?_; (with_reducible refine (cruciblelaw0_SamePieces.calls kj21 _ _ t425 _ _ y451 false _ ?side1 ?side2 ?side3 ?side4 A64.out).mono ?_); (case side1 => repeat (first | exact (Kd.R_reads' HO_9.out).2.2 | (with_reducible refine Kd.C_alloc ?_ _) | (with_reducible refine Kd.C_drewN ?_ _) | (with_reducible refine Kd.C_drew ?_))); (case side2 => exact (Kd.R_reads' HO_9.out).2.1); (case side3 => repeat (first | exact (Kd.R_reads' HO453.out).2.2 | (with_reducible refine Kd.C_alloc ?_ _) | (with_reducible refine Kd.C_drewN ?_ _) | (with_reducible refine Kd.C_drew ?_))); (case side4 => exact (Kd.R_reads' HO453.out).2.1); rintro e w' ⟨rfl, ⟨nd, rfl⟩⟩; refine ⟨_, rfl, ?_⟩))
                                          go_ret
                                          exact ⟨by first | rfl | (simp [errW_none, errW_some] <;> rfl) | (simp only [← hji36]; first | rfl | (simp [errW_none, errW_some] <;> rfl)) | (simp [*, errW_none, errW_some] <;> rfl), by repeat (first | (with_reducible first | exact HB.out | apply below_alloc | apply pw_below_drewN | apply below_drew1) | exact HB.out)⟩
                                      · rw [if_neg c63] at H
                                        exact absurd H (by simp)
                                    · rw [if_neg c62] at H
                                      exact absurd H (by simp)
                                  · rw [if_neg c60] at H
                                    exact absurd H (by simp)
                                · rw [if_neg c59] at H
                                  exact absurd H (by simp)
                            · rw [if_neg c38] at H
                              exact absurd H (by simp)
                          · rw [if_neg c37] at H
                            exact absurd H (by simp)
                        · rw [if_neg c35] at H
                          have c35b0 : decide (0 < (y436.length : Int)) = false := decide_eq_false c35
                          have c35b1 : decide (0 < y436.length) = false := decide_eq_false (by omega)
                          clear c35
                          by_cases c89 : y436.length + t429.length < 5864062014805
                          · rw [if_pos c89] at H
                            have LMc89 := Aside0.mk c89
                            clear c89
                            obtain ⟨y455, hy455⟩ : ∃ y_ : List (S57), y_ = (y436 ++ t429) := ⟨_, rfl⟩
                            replace H : ((cruciblelaw0_SamePieces.f kj21 t425 y455).bind fun t458 => (if t458 = true then (some (decide ((t419.length : Int) ≤ (t429.length : Int)))) else (some false))) = some r := by first | (rw [hy455]; with_reducible exact H) | (have H2_ := (Option.bind_some _ _).symm.trans H; rw [hy455]; with_reducible exact H2_) | (have H2_ := (Option.bind_some _ _).symm.trans H; with_reducible exact H2_) | with_reducible exact H | (rw [hy455]; exact H) | exact H
                            have Ny455 := Aside0.mk hy455
                            clear hy455
                            replace H := Option.bind_eq_some_iff.mp H
                            obtain ⟨t458, A900, H⟩ := H
                            replace H : (if t458 = true then (some (decide ((t419.length : Int) ≤ (t429.length : Int)))) else (some false)) = some r := H
                            have A90 := Aside0.mk A900
                            clear A900
                            by_cases c91 : t458 = true
                            · subst c91
                              have H1 : (some (decide ((t419.length : Int) ≤ (t429.length : Int)))) = some r := by rw [if_pos rfl] at H; exact H
                              clear H
                              have H := H1
                              clear H1
                              obtain rfl := Option.some.inj H
                              obtain ⟨Ao93, co93, eo93⟩ := Kd.R_slice HO_5.out
                              subst eo93
                              go_wp2_with (first | ((with_reducible refine gate_builtin (b := .append) (xs := #[.tmp 77, .tmp 78]) rfl ?_); (try (refine gate_guard (by rfl) ?_; dsimp only)); at_builtin; refine Kd.R_append_rows k57 (w0 := w) w.heap.size rfl (.tmp 77) (.tmp 78) 48 57 (.agg #[(.bool false), (.string ⟨#[]⟩)]) 24 rfl Try.underlying48 info57 rfl (by decide) (by omega) (.slice none 0 0) ([] : List (S57)) t415 _ _ _ (fun k_ => some k_ ≠ (.slice Ao93 t415.length co93 : Value).ownBlock ∧ some k_ ≠ (v421 : Value).ownBlock ∧ some k_ ≠ (v427 : Value).ownBlock ∧ some k_ ≠ (v431 : Value).ownBlock) (fun _ => False) rfl rfl ?aO ?aR (fun _ _ h => h) (fun _ h => h.elim) ?aF ?aB ?aS ?aL ?_; (case aR => repeat (first | exact (Kd.R_reads' HO_5.out).2.2 | (with_reducible refine Kd.C_alloc ?_ _) | (with_reducible refine Kd.C_drewN ?_ _) | (with_reducible refine Kd.C_drew ?_))); (case aB => exact (by repeat (first | (with_reducible first | exact HB.out | apply below_alloc | apply pw_below_drewN | apply below_drew1) | exact HB.out))); (case aF => exact (fun k_ hk => ⟨Kd.fresh' (Kd.R_lt (by (with_reducible repeat (first | apply Kd.R_alloc | apply Kd.R_drewN | apply Kd.R_drew)); exact HO_5.out)) k_ hk, Kd.fresh' (Kd.R_lt (by (with_reducible repeat (first | apply Kd.R_alloc | apply Kd.R_drewN | apply Kd.R_drew)); exact HO_7.out)) k_ hk, Kd.fresh' (Kd.R_lt (by (with_reducible repeat (first | apply Kd.R_alloc | apply Kd.R_drewN | apply Kd.R_drew)); exact HO_9.out)) k_ hk, Kd.fresh' (Kd.R_lt (by (with_reducible repeat (first | apply Kd.R_alloc | apply Kd.R_drewN | apply Kd.R_drew)); exact HO_11.out)) k_ hk⟩)); (case aO => exact ((Kd.R_nil _ _ _ _ (fun k_ => some k_ ≠ (.slice Ao93 t415.length co93 : Value).ownBlock ∧ some k_ ≠ (v421 : Value).ownBlock ∧ some k_ ≠ (v427 : Value).ownBlock ∧ some k_ ≠ (v431 : Value).ownBlock)))); (case aS => exact (below_size (by repeat (first | (with_reducible first | exact HB.out | apply below_alloc | apply pw_below_drewN | apply below_drew1) | exact HB.out)))); (case aL => have := LMc34.out; omega); intro v437 w92 ho hb hg hat; rw [← Ny436.out] at ho; have n0_ := Aside0.mk (Kd.R_after (Kd.R_apart_nil (by (with_reducible repeat (first | apply Kd.R_alloc | apply Kd.R_drewN | apply Kd.R_drew)); exact HO_5.out)) hg hat); have n1_ := Aside0.mk (Kd.R_after (Kd.R_apart_nil (by (with_reducible repeat (first | apply Kd.R_alloc | apply Kd.R_drewN | apply Kd.R_drew)); exact HO_7.out)) hg hat); have n2_ := Aside0.mk (Kd.R_after (Kd.R_apart_nil (by (with_reducible repeat (first | apply Kd.R_alloc | apply Kd.R_drewN | apply Kd.R_drew)); exact HO_9.out)) hg hat); have n3_ := Aside0.mk (Kd.R_after (Kd.R_apart_nil (by (with_reducible repeat (first | apply Kd.R_alloc | apply Kd.R_drewN | apply Kd.R_drew)); exact HO_11.out)) hg hat); have n4_ := Aside0.mk (hb); have n5_ := Aside0.mk (ho); clear HO_5; clear HO_7; clear HO_9; clear HO_11; clear HB; have HO_5 := n0_; have HO_7 := n1_; have HO_9 := n2_; have HO_11 := n3_; have HB := n4_; have HO438 := n5_; clear n0_ n1_ n2_ n3_ n4_ n5_; clear ho hb hg hat; obtain ⟨Ao94, co94, eo94⟩ := Kd.R_slice HO438.out; subst eo94; obtain ⟨Ao96, co96, eo96⟩ := Kd.R_slice HO_11.out; subst eo96) | ((with_reducible refine gate_builtin (b := .append) (xs := #[.tmp 115, .tmp 116]) rfl ?_); (try (refine gate_guard (by rfl) ?_; dsimp only)); at_builtin; refine Kd.R_append_rows k57 (w0 := w) w.heap.size rfl (.tmp 115) (.tmp 116) 48 57 (.agg #[(.bool false), (.string ⟨#[]⟩)]) 24 rfl Try.underlying48 info57 rfl (by decide) (by omega) (.slice Ao94 y436.length co94) y436 t429 _ _ _ (fun k_ => some k_ ≠ (.slice Ao93 t415.length co93 : Value).ownBlock ∧ some k_ ≠ (v421 : Value).ownBlock ∧ some k_ ≠ (v427 : Value).ownBlock ∧ some k_ ≠ (.slice Ao96 t429.length co96 : Value).ownBlock) (fun _ => False) rfl rfl ?aO ?aR (fun _ _ h => h) (fun _ h => h.elim) ?aF ?aB ?aS ?aL ?_; (case aR => repeat (first | exact (Kd.R_reads' HO_11.out).2.2 | (with_reducible refine Kd.C_alloc ?_ _) | (with_reducible refine Kd.C_drewN ?_ _) | (with_reducible refine Kd.C_drew ?_))); (case aB => exact (by repeat (first | (with_reducible first | exact HB.out | apply below_alloc | apply pw_below_drewN | apply below_drew1) | exact HB.out))); (case aF => exact (fun k_ hk => ⟨Kd.fresh' (Kd.R_lt (by (with_reducible repeat (first | apply Kd.R_alloc | apply Kd.R_drewN | apply Kd.R_drew)); exact HO_5.out)) k_ hk, Kd.fresh' (Kd.R_lt (by (with_reducible repeat (first | apply Kd.R_alloc | apply Kd.R_drewN | apply Kd.R_drew)); exact HO_7.out)) k_ hk, Kd.fresh' (Kd.R_lt (by (with_reducible repeat (first | apply Kd.R_alloc | apply Kd.R_drewN | apply Kd.R_drew)); exact HO_9.out)) k_ hk, Kd.fresh' (Kd.R_lt (by (with_reducible repeat (first | apply Kd.R_alloc | apply Kd.R_drewN | apply Kd.R_drew)); exact HO_11.out)) k_ hk⟩)); (case aO => exact (by (with_reducible repeat (first | apply Kd.R_alloc | apply Kd.R_drewN | apply Kd.R_drew)); exact HO438.out)); (case aS => exact (below_size (by repeat (first | (with_reducible first | exact HB.out | apply below_alloc | apply pw_below_drewN | apply below_drew1) | exact HB.out)))); (case aL => have := LMc89.out; omega); intro v456 w95 ho hb hg hat; rw [← Ny455.out] at ho; have n0_ := Aside0.mk (Kd.R_after (ok := (fun k_ => some k_ ≠ (v421 : Value).ownBlock ∧ some k_ ≠ (v427 : Value).ownBlock ∧ some k_ ≠ (.slice Ao96 t429.length co96 : Value).ownBlock)) (by (with_reducible repeat (first | apply Kd.R_alloc | apply Kd.R_drewN | apply Kd.R_drew)); exact HO_5.out) hg hat); have n1_ := Aside0.mk (Kd.R_after (ok := (fun k_ => some k_ ≠ (.slice Ao93 t415.length co93 : Value).ownBlock ∧ some k_ ≠ (v427 : Value).ownBlock ∧ some k_ ≠ (.slice Ao96 t429.length co96 : Value).ownBlock)) (by (with_reducible repeat (first | apply Kd.R_alloc | apply Kd.R_drewN | apply Kd.R_drew)); exact HO_7.out) hg hat); have n2_ := Aside0.mk (Kd.R_after (ok := (fun k_ => some k_ ≠ (.slice Ao93 t415.length co93 : Value).ownBlock ∧ some k_ ≠ (v421 : Value).ownBlock ∧ some k_ ≠ (.slice Ao96 t429.length co96 : Value).ownBlock)) (by (with_reducible repeat (first | apply Kd.R_alloc | apply Kd.R_drewN | apply Kd.R_drew)); exact HO_9.out) hg hat); have n3_ := Aside0.mk (Kd.R_after (ok := (fun k_ => some k_ ≠ (.slice Ao93 t415.length co93 : Value).ownBlock ∧ some k_ ≠ (v421 : Value).ownBlock ∧ some k_ ≠ (v427 : Value).ownBlock)) (by (with_reducible repeat (first | apply Kd.R_alloc | apply Kd.R_drewN | apply Kd.R_drew)); exact HO_11.out) hg hat); have n4_ := Aside0.mk (hb); have n5_ := Aside0.mk (ho); clear HO_5; clear HO_7; clear HO_9; clear HO_11; clear HB; clear HO438; have HO_5 := n0_; have HO_7 := n1_; have HO_9 := n2_; have HO_11 := n3_; have HB := n4_; have HO457 := n5_; clear n0_ n1_ n2_ n3_ n4_ n5_; clear ho hb hg hat; obtain ⟨Ao97, co97, eo97⟩ := Kd.R_slice HO_9.out; subst eo97; obtain ⟨Ao98, co98, eo98⟩ := Kd.R_slice HO457.out; subst eo98) | ((with_reducible refine gate_callee (f := 37) rfl ?_); refine goesL_ (some 120) rfl rfl Try.func37 (by kernel_rfl) rfl #[.slice Ao97 t425.length co97, .slice Ao98 y455.length co98] rfl (by (try simp only [List.map_toArray, List.map_cons, List.map_nil]); first | done | rfl | (simp only [List.length_drop, List.length_take]; rfl)) ?_; (with_reducible refine (cruciblelaw0_SamePieces.calls kj21 _ _ t425 _ _ y455 true _ ?side1 ?side2 ?side3 ?side4 A90.out).mono ?_); (case side1 => repeat (first | exact (Kd.R_reads' HO_9.out).2.2 | (with_reducible refine Kd.C_alloc ?_ _) | (with_reducible refine Kd.C_drewN ?_ _) | (with_reducible refine Kd.C_drew ?_))); (case side2 => exact (Kd.R_reads' HO_9.out).2.1); (case side3 => repeat (first | exact (Kd.R_reads' HO457.out).2.2 | (with_reducible refine Kd.C_alloc ?_ _) | (with_reducible refine Kd.C_drewN ?_ _) | (with_reducible refine Kd.C_drew ?_))); (case side4 => exact (Kd.R_reads' HO457.out).2.1); rintro e w' ⟨rfl, ⟨nd, rfl⟩⟩; refine ⟨_, rfl, ?_⟩; obtain ⟨Ao99, co99, eo99⟩ := Kd.R_slice HO_7.out; subst eo99))
                              go_ret
                              exact ⟨by first | rfl | (simp [errW_none, errW_some] <;> rfl) | (simp [*, errW_none, errW_some] <;> rfl), by repeat (first | (with_reducible first | exact HB.out | apply below_alloc | apply pw_below_drewN | apply below_drew1) | exact HB.out)⟩
                            · replace c91 := Bool.eq_false_iff.mpr c91
                              subst c91
                              have H1 : (some false) = some r := by rw [if_neg (show ¬ (false = true) by decide)] at H; exact H
                              clear H
                              have H := H1
                              clear H1
                              obtain rfl := Option.some.inj H
                              obtain ⟨Ao101, co101, eo101⟩ := Kd.R_slice HO_5.out
                              subst eo101
                              go_wp2_with (first | ((with_reducible refine gate_builtin (b := .append) (xs := #[.tmp 77, .tmp 78]) rfl ?_); (try (refine gate_guard (by rfl) ?_; dsimp only)); at_builtin; refine Kd.R_append_rows k57 (w0 := w) w.heap.size rfl (.tmp 77) (.tmp 78) 48 57 (.agg #[(.bool false), (.string ⟨#[]⟩)]) 24 rfl Try.underlying48 info57 rfl (by decide) (by omega) (.slice none 0 0) ([] : List (S57)) t415 _ _ _ (fun k_ => some k_ ≠ (.slice Ao101 t415.length co101 : Value).ownBlock ∧ some k_ ≠ (v421 : Value).ownBlock ∧ some k_ ≠ (v427 : Value).ownBlock ∧ some k_ ≠ (v431 : Value).ownBlock) (fun _ => False) rfl rfl ?aO ?aR (fun _ _ h => h) (fun _ h => h.elim) ?aF ?aB ?aS ?aL ?_; (case aR => repeat (first | exact (Kd.R_reads' HO_5.out).2.2 | (with_reducible refine Kd.C_alloc ?_ _) | (with_reducible refine Kd.C_drewN ?_ _) | (with_reducible refine Kd.C_drew ?_))); (case aB => exact (by repeat (first | (with_reducible first | exact HB.out | apply below_alloc | apply pw_below_drewN | apply below_drew1) | exact HB.out))); (case aF => exact (fun k_ hk => ⟨Kd.fresh' (Kd.R_lt (by (with_reducible repeat (first | apply Kd.R_alloc | apply Kd.R_drewN | apply Kd.R_drew)); exact HO_5.out)) k_ hk, Kd.fresh' (Kd.R_lt (by (with_reducible repeat (first | apply Kd.R_alloc | apply Kd.R_drewN | apply Kd.R_drew)); exact HO_7.out)) k_ hk, Kd.fresh' (Kd.R_lt (by (with_reducible repeat (first | apply Kd.R_alloc | apply Kd.R_drewN | apply Kd.R_drew)); exact HO_9.out)) k_ hk, Kd.fresh' (Kd.R_lt (by (with_reducible repeat (first | apply Kd.R_alloc | apply Kd.R_drewN | apply Kd.R_drew)); exact HO_11.out)) k_ hk⟩)); (case aO => exact ((Kd.R_nil _ _ _ _ (fun k_ => some k_ ≠ (.slice Ao101 t415.length co101 : Value).ownBlock ∧ some k_ ≠ (v421 : Value).ownBlock ∧ some k_ ≠ (v427 : Value).ownBlock ∧ some k_ ≠ (v431 : Value).ownBlock)))); (case aS => exact (below_size (by repeat (first | (with_reducible first | exact HB.out | apply below_alloc | apply pw_below_drewN | apply below_drew1) | exact HB.out)))); (case aL => have := LMc34.out; omega); intro v437 w100 ho hb hg hat; rw [← Ny436.out] at ho; have n0_ := Aside0.mk (Kd.R_after (Kd.R_apart_nil (by (with_reducible repeat (first | apply Kd.R_alloc | apply Kd.R_drewN | apply Kd.R_drew)); exact HO_5.out)) hg hat); have n1_ := Aside0.mk (Kd.R_after (Kd.R_apart_nil (by (with_reducible repeat (first | apply Kd.R_alloc | apply Kd.R_drewN | apply Kd.R_drew)); exact HO_7.out)) hg hat); have n2_ := Aside0.mk (Kd.R_after (Kd.R_apart_nil (by (with_reducible repeat (first | apply Kd.R_alloc | apply Kd.R_drewN | apply Kd.R_drew)); exact HO_9.out)) hg hat); have n3_ := Aside0.mk (Kd.R_after (Kd.R_apart_nil (by (with_reducible repeat (first | apply Kd.R_alloc | apply Kd.R_drewN | apply Kd.R_drew)); exact HO_11.out)) hg hat); have n4_ := Aside0.mk (hb); have n5_ := Aside0.mk (ho); clear HO_5; clear HO_7; clear HO_9; clear HO_11; clear HB; have HO_5 := n0_; have HO_7 := n1_; have HO_9 := n2_; have HO_11 := n3_; have HB := n4_; have HO438 := n5_; clear n0_ n1_ n2_ n3_ n4_ n5_; clear ho hb hg hat; obtain ⟨Ao102, co102, eo102⟩ := Kd.R_slice HO438.out; subst eo102; obtain ⟨Ao104, co104, eo104⟩ := Kd.R_slice HO_11.out; subst eo104) | ((with_reducible refine gate_builtin (b := .append) (xs := #[.tmp 115, .tmp 116]) rfl ?_); (try (refine gate_guard (by rfl) ?_; dsimp only)); at_builtin; refine Kd.R_append_rows k57 (w0 := w) w.heap.size rfl (.tmp 115) (.tmp 116) 48 57 (.agg #[(.bool false), (.string ⟨#[]⟩)]) 24 rfl Try.underlying48 info57 rfl (by decide) (by omega) (.slice Ao102 y436.length co102) y436 t429 _ _ _ (fun k_ => some k_ ≠ (.slice Ao101 t415.length co101 : Value).ownBlock ∧ some k_ ≠ (v421 : Value).ownBlock ∧ some k_ ≠ (v427 : Value).ownBlock ∧ some k_ ≠ (.slice Ao104 t429.length co104 : Value).ownBlock) (fun _ => False) rfl rfl ?aO ?aR (fun _ _ h => h) (fun _ h => h.elim) ?aF ?aB ?aS ?aL ?_; (case aR => repeat (first | exact (Kd.R_reads' HO_11.out).2.2 | (with_reducible refine Kd.C_alloc ?_ _) | (with_reducible refine Kd.C_drewN ?_ _) | (with_reducible refine Kd.C_drew ?_))); (case aB => exact (by repeat (first | (with_reducible first | exact HB.out | apply below_alloc | apply pw_below_drewN | apply below_drew1) | exact HB.out))); (case aF => exact (fun k_ hk => ⟨Kd.fresh' (Kd.R_lt (by (with_reducible repeat (first | apply Kd.R_alloc | apply Kd.R_drewN | apply Kd.R_drew)); exact HO_5.out)) k_ hk, Kd.fresh' (Kd.R_lt (by (with_reducible repeat (first | apply Kd.R_alloc | apply Kd.R_drewN | apply Kd.R_drew)); exact HO_7.out)) k_ hk, Kd.fresh' (Kd.R_lt (by (with_reducible repeat (first | apply Kd.R_alloc | apply Kd.R_drewN | apply Kd.R_drew)); exact HO_9.out)) k_ hk, Kd.fresh' (Kd.R_lt (by (with_reducible repeat (first | apply Kd.R_alloc | apply Kd.R_drewN | apply Kd.R_drew)); exact HO_11.out)) k_ hk⟩)); (case aO => exact (by (with_reducible repeat (first | apply Kd.R_alloc | apply Kd.R_drewN | apply Kd.R_drew)); exact HO438.out)); (case aS => exact (below_size (by repeat (first | (with_reducible first | exact HB.out | apply below_alloc | apply pw_below_drewN | apply below_drew1) | exact HB.out)))); (case aL => have := LMc89.out; omega); intro v456 w103 ho hb hg hat; rw [← Ny455.out] at ho; have n0_ := Aside0.mk (Kd.R_after (ok := (fun k_ => some k_ ≠ (v421 : Value).ownBlock ∧ some k_ ≠ (v427 : Value).ownBlock ∧ some k_ ≠ (.slice Ao104 t429.length co104 : Value).ownBlock)) (by (with_reducible repeat (first | apply Kd.R_alloc | apply Kd.R_drewN | apply Kd.R_drew)); exact HO_5.out) hg hat); have n1_ := Aside0.mk (Kd.R_after (ok := (fun k_ => some k_ ≠ (.slice Ao101 t415.length co101 : Value).ownBlock ∧ some k_ ≠ (v427 : Value).ownBlock ∧ some k_ ≠ (.slice Ao104 t429.length co104 : Value).ownBlock)) (by (with_reducible repeat (first | apply Kd.R_alloc | apply Kd.R_drewN | apply Kd.R_drew)); exact HO_7.out) hg hat); have n2_ := Aside0.mk (Kd.R_after (ok := (fun k_ => some k_ ≠ (.slice Ao101 t415.length co101 : Value).ownBlock ∧ some k_ ≠ (v421 : Value).ownBlock ∧ some k_ ≠ (.slice Ao104 t429.length co104 : Value).ownBlock)) (by (with_reducible repeat (first | apply Kd.R_alloc | apply Kd.R_drewN | apply Kd.R_drew)); exact HO_9.out) hg hat); have n3_ := Aside0.mk (Kd.R_after (ok := (fun k_ => some k_ ≠ (.slice Ao101 t415.length co101 : Value).ownBlock ∧ some k_ ≠ (v421 : Value).ownBlock ∧ some k_ ≠ (v427 : Value).ownBlock)) (by (with_reducible repeat (first | apply Kd.R_alloc | apply Kd.R_drewN | apply Kd.R_drew)); exact HO_11.out) hg hat); have n4_ := Aside0.mk (hb); have n5_ := Aside0.mk (ho); clear HO_5; clear HO_7; clear HO_9; clear HO_11; clear HB; clear HO438; have HO_5 := n0_; have HO_7 := n1_; have HO_9 := n2_; have HO_11 := n3_; have HB := n4_; have HO457 := n5_; clear n0_ n1_ n2_ n3_ n4_ n5_; clear ho hb hg hat; obtain ⟨Ao105, co105, eo105⟩ := Kd.R_slice HO_9.out; subst eo105; obtain ⟨Ao106, co106, eo106⟩ := Kd.R_slice HO457.out; subst eo106) | ((with_reducible refine gate_callee (f := 37) rfl ?_); refine goesL_ (some 120) rfl rfl Try.func37 (by kernel_rfl) rfl #[.slice Ao105 t425.length co105, .slice Ao106 y455.length co106] rfl (by (try simp only [List.map_toArray, List.map_cons, List.map_nil]); first | done | rfl | (simp only [List.length_drop, List.length_take]; rfl)) ?_; (with_reducible refine (cruciblelaw0_SamePieces.calls kj21 _ _ t425 _ _ y455 false _ ?side1 ?side2 ?side3 ?side4 A90.out).mono ?_); (case side1 => repeat (first | exact (Kd.R_reads' HO_9.out).2.2 | (with_reducible refine Kd.C_alloc ?_ _) | (with_reducible refine Kd.C_drewN ?_ _) | (with_reducible refine Kd.C_drew ?_))); (case side2 => exact (Kd.R_reads' HO_9.out).2.1); (case side3 => repeat (first | exact (Kd.R_reads' HO457.out).2.2 | (with_reducible refine Kd.C_alloc ?_ _) | (with_reducible refine Kd.C_drewN ?_ _) | (with_reducible refine Kd.C_drew ?_))); (case side4 => exact (Kd.R_reads' HO457.out).2.1); rintro e w' ⟨rfl, ⟨nd, rfl⟩⟩; refine ⟨_, rfl, ?_⟩))
                              go_ret
                              exact ⟨by first | rfl | (simp [errW_none, errW_some] <;> rfl) | (simp [*, errW_none, errW_some] <;> rfl), by repeat (first | (with_reducible first | exact HB.out | apply below_alloc | apply pw_below_drewN | apply below_drew1) | exact HB.out)⟩
                          · rw [if_neg c89] at H
                            exact absurd H (by simp)
                      · rw [if_neg c34] at H
                        exact absurd H (by simp)
              · rw [if_neg c20] at H
                exact absurd H (by simp)
            · rw [if_neg c18] at H
              exact absurd H (by simp)
          · rw [if_neg c17] at H
            exact absurd H (by simp)
  · replace c4 := Bool.eq_false_iff.mpr c4
    subst c4
    have H1 : (some false) = some r := by rw [if_neg (show ¬ (false = true) by decide)] at H; exact H
    clear H
    have H := H1
    clear H1
    obtain rfl := Option.some.inj H
    go_enter Try.func14, Try.ntmps14
    go_wp2_with (first | ((with_reducible refine gate_callee (f := 39) rfl ?_); refine goesL_ (some 14) rfl rfl Try.func39 (by kernel_rfl) rfl #[] rfl (by (try simp only [List.map_toArray, List.map_cons, List.map_nil]); first | done | rfl | (simp only [List.length_drop, List.length_take]; rfl)) ?_; (with_reducible refine (cruciblelaw3_awake.calls k  false _ A3.out).mono ?_); rintro e w107 ⟨rfl, hb⟩; refine ⟨_, rfl, ?_⟩; have n0_ := Aside0.mk (below_step (by repeat (first | (with_reducible first | exact HB.out | apply below_alloc | apply pw_below_drewN | apply below_drew1) | exact HB.out)) hb); clear HB; have HB := n0_; clear n0_; (try clear hb); (try clear hb2); (try clear hk); (try clear hi)))
    go_ret
    exact ⟨by first | rfl | (simp [errW_none, errW_some] <;> rfl) | (simp [*, errW_none, errW_some] <;> rfl), by repeat (first | (with_reducible first | exact HB.out | apply below_alloc | apply pw_below_drewN | apply below_drew1) | exact HB.out)⟩

/-- THE ONE PURE STATEMENT of cruciblelaw3_PieceTwo: yours. -/
def cruciblelaw3_PieceTwo.Pure : Prop := ∀ (a0 : ByteArray) (a1 : ByteArray), a0.size ≤ 140737488351232 → a1.size ≤ 140737488351232 → ∃ k, cruciblelaw3_PieceTwo.f k a0 a1 = some true
theorem cruciblelaw3_PieceTwo.walk (P : cruciblelaw3_PieceTwo.Pure) (a0 : ByteArray) (a1 : ByteArray) (w : World) (w0 : a0.size ≤ 140737488351232) (w1 : a1.size ≤ 140737488351232) :
    Calls Try.prog 14 #[.string a0, .string a1] w fun e w' => e = .returned (.bool true) ∧ Below w.heap.size w w' := by
  obtain ⟨k, h⟩ := P a0 a1 w0 w1
  refine (cruciblelaw3_PieceTwo.calls k a0 a1 true w h).mono ?_
  rintro e w' ⟨rfl, hd⟩
  exact ⟨rfl, hd⟩

end Go.Proofs.Ytchkgljhklfhnaa.Print
