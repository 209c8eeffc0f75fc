/- YtefheailchihaaaGreatDoorSf3: out of this seat's texts (wip/tools/shake.py), what is needed alone. -/
import Derived.Test.YtefheailchihaaaGreatDoorSf2
section
namespace Go.Proofs.YtefheailchihaaaGreatDoor.Print
open Go.RowKit Go.Proofs.YtefheailchihaaaGreatDoorW.PrintWords Go.Proofs.YtefheailchihaaaGreatDoorW.PrintLast Go.Proofs.YtefheailchihaaaGreatDoorW.PrintMore
attribute [local go_sem] max2_int min2_int max_two min_two max_three min_three max_four min_four   -- for this text's walks alone
set_option linter.unusedVariables false
set_option linter.unusedSimpArgs false

open List World
set_option maxHeartbeats 8000000 in
set_option maxRecDepth 100000 in
theorem crucibleref1_GraphMay.calls (k : Nat) (A0_0 : Option Addr) (c0_0 : Nat) (e0 : List (S42)) (A0_1 : Option Addr) (c0_1 : Nat) (e1 : List (S44)) (A0_2 : Option Addr) (c0_2 : Nat) (e2 : List ByteArray) (r : Bool) (w : World) (hr0_0 : Kd.C k42 w A0_0 e0.length e0) (hc0_0 : e0.length ≤ c0_0) (hr0_1 : Kd.C k44 w A0_1 e1.length e1) (hc0_1 : e1.length ≤ c0_1) (hr0_2 : Kd.C Kd.string w A0_2 e2.length e2) (hc0_2 : e2.length ≤ c0_2) (h : crucibleref1_GraphMay.f k e0 e1 e2 = some r) (hrr : r = true := by rfl) :
  Calls Tryz.prog 17 #[.agg #[.slice A0_0 e0.length c0_0, .slice A0_1 e1.length c0_1, .slice A0_2 e2.length c0_2]] w fun e w' => e = .returned (.bool r) ∧ Below w.heap.size w w' := by
 have HRR := Aside0.mk hrr
 clear hrr
 have hu26 := Tryz.underlying26
 have hu42 := Tryz.underlying42
 have HR0_0 := Aside0.mk hr0_0
 have HC0_0 := Aside0.mk hc0_0
 clear hr0_0 hc0_0
 have HR0_1 := Aside0.mk hr0_1
 have HC0_1 := Aside0.mk hc0_1
 clear hr0_1 hc0_1
 have HR0_2 := Aside0.mk hr0_2
 have HC0_2 := Aside0.mk hc0_2
 clear hr0_2 hc0_2
 have HB := Aside0.mk (Below.refl w.heap.size w)
 have H : (crucibleref1_GraphMay.l0 k 0 e0 e1 e2) = some r := h
 clear h
 have H' := Aside0.mk H
 clear H
 go_enter Tryz.func17, Tryz.ntmps17
 go_wp2_with (first | ((with_reducible refine gate_dst (N := 1) rfl ?_); (try (refine gate_guard (by rfl) ?_; dsimp only)); refine box_event ?hg (N := 1) ?hd (cs := #[.slice A0_0 e0.length c0_0, .slice A0_1 e1.length c0_1, .slice A0_2 e2.length c0_2]) (t := 26) ?hr ?_; (case hd => rfl); (case hg => rfl); (case hr => first | (go_simp; done) | (go_simp; rfl)); intro gb hg w2 hbox hb; have n0_ := Aside0.mk (below_step (by repeat (first | (with_reducible first | exact HB.out | apply below_alloc | apply pw_below_drewN | apply below_drew1) | exact HB.out)) hb); have n1_ := Aside0.mk (hbox); have n2_ := Aside0.mk ((by rw [hg]; exact (below_size (by repeat (first | (with_reducible first | exact HB.out | apply below_alloc | apply pw_below_drewN | apply below_drew1) | exact HB.out))) : w.heap.size ≤ gb)); have n3_ := Aside0.mk ((by rw [hg]; exact (below_size (by repeat (first | (with_reducible first | exact HB.out | apply below_alloc | apply pw_below_drewN | apply below_drew1) | exact HB.out))) : w.heap.size ≤ gb)); clear HB; have HB := n0_; have BK := n1_; have GW152 := n2_; have GE152 := n3_; clear n0_ n1_ n2_ n3_; clear hb hbox hg))
 go_loopg [3] k (fun kq v3 w' => ∃ (x3_1 : Int), v3 = .int .i64 x3_1 ∧ Aside0 (crucibleref1_GraphMay.l0 kq x3_1 e0 e1 e2 = some r) ∧ Aside0 (kq ≤ k) ∧ Aside0 (w'.heap[gb]? = some (.cells #[(.slice A0_0 e0.length c0_0), (.slice A0_1 e1.length c0_1), (.slice A0_2 e2.length c0_2)] 26 (0, 0))) ∧ Aside0 (Below w.heap.size w w'))
 case atStart => exact ⟨(0), (by first | rfl | (simp; done) | (simp [*]; done)), H', ⟨Nat.le_refl _⟩, ⟨by (with_reducible repeat (first | refine blk_drewN ?_ _ | refine blk_drew ?_ | refine blk_alloc ?_ _)); exact BK.out⟩, ⟨by repeat (first | (with_reducible first | exact HB.out | apply below_alloc | apply pw_below_drewN | apply below_drew1 | refine below_set ?_ GE152.out) | exact HB.out)⟩⟩
 case round =>
  clear H'
  try clear c1
  try clear p2
  obtain ⟨x3_1, rfl, HA, HK1, BK, HB⟩ := hrel
  cases gk with
  | zero => exact absurd HA.out (by simp [crucibleref1_GraphMay.l0])
  | succ k1 =>
   have H := HA.out
   clear HA
   simp only [crucibleref1_GraphMay.l0] at H
   by_cases c3 : x3_1 < (e1.length : Int)
   ·rw [if_pos c3] at H
    have c3b0 : decide (x3_1 < (e1.length : Int)) = true := decide_eq_true c3
    clear c3
    by_cases c4 : 0 ≤ x3_1
    ·rw [if_pos c4] at H
     have c4b0 : decide (0 ≤ x3_1) = true := decide_eq_true c4
     clear c4
     replace H := Option.bind_eq_some_iff.mp H
     obtain ⟨t154, A50, H⟩ := H
     replace H : (if t154 = true then (if ((rd_T44 e1 x3_1).f1) < 1 then (some false) else (if ((rd_T44 e1 x3_1).f1) > 8 then (some false) else ((crucibleref1_poolAt.f k1 e1 ((rd_T44 e1 x3_1).f0)).bind fun t158 => (if t158 = x3_1 then (crucibleref1_GraphMay.l0 k1 (wrap64 (x3_1 + 1)) e0 e1 e2) else (some false))))) else (some false)) = some r := H
     have A5 := Aside0.mk A50
     clear A50
     by_cases c6 : t154 = true
     ·subst c6
      have H1 : (if ((rd_T44 e1 x3_1).f1) < 1 then (some false) else (if ((rd_T44 e1 x3_1).f1) > 8 then (some false) else ((crucibleref1_poolAt.f k1 e1 ((rd_T44 e1 x3_1).f0)).bind fun t158 => (if t158 = x3_1 then (crucibleref1_GraphMay.l0 k1 (wrap64 (x3_1 + 1)) e0 e1 e2) else (some false))))) = some r := by rw [if_pos rfl] at H; exact H
      clear H
      have H := H1
      clear H1
      by_cases c7 : ((rd_T44 e1 x3_1).f1) < 1
      ·rw [if_pos c7] at H
       have c7b0 : decide (((rd_T44 e1 x3_1).f1) < 1) = true := decide_eq_true c7
       clear c7
       obtain rfl := Option.some.inj H
       exact absurd HRR.out (by decide)
      ·rw [if_neg c7] at H
       have c7b0 : decide (((rd_T44 e1 x3_1).f1) < 1) = false := decide_eq_false c7
       clear c7
       by_cases c10 : ((rd_T44 e1 x3_1).f1) > 8
       ·rw [if_pos c10] at H
        have c10b0 : decide (8 < ((rd_T44 e1 x3_1).f1)) = true := decide_eq_true c10
        clear c10
        obtain rfl := Option.some.inj H
        exact absurd HRR.out (by decide)
       ·rw [if_neg c10] at H
        have c10b0 : decide (8 < ((rd_T44 e1 x3_1).f1)) = false := decide_eq_false c10
        clear c10
        replace H := Option.bind_eq_some_iff.mp H
        obtain ⟨t158, A130, H⟩ := H
        replace H : (if t158 = x3_1 then (crucibleref1_GraphMay.l0 k1 (wrap64 (x3_1 + 1)) e0 e1 e2) else (some false)) = some r := H
        have A13 := Aside0.mk A130
        clear A130
        by_cases c14 : t158 = x3_1
        ·rw [if_pos c14] at H
         have c14b0 : (t158 == x3_1) = true := beq_iff_eq.mpr c14
         have c14b1 : (t158 != x3_1) = false := bne_eq_false_iff_eq.mpr c14
         clear c14
         have H' := Aside0.mk H
         clear H
         have hcz15_0 : wr.cell? ⟨gb, 0, none⟩ = some (.slice A0_0 e0.length c0_0) := (blk_cell BK.out 0).trans rfl
         have hcz15_1 : wr.cell? ⟨gb, 1, none⟩ = some (.slice A0_1 e1.length c0_1) := (blk_cell BK.out 1).trans rfl
         have hcz15_2 : wr.cell? ⟨gb, 2, none⟩ = some (.slice A0_2 e2.length c0_2) := (blk_cell BK.out 2).trans rfl
         have hfz15_0 := blk_frozen BK.out 0
         have hfz15_1 := blk_frozen BK.out 1
         have hfz15_2 := blk_frozen BK.out 2
         try go_wp2
         have n0_ := Aside0.mk (blk_drew BK.out)
         have n1_ := Aside0.mk (below_drew1 HB.out)
         clear BK
         clear HB
         have BK := n0_
         have HB := n1_
         clear n0_ n1_
         have p153 : 0 ≤ (x3_1 : Int) := of_decide_eq_true (by first | (with_reducible assumption) | assumption)
         have q153 : x3_1 < (e1.length : Int) := of_decide_eq_true (by first | (with_reducible assumption) | assumption)
         obtain ⟨ad153, e153, hx153_0, hx153_1⟩ := at_T44 HR0_1.out x3_1 p153 q153
         have hw153_1 := hx153_1
         have hw153_0 := hx153_0
         cases e153
         replace hx153_0 := (HB.out.cell (block_lt_of_cell? w _ hx153_0)).trans hx153_0
         replace hx153_1 := (HB.out.cell (block_lt_of_cell? w _ hx153_1)).trans hx153_1
         replace p153 := eq_true p153
         replace q153 := eq_true q153
         have p155 : 0 ≤ (x3_1 : Int) := of_decide_eq_true (by first | (with_reducible assumption) | assumption)
         have q155 : x3_1 < (e1.length : Int) := of_decide_eq_true (by first | (with_reducible assumption) | assumption)
         obtain ⟨ad155, e155, hx155_0, hx155_1⟩ := at_T44 HR0_1.out x3_1 p155 q155
         have hw155_1 := hx155_1
         have hw155_0 := hx155_0
         obtain rfl : ad153 = ad155 := (by injection e155)
         replace hx155_0 := (HB.out.cell (block_lt_of_cell? w _ hx155_0)).trans hx155_0
         replace hx155_1 := (HB.out.cell (block_lt_of_cell? w _ hx155_1)).trans hx155_1
         replace p155 := eq_true p155
         replace q155 := eq_true q155
         have p156 : 0 ≤ (x3_1 : Int) := of_decide_eq_true (by first | (with_reducible assumption) | assumption)
         have q156 : x3_1 < (e1.length : Int) := of_decide_eq_true (by first | (with_reducible assumption) | assumption)
         obtain ⟨ad156, e156, hx156_0, hx156_1⟩ := at_T44 HR0_1.out x3_1 p156 q156
         have hw156_1 := hx156_1
         have hw156_0 := hx156_0
         obtain rfl : ad153 = ad156 := (by injection e156)
         replace hx156_0 := (HB.out.cell (block_lt_of_cell? w _ hx156_0)).trans hx156_0
         replace hx156_1 := (HB.out.cell (block_lt_of_cell? w _ hx156_1)).trans hx156_1
         replace p156 := eq_true p156
         replace q156 := eq_true q156
         have p157 : 0 ≤ (x3_1 : Int) := of_decide_eq_true (by first | (with_reducible assumption) | assumption)
         have q157 : x3_1 < (e1.length : Int) := of_decide_eq_true (by first | (with_reducible assumption) | assumption)
         obtain ⟨ad157, e157, hx157_0, hx157_1⟩ := at_T44 HR0_1.out x3_1 p157 q157
         have hw157_1 := hx157_1
         have hw157_0 := hx157_0
         obtain rfl : ad153 = ad157 := (by injection e157)
         replace hx157_0 := (HB.out.cell (block_lt_of_cell? w _ hx157_0)).trans hx157_0
         replace hx157_1 := (HB.out.cell (block_lt_of_cell? w _ hx157_1)).trans hx157_1
         replace p157 := eq_true p157
         replace q157 := eq_true q157
         refine start_ (n := 39) (S := fun w' => w'.cell? ⟨gb, 0, none⟩ = some (.slice A0_0 e0.length c0_0) ∧ w'.cell? ⟨gb, 1, none⟩ = some (.slice (some ad153) e1.length c0_1) ∧ w'.cell? ⟨gb, 2, none⟩ = some (.slice A0_2 e2.length c0_2) ∧ w'.cell? (ad153.add ((x3_1).toNat * 2)) = some (.string ((rd_T44 e1 x3_1).f0)) ∧ w'.cell? ⟨(ad153.add ((x3_1).toNat * 2)).block, (ad153.add ((x3_1).toNat * 2)).off + 1, none⟩ = some (.int .i64 ((rd_T44 e1 x3_1).f1)) ∧ w'.cell? (ad153.add ((x3_1).toNat * 2)) = some (.string ((rd_T44 e1 x3_1).f0)) ∧ w'.cell? ⟨(ad153.add ((x3_1).toNat * 2)).block, (ad153.add ((x3_1).toNat * 2)).off + 1, none⟩ = some (.int .i64 ((rd_T44 e1 x3_1).f1)) ∧ w'.cell? (ad153.add ((x3_1).toNat * 2)) = some (.string ((rd_T44 e1 x3_1).f0)) ∧ w'.cell? ⟨(ad153.add ((x3_1).toNat * 2)).block, (ad153.add ((x3_1).toNat * 2)).off + 1, none⟩ = some (.int .i64 ((rd_T44 e1 x3_1).f1)) ∧ w'.cell? (ad153.add ((x3_1).toNat * 2)) = some (.string ((rd_T44 e1 x3_1).f0)) ∧ w'.cell? ⟨(ad153.add ((x3_1).toNat * 2)).block, (ad153.add ((x3_1).toNat * 2)).off + 1, none⟩ = some (.int .i64 ((rd_T44 e1 x3_1).f1))) (ds := []) #[false, false, false, false, false, false, false, false, false, false, false, false, false, false, false, false, false, false, false, false, false, false, false, false, false, false, false, false, false, false, false, false, false, false, false, false, false, false, false] (by kernel_rfl) rfl rfl ⟨(blk_cell BK.out 0).trans rfl, (blk_cell BK.out 1).trans rfl, (blk_cell BK.out 2).trans rfl, ((HB.out.cell (block_lt_of_cell? w _ hw153_0)).trans hw153_0), ((HB.out.cell (block_lt_of_cell? w _ hw153_1)).trans hw153_1), ((HB.out.cell (block_lt_of_cell? w _ hw155_0)).trans hw155_0), ((HB.out.cell (block_lt_of_cell? w _ hw155_1)).trans hw155_1), ((HB.out.cell (block_lt_of_cell? w _ hw156_0)).trans hw156_0), ((HB.out.cell (block_lt_of_cell? w _ hw156_1)).trans hw156_1), ((HB.out.cell (block_lt_of_cell? w _ hw157_0)).trans hw157_0), ((HB.out.cell (block_lt_of_cell? w _ hw157_1)).trans hw157_1)⟩ (fun hHeld => ?_); refine with_tabW crucibleref1_GraphMay.tab4 crucibleref1_GraphMay.bits4 (fun HT_ HW_ => ?_)
         generalize wr.drew = w16 at BK HB hx153_0 hx153_1 hx155_0 hx155_1 hx156_0 hx156_1 hx157_0 hx157_1 hHeld ⊢
         refine pure_ (i := 0) (N := some 12) (v := ?_) (a' := ?_) #[true, false, false, false, false, false, false, false, false, false, false, false, false, false, false, false, false, false, false, false, false, false, false, false, false, false, false, false, false, false, false, false, false, false, false, false, false, false, false] rfl rfl (any_of HT_.out (by kernel_rfl)) (fun _ _ _ h => h) (Or.inl ⟨by rfl, ?_⟩) ?_ ?_
         rotate_left
         ·intro w'
          go_simp
          with_reducible rfl
         rotate_left
         ·simp only [Act.put, setIfInBounds_toArray, set_cons_zero, set_cons_succ, i64_w, i32_w]
          rfl
         refine pure_ (i := 2) (N := some 14) (v := ?_) (a' := ?_) #[true, false, true, false, false, false, false, false, false, false, false, false, false, false, false, false, false, false, false, false, false, false, false, false, false, false, false, false, false, false, false, false, false, false, false, false, false, false, false] rfl rfl (any_of HT_.out (by kernel_rfl)) (fun _ _ _ h => h) (Or.inl ⟨by rfl, ?_⟩) ?_ ?_
         rotate_left
         ·intro w'
          go_simp
          with_reducible rfl
         rotate_left
         ·simp only [Act.put, setIfInBounds_toArray, set_cons_zero, set_cons_succ, i64_w, i32_w]
          rfl
         refine take_ (i := 1) (N := some 13) (v := ?_) (a' := ?_) #[true, true, true, false, false, false, false, false, false, false, false, false, false, false, false, false, false, false, false, false, false, false, false, false, false, false, false, false, false, false, false, false, false, false, false, false, false, false, false] rfl rfl (take_ofW HT_.out HW_.out (by kernel_rfl)) (fun _ _ _ h => h) (Or.inl ⟨by rfl, ?_⟩) hHeld ?_ ?_
         rotate_left
         ·rintro w' ⟨s0, s1, s2, s3, s4, s5, s6, s7, s8, s9, s10⟩
          go_simp
          with_reducible rfl
         rotate_left
         ·simp only [Act.put, setIfInBounds_toArray, set_cons_zero, set_cons_succ, i64_w, i32_w]
          rfl
         refine pure_ (i := 3) (N := some 15) (v := ?_) (a' := ?_) #[true, true, true, true, false, false, false, false, false, false, false, false, false, false, false, false, false, false, false, false, false, false, false, false, false, false, false, false, false, false, false, false, false, false, false, false, false, false, false] rfl rfl (any_of HT_.out (by kernel_rfl)) (fun _ _ _ h => h) (Or.inl ⟨by rfl, ?_⟩) ?_ ?_
         rotate_left
         ·intro w'
          go_simp
          with_reducible rfl
         rotate_left
         ·simp only [Act.put, setIfInBounds_toArray, set_cons_zero, set_cons_succ, i64_w, i32_w]
          rfl
         refine pure_ (i := 4) (N := some 16) (v := ?_) (a' := ?_) #[true, true, true, true, true, false, false, false, false, false, false, false, false, false, false, false, false, false, false, false, false, false, false, false, false, false, false, false, false, false, false, false, false, false, false, false, false, false, false] rfl rfl (any_of HT_.out (by kernel_rfl)) (fun _ _ _ h => h) (Or.inl ⟨by rfl, ?_⟩) ?_ ?_
         rotate_left
         ·intro w'
          go_simp
          with_reducible rfl
         rotate_left
         ·simp only [Act.put, setIfInBounds_toArray, set_cons_zero, set_cons_succ, i64_w, i32_w]
          rfl
         refine take_ (i := 5) (N := some 17) (v := ?_) (a' := ?_) #[true, true, true, true, true, true, false, false, false, false, false, false, false, false, false, false, false, false, false, false, false, false, false, false, false, false, false, false, false, false, false, false, false, false, false, false, false, false, false] rfl rfl (take_ofW HT_.out HW_.out (by kernel_rfl)) (fun _ _ _ h => h) (Or.inl ⟨by rfl, ?_⟩) hHeld ?_ ?_
         rotate_left
         ·rintro w' ⟨s0, s1, s2, s3, s4, s5, s6, s7, s8, s9, s10⟩
          go_simp
          with_reducible rfl
         rotate_left
         ·simp only [Act.put, setIfInBounds_toArray, set_cons_zero, set_cons_succ, i64_w, i32_w]
          rfl
         refine one_ (i := 6) (N := some 18) #[true, true, true, true, true, true, true, false, false, false, false, false, false, false, false, false, false, false, false, false, false, false, false, false, false, false, false, false, false, false, false, false, false, false, false, false, false, false, false] rfl rfl (one_of HT_.out (by kernel_rfl)) (by decide) (fun K hK => ?_)
         refine goes_ Tryz.func31 (by kernel_rfl) rfl #[.string ((rd_T44 e1 x3_1).f0)] (by rfl) rfl rfl (by (try simp only [List.map_toArray, List.map_cons, List.map_nil]); first | done | rfl | (simp only [List.length_drop, List.length_take]; rfl)) ?_
         with_reducible refine (crucibleref1_NameMay.calls k1 ((rd_T44 e1 x3_1).f0) true _ A5.out).mono ?_
         rintro e w' ⟨rfl, ⟨nd, rfl⟩⟩
         refine ⟨_, rfl, ?_⟩
         refine hK.out _ _ ⟨(blk_cell BK.out 0).trans rfl, (blk_cell BK.out 1).trans rfl, (blk_cell BK.out 2).trans rfl, ((HB.out.cell (block_lt_of_cell? w _ hw153_0)).trans hw153_0), ((HB.out.cell (block_lt_of_cell? w _ hw153_1)).trans hw153_1), ((HB.out.cell (block_lt_of_cell? w _ hw155_0)).trans hw155_0), ((HB.out.cell (block_lt_of_cell? w _ hw155_1)).trans hw155_1), ((HB.out.cell (block_lt_of_cell? w _ hw156_0)).trans hw156_0), ((HB.out.cell (block_lt_of_cell? w _ hw156_1)).trans hw156_1), ((HB.out.cell (block_lt_of_cell? w _ hw157_0)).trans hw157_0), ((HB.out.cell (block_lt_of_cell? w _ hw157_1)).trans hw157_1)⟩ (fun hHeld => ?_)
         clear hK K
         refine norm_ (a' := ?_) ?_ ?_
         rotate_left
         ·show Act.put _ (some 18) _ = _
          simp only [Act.put, setIfInBounds_toArray, set_cons_zero, set_cons_succ, i64_w, i32_w]
          rfl
         refine pure_ (i := 7) (N := some 19) (v := ?_) (a' := ?_) #[true, true, true, true, true, true, true, true, false, false, false, false, false, false, false, false, false, false, false, false, false, false, false, false, false, false, false, false, false, false, false, false, false, false, false, false, false, false, false] rfl rfl (any_of HT_.out (by kernel_rfl)) (fun _ _ _ h => h) (Or.inl ⟨by rfl, ?_⟩) ?_ ?_
         rotate_left
         ·intro w'
          go_simp
          with_reducible rfl
         rotate_left
         ·simp only [Act.put, setIfInBounds_toArray, set_cons_zero, set_cons_succ, i64_w, i32_w]
          rfl
         refine pure_ (i := 8) (N := some 20) (v := ?_) (a' := ?_) #[true, true, true, true, true, true, true, true, true, false, false, false, false, false, false, false, false, false, false, false, false, false, false, false, false, false, false, false, false, false, false, false, false, false, false, false, false, false, false] rfl rfl (any_of HT_.out (by kernel_rfl)) (fun _ _ _ h => h) (Or.inl ⟨by rfl, ?_⟩) ?_ ?_
         rotate_left
         ·intro w'
          go_simp
          with_reducible rfl
         rotate_left
         ·simp only [Act.put, setIfInBounds_toArray, set_cons_zero, set_cons_succ, i64_w, i32_w]
          rfl
         refine pure_ (i := 9) (N := some 21) (v := ?_) (a' := ?_) #[true, true, true, true, true, true, true, true, true, true, false, false, false, false, false, false, false, false, false, false, false, false, false, false, false, false, false, false, false, false, false, false, false, false, false, false, false, false, false] rfl rfl (any_of HT_.out (by kernel_rfl)) (fun _ _ _ h => h) (Or.inl ⟨by rfl, ?_⟩) ?_ ?_
         rotate_left
         ·intro w'
          go_simp
          with_reducible rfl
         rotate_left
         ·simp only [Act.put, setIfInBounds_toArray, set_cons_zero, set_cons_succ, i64_w, i32_w]
          rfl
         refine pure_ (i := 11) (N := some 23) (v := ?_) (a' := ?_) #[true, true, true, true, true, true, true, true, true, true, false, true, false, false, false, false, false, false, false, false, false, false, false, false, false, false, false, false, false, false, false, false, false, false, false, false, false, false, false] rfl rfl (any_of HT_.out (by kernel_rfl)) (fun _ _ _ h => h) (Or.inl ⟨by rfl, ?_⟩) ?_ ?_
         rotate_left
         ·intro w'
          go_simp
          with_reducible rfl
         rotate_left
         ·simp only [Act.put, setIfInBounds_toArray, set_cons_zero, set_cons_succ, i64_w, i32_w]
          rfl
         refine take_ (i := 10) (N := some 22) (v := ?_) (a' := ?_) #[true, true, true, true, true, true, true, true, true, true, true, true, false, false, false, false, false, false, false, false, false, false, false, false, false, false, false, false, false, false, false, false, false, false, false, false, false, false, false] rfl rfl (take_ofW HT_.out HW_.out (by kernel_rfl)) (fun _ _ _ h => h) (Or.inl ⟨by rfl, ?_⟩) hHeld ?_ ?_
         rotate_left
         ·rintro w' ⟨s0, s1, s2, s3, s4, s5, s6, s7, s8, s9, s10⟩
          go_simp
          with_reducible rfl
         rotate_left
         ·simp only [Act.put, setIfInBounds_toArray, set_cons_zero, set_cons_succ, i64_w, i32_w]
          rfl
         refine pure_ (i := 12) (N := some 24) (v := ?_) (a' := ?_) #[true, true, true, true, true, true, true, true, true, true, true, true, true, false, false, false, false, false, false, false, false, false, false, false, false, false, false, false, false, false, false, false, false, false, false, false, false, false, false] rfl rfl (any_of HT_.out (by kernel_rfl)) (fun _ _ _ h => h) (Or.inl ⟨by rfl, ?_⟩) ?_ ?_
         rotate_left
         ·intro w'
          go_simp
          with_reducible rfl
         rotate_left
         ·simp only [Act.put, setIfInBounds_toArray, set_cons_zero, set_cons_succ, i64_w, i32_w]
          rfl
         refine pure_ (i := 13) (N := some 25) (v := ?_) (a' := ?_) #[true, true, true, true, true, true, true, true, true, true, true, true, true, true, false, false, false, false, false, false, false, false, false, false, false, false, false, false, false, false, false, false, false, false, false, false, false, false, false] rfl rfl (any_of HT_.out (by kernel_rfl)) (fun _ _ _ h => h) (Or.inl ⟨by rfl, ?_⟩) ?_ ?_
         rotate_left
         ·intro w'
          go_simp
          with_reducible rfl
         rotate_left
         ·simp only [Act.put, setIfInBounds_toArray, set_cons_zero, set_cons_succ, i64_w, i32_w]
          rfl
         refine take_ (i := 14) (N := some 26) (v := ?_) (a' := ?_) #[true, true, true, true, true, true, true, true, true, true, true, true, true, true, true, false, false, false, false, false, false, false, false, false, false, false, false, false, false, false, false, false, false, false, false, false, false, false, false] rfl rfl (take_ofW HT_.out HW_.out (by kernel_rfl)) (fun _ _ _ h => h) (Or.inl ⟨by rfl, ?_⟩) hHeld ?_ ?_
         rotate_left
         ·rintro w' ⟨s0, s1, s2, s3, s4, s5, s6, s7, s8, s9, s10⟩
          go_simp
          with_reducible rfl
         rotate_left
         ·simp only [Act.put, setIfInBounds_toArray, set_cons_zero, set_cons_succ, i64_w, i32_w]
          rfl
         refine pure_ (i := 15) (N := some 27) (v := ?_) (a' := ?_) #[true, true, true, true, true, true, true, true, true, true, true, true, true, true, true, true, false, false, false, false, false, false, false, false, false, false, false, false, false, false, false, false, false, false, false, false, false, false, false] rfl rfl (any_of HT_.out (by kernel_rfl)) (fun _ _ _ h => h) (Or.inl ⟨by rfl, ?_⟩) ?_ ?_
         rotate_left
         ·intro w'
          go_simp
          with_reducible rfl
         rotate_left
         ·simp only [Act.put, setIfInBounds_toArray, set_cons_zero, set_cons_succ, i64_w, i32_w]
          rfl
         refine pure_ (i := 16) (N := some 28) (v := ?_) (a' := ?_) #[true, true, true, true, true, true, true, true, true, true, true, true, true, true, true, true, true, false, false, false, false, false, false, false, false, false, false, false, false, false, false, false, false, false, false, false, false, false, false] rfl rfl (any_of HT_.out (by kernel_rfl)) (fun _ _ _ h => h) (Or.inl ⟨by rfl, ?_⟩) ?_ ?_
         rotate_left
         ·intro w'
          go_simp
          with_reducible rfl
         rotate_left
         ·simp only [Act.put, setIfInBounds_toArray, set_cons_zero, set_cons_succ, i64_w, i32_w]
          rfl
         refine pure_ (i := 17) (N := some 29) (v := ?_) (a' := ?_) #[true, true, true, true, true, true, true, true, true, true, true, true, true, true, true, true, true, true, false, false, false, false, false, false, false, false, false, false, false, false, false, false, false, false, false, false, false, false, false] rfl rfl (any_of HT_.out (by kernel_rfl)) (fun _ _ _ h => h) (Or.inl ⟨by rfl, ?_⟩) ?_ ?_
         rotate_left
         ·intro w'
          go_simp
          with_reducible rfl
         rotate_left
         ·simp only [Act.put, setIfInBounds_toArray, set_cons_zero, set_cons_succ, i64_w, i32_w]
          rfl
         refine pure_ (i := 18) (N := some 30) (v := ?_) (a' := ?_) #[true, true, true, true, true, true, true, true, true, true, true, true, true, true, true, true, true, true, true, false, false, false, false, false, false, false, false, false, false, false, false, false, false, false, false, false, false, false, false] rfl rfl (any_of HT_.out (by kernel_rfl)) (fun _ _ _ h => h) (Or.inl ⟨by rfl, ?_⟩) ?_ ?_
         rotate_left
         ·intro w'
          go_simp
          with_reducible rfl
         rotate_left
         ·simp only [Act.put, setIfInBounds_toArray, set_cons_zero, set_cons_succ, i64_w, i32_w]
          rfl
         refine pure_ (i := 20) (N := some 32) (v := ?_) (a' := ?_) #[true, true, true, true, true, true, true, true, true, true, true, true, true, true, true, true, true, true, true, false, true, false, false, false, false, false, false, false, false, false, false, false, false, false, false, false, false, false, false] rfl rfl (any_of HT_.out (by kernel_rfl)) (fun _ _ _ h => h) (Or.inl ⟨by rfl, ?_⟩) ?_ ?_
         rotate_left
         ·intro w'
          go_simp
          with_reducible rfl
         rotate_left
         ·simp only [Act.put, setIfInBounds_toArray, set_cons_zero, set_cons_succ, i64_w, i32_w]
          rfl
         refine take_ (i := 19) (N := some 31) (v := ?_) (a' := ?_) #[true, true, true, true, true, true, true, true, true, true, true, true, true, true, true, true, true, true, true, true, true, false, false, false, false, false, false, false, false, false, false, false, false, false, false, false, false, false, false] rfl rfl (take_ofW HT_.out HW_.out (by kernel_rfl)) (fun _ _ _ h => h) (Or.inl ⟨by rfl, ?_⟩) hHeld ?_ ?_
         rotate_left
         ·rintro w' ⟨s0, s1, s2, s3, s4, s5, s6, s7, s8, s9, s10⟩
          go_simp
          with_reducible rfl
         rotate_left
         ·simp only [Act.put, setIfInBounds_toArray, set_cons_zero, set_cons_succ, i64_w, i32_w]
          rfl
         refine pure_ (i := 21) (N := some 33) (v := ?_) (a' := ?_) #[true, true, true, true, true, true, true, true, true, true, true, true, true, true, true, true, true, true, true, true, true, true, false, false, false, false, false, false, false, false, false, false, false, false, false, false, false, false, false] rfl rfl (any_of HT_.out (by kernel_rfl)) (fun _ _ _ h => h) (Or.inl ⟨by rfl, ?_⟩) ?_ ?_
         rotate_left
         ·intro w'
          go_simp
          with_reducible rfl
         rotate_left
         ·simp only [Act.put, setIfInBounds_toArray, set_cons_zero, set_cons_succ, i64_w, i32_w]
          rfl
         refine pure_ (i := 22) (N := some 34) (v := ?_) (a' := ?_) #[true, true, true, true, true, true, true, true, true, true, true, true, true, true, true, true, true, true, true, true, true, true, true, false, false, false, false, false, false, false, false, false, false, false, false, false, false, false, false] rfl rfl (any_of HT_.out (by kernel_rfl)) (fun _ _ _ h => h) (Or.inl ⟨by rfl, ?_⟩) ?_ ?_
         rotate_left
         ·intro w'
          go_simp
          with_reducible rfl
         rotate_left
         ·simp only [Act.put, setIfInBounds_toArray, set_cons_zero, set_cons_succ, i64_w, i32_w]
          rfl
         refine take_ (i := 23) (N := some 35) (v := ?_) (a' := ?_) #[true, true, true, true, true, true, true, true, true, true, true, true, true, true, true, true, true, true, true, true, true, true, true, true, false, false, false, false, false, false, false, false, false, false, false, false, false, false, false] rfl rfl (take_ofW HT_.out HW_.out (by kernel_rfl)) (fun _ _ _ h => h) (Or.inl ⟨by rfl, ?_⟩) hHeld ?_ ?_
         rotate_left
         ·rintro w' ⟨s0, s1, s2, s3, s4, s5, s6, s7, s8, s9, s10⟩
          go_simp
          with_reducible rfl
         rotate_left
         ·simp only [Act.put, setIfInBounds_toArray, set_cons_zero, set_cons_succ, i64_w, i32_w]
          rfl
         refine pure_ (i := 24) (N := some 36) (v := ?_) (a' := ?_) #[true, true, true, true, true, true, true, true, true, true, true, true, true, true, true, true, true, true, true, true, true, true, true, true, true, false, false, false, false, false, false, false, false, false, false, false, false, false, false] rfl rfl (any_of HT_.out (by kernel_rfl)) (fun _ _ _ h => h) (Or.inl ⟨by rfl, ?_⟩) ?_ ?_
         rotate_left
         ·intro w'
          go_simp
          with_reducible rfl
         rotate_left
         ·simp only [Act.put, setIfInBounds_toArray, set_cons_zero, set_cons_succ, i64_w, i32_w]
          rfl
         refine pure_ (i := 25) (N := some 37) (v := ?_) (a' := ?_) #[true, true, true, true, true, true, true, true, true, true, true, true, true, true, true, true, true, true, true, true, true, true, true, true, true, true, false, false, false, false, false, false, false, false, false, false, false, false, false] rfl rfl (any_of HT_.out (by kernel_rfl)) (fun _ _ _ h => h) (Or.inl ⟨by rfl, ?_⟩) ?_ ?_
         rotate_left
         ·intro w'
          go_simp
          with_reducible rfl
         rotate_left
         ·simp only [Act.put, setIfInBounds_toArray, set_cons_zero, set_cons_succ, i64_w, i32_w]
          rfl
         refine pure_ (i := 26) (N := some 38) (v := ?_) (a' := ?_) #[true, true, true, true, true, true, true, true, true, true, true, true, true, true, true, true, true, true, true, true, true, true, true, true, true, true, true, false, false, false, false, false, false, false, false, false, false, false, false] rfl rfl (any_of HT_.out (by kernel_rfl)) (fun _ _ _ h => h) (Or.inl ⟨by rfl, ?_⟩) ?_ ?_
         rotate_left
         ·intro w'
          go_simp
          with_reducible rfl
         rotate_left
         ·simp only [Act.put, setIfInBounds_toArray, set_cons_zero, set_cons_succ, i64_w, i32_w]
          rfl
         refine pure_ (i := 27) (N := some 39) (v := ?_) (a' := ?_) #[true, true, true, true, true, true, true, true, true, true, true, true, true, true, true, true, true, true, true, true, true, true, true, true, true, true, true, true, false, false, false, false, false, false, false, false, false, false, false] rfl rfl (any_of HT_.out (by kernel_rfl)) (fun _ _ _ h => h) (Or.inl ⟨by rfl, ?_⟩) ?_ ?_
         rotate_left
         ·intro w'
          go_simp
          with_reducible rfl
         rotate_left
         ·simp only [Act.put, setIfInBounds_toArray, set_cons_zero, set_cons_succ, i64_w, i32_w]
          rfl
         refine pure_ (i := 29) (N := some 41) (v := ?_) (a' := ?_) #[true, true, true, true, true, true, true, true, true, true, true, true, true, true, true, true, true, true, true, true, true, true, true, true, true, true, true, true, false, true, false, false, false, false, false, false, false, false, false] rfl rfl (any_of HT_.out (by kernel_rfl)) (fun _ _ _ h => h) (Or.inl ⟨by rfl, ?_⟩) ?_ ?_
         rotate_left
         ·intro w'
          go_simp
          with_reducible rfl
         rotate_left
         ·simp only [Act.put, setIfInBounds_toArray, set_cons_zero, set_cons_succ, i64_w, i32_w]
          rfl
         refine pure_ (i := 31) (N := some 43) (v := ?_) (a' := ?_) #[true, true, true, true, true, true, true, true, true, true, true, true, true, true, true, true, true, true, true, true, true, true, true, true, true, true, true, true, false, true, false, true, false, false, false, false, false, false, false] rfl rfl (any_of HT_.out (by kernel_rfl)) (fun _ _ _ h => h) (Or.inl ⟨by rfl, ?_⟩) ?_ ?_
         rotate_left
         ·intro w'
          go_simp
          with_reducible rfl
         rotate_left
         ·simp only [Act.put, setIfInBounds_toArray, set_cons_zero, set_cons_succ, i64_w, i32_w]
          rfl
         refine pure_ (i := 36) (N := some 48) (v := ?_) (a' := ?_) #[true, true, true, true, true, true, true, true, true, true, true, true, true, true, true, true, true, true, true, true, true, true, true, true, true, true, true, true, false, true, false, true, false, false, false, false, true, false, false] rfl rfl (any_of HT_.out (by kernel_rfl)) (fun _ _ _ h => h) (Or.inl ⟨by rfl, ?_⟩) ?_ ?_
         rotate_left
         ·intro w'
          go_simp
          with_reducible rfl
         rotate_left
         ·simp only [Act.put, setIfInBounds_toArray, set_cons_zero, set_cons_succ, i64_w, i32_w]
          rfl
         refine take_ (i := 28) (N := some 40) (v := ?_) (a' := ?_) #[true, true, true, true, true, true, true, true, true, true, true, true, true, true, true, true, true, true, true, true, true, true, true, true, true, true, true, true, true, true, false, true, false, false, false, false, true, false, false] rfl rfl (take_ofW HT_.out HW_.out (by kernel_rfl)) (fun _ _ _ h => h) (Or.inl ⟨by rfl, ?_⟩) hHeld ?_ ?_
         rotate_left
         ·rintro w' ⟨s0, s1, s2, s3, s4, s5, s6, s7, s8, s9, s10⟩
          go_simp
          with_reducible rfl
         rotate_left
         ·simp only [Act.put, setIfInBounds_toArray, set_cons_zero, set_cons_succ, i64_w, i32_w]
          rfl
         refine take_ (i := 30) (N := some 42) (v := ?_) (a' := ?_) #[true, true, true, true, true, true, true, true, true, true, true, true, true, true, true, true, true, true, true, true, true, true, true, true, true, true, true, true, true, true, true, true, false, false, false, false, true, false, false] rfl rfl (take_ofW HT_.out HW_.out (by kernel_rfl)) (fun _ _ _ h => h) (Or.inl ⟨by rfl, ?_⟩) hHeld ?_ ?_
         rotate_left
         ·rintro w' ⟨s0, s1, s2, s3, s4, s5, s6, s7, s8, s9, s10⟩
          go_simp
          with_reducible rfl
         rotate_left
         ·simp only [Act.put, setIfInBounds_toArray, set_cons_zero, set_cons_succ, i64_w, i32_w]
          rfl
         refine pure_ (i := 32) (N := some 44) (v := ?_) (a' := ?_) #[true, true, true, true, true, true, true, true, true, true, true, true, true, true, true, true, true, true, true, true, true, true, true, true, true, true, true, true, true, true, true, true, true, false, false, false, true, false, false] rfl rfl (any_of HT_.out (by kernel_rfl)) (fun _ _ _ h => h) (Or.inl ⟨by rfl, ?_⟩) ?_ ?_
         rotate_left
         ·intro w'
          go_simp
          with_reducible rfl
         rotate_left
         ·simp only [Act.put, setIfInBounds_toArray, set_cons_zero, set_cons_succ, i64_w, i32_w]
          rfl
         refine pure_ (i := 33) (N := some 45) (v := ?_) (a' := ?_) #[true, true, true, true, true, true, true, true, true, true, true, true, true, true, true, true, true, true, true, true, true, true, true, true, true, true, true, true, true, true, true, true, true, true, false, false, true, false, false] rfl rfl (any_of HT_.out (by kernel_rfl)) (fun _ _ _ h => h) (Or.inl ⟨by rfl, ?_⟩) ?_ ?_
         rotate_left
         ·intro w'
          go_simp
          with_reducible rfl
         rotate_left
         ·simp only [Act.put, setIfInBounds_toArray, set_cons_zero, set_cons_succ, i64_w, i32_w]
          rfl
         refine take_ (i := 34) (N := some 46) (v := ?_) (a' := ?_) #[true, true, true, true, true, true, true, true, true, true, true, true, true, true, true, true, true, true, true, true, true, true, true, true, true, true, true, true, true, true, true, true, true, true, true, false, true, false, false] rfl rfl (take_ofW HT_.out HW_.out (by kernel_rfl)) (fun _ _ _ h => h) (Or.inl ⟨by rfl, ?_⟩) hHeld ?_ ?_
         rotate_left
         ·rintro w' ⟨s0, s1, s2, s3, s4, s5, s6, s7, s8, s9, s10⟩
          go_simp
          with_reducible rfl
         rotate_left
         ·simp only [Act.put, setIfInBounds_toArray, set_cons_zero, set_cons_succ, i64_w, i32_w]
          rfl
         refine one_ (i := 35) (N := some 47) #[true, true, true, true, true, true, true, true, true, true, true, true, true, true, true, true, true, true, true, true, true, true, true, true, true, true, true, true, true, true, true, true, true, true, true, true, true, false, false] rfl rfl (one_of HT_.out (by kernel_rfl)) (by decide) (fun K hK => ?_)
         refine goes_ Tryz.func32 (by kernel_rfl) rfl #[.slice (some ad153) e1.length c0_1, .string ((rd_T44 e1 x3_1).f0)] (by rfl) rfl rfl (by (try simp only [List.map_toArray, List.map_cons, List.map_nil]); first | done | rfl | (simp only [List.length_drop, List.length_take]; rfl)) ?_
         with_reducible refine (crucibleref1_poolAt.calls k1 _ _ e1 ((rd_T44 e1 x3_1).f0) t158 _ ?side1 ?side2 A13.out).mono ?_
         (case side1 => repeat (first | exact (Kd.C_below HR0_1.out (by repeat (first | (with_reducible first | exact HB.out | apply below_alloc | apply pw_below_drewN | apply below_drew1 | refine below_set ?_ GE152.out) | exact HB.out))) | (with_reducible refine Kd.C_alloc ?_ _) | (with_reducible refine Kd.C_drewN ?_ _) | (with_reducible refine Kd.C_drew ?_)))
         (case side2 => exact HC0_1.out)
         rintro e w' ⟨rfl, ⟨nd, rfl⟩⟩
         refine ⟨_, rfl, ?_⟩
         refine hK.out _ _ ⟨(blk_cell BK.out 0).trans rfl, (blk_cell BK.out 1).trans rfl, (blk_cell BK.out 2).trans rfl, ((HB.out.cell (block_lt_of_cell? w _ hw153_0)).trans hw153_0), ((HB.out.cell (block_lt_of_cell? w _ hw153_1)).trans hw153_1), ((HB.out.cell (block_lt_of_cell? w _ hw155_0)).trans hw155_0), ((HB.out.cell (block_lt_of_cell? w _ hw155_1)).trans hw155_1), ((HB.out.cell (block_lt_of_cell? w _ hw156_0)).trans hw156_0), ((HB.out.cell (block_lt_of_cell? w _ hw156_1)).trans hw156_1), ((HB.out.cell (block_lt_of_cell? w _ hw157_0)).trans hw157_0), ((HB.out.cell (block_lt_of_cell? w _ hw157_1)).trans hw157_1)⟩ (fun hHeld => ?_)
         clear hK K
         refine norm_ (a' := ?_) ?_ ?_
         rotate_left
         ·show Act.put _ (some 47) _ = _
          simp only [Act.put, setIfInBounds_toArray, set_cons_zero, set_cons_succ, i64_w, i32_w]
          rfl
         refine pure_ (i := 37) (N := some 49) (v := ?_) (a' := ?_) #[true, true, true, true, true, true, true, true, true, true, true, true, true, true, true, true, true, true, true, true, true, true, true, true, true, true, true, true, true, true, true, true, true, true, true, true, true, true, false] rfl rfl (any_of HT_.out (by kernel_rfl)) (fun _ _ _ h => h) (Or.inl ⟨by rfl, ?_⟩) ?_ ?_
         rotate_left
         ·intro w'
          go_simp
          with_reducible rfl
         rotate_left
         ·simp only [Act.put, setIfInBounds_toArray, set_cons_zero, set_cons_succ, i64_w, i32_w]
          rfl
         refine pure_ (i := 38) (N := some 50) (v := ?_) (a' := ?_) #[true, true, true, true, true, true, true, true, true, true, true, true, true, true, true, true, true, true, true, true, true, true, true, true, true, true, true, true, true, true, true, true, true, true, true, true, true, true, true] rfl rfl (any_of HT_.out (by kernel_rfl)) (fun _ _ _ h => h) (Or.inl ⟨by rfl, ?_⟩) ?_ ?_
         rotate_left
         ·intro w'
          go_simp
          with_reducible rfl
         rotate_left
         ·simp only [Act.put, setIfInBounds_toArray, set_cons_zero, set_cons_succ, i64_w, i32_w]
          rfl
         refine done_ (done_of HT_.out (by kernel_rfl)) ?_
         try go_wp2
         go_roundg k1
         case measure => have := HK1.out; omega
         case rel => exact ⟨(wrap64 (x3_1 + 1)), (by first | rfl | (simp; done) | (simp [*]; done)), H', ⟨by have := HK1.out; omega⟩, ⟨by (with_reducible repeat (first | refine blk_drewN ?_ _ | refine blk_drew ?_ | refine blk_alloc ?_ _)); exact BK.out⟩, ⟨by repeat (first | (with_reducible first | exact HB.out | apply below_alloc | apply pw_below_drewN | apply below_drew1 | refine below_set ?_ GE152.out) | exact HB.out)⟩⟩
        ·rw [if_neg c14] at H
         have c14b0 : (t158 == x3_1) = false := beq_eq_false_iff_ne.mpr c14
         have c14b1 : (t158 != x3_1) = true := bne_iff_ne.mpr c14
         obtain rfl := Option.some.inj H
         exact absurd HRR.out (by decide)
     ·replace c6 := Bool.eq_false_iff.mpr c6
      subst c6
      have H1 : (some false) = some r := by rw [if_neg (show ¬ (false = true) by decide)] at H; exact H
      clear H
      have H := H1
      clear H1
      obtain rfl := Option.some.inj H
      exact absurd HRR.out (by decide)
    ·rw [if_neg c4] at H
     exact absurd H (by simp)
   ·rw [if_neg c3] at H
    have c3b0 : decide (x3_1 < (e1.length : Int)) = false := decide_eq_false c3
    clear c3
    have H' := Aside0.mk H
    clear H
    have hcz21_0 : wr.cell? ⟨gb, 0, none⟩ = some (.slice A0_0 e0.length c0_0) := (blk_cell BK.out 0).trans rfl
    have hcz21_1 : wr.cell? ⟨gb, 1, none⟩ = some (.slice A0_1 e1.length c0_1) := (blk_cell BK.out 1).trans rfl
    have hcz21_2 : wr.cell? ⟨gb, 2, none⟩ = some (.slice A0_2 e2.length c0_2) := (blk_cell BK.out 2).trans rfl
    have hfz21_0 := blk_frozen BK.out 0
    have hfz21_1 := blk_frozen BK.out 1
    have hfz21_2 := blk_frozen BK.out 2
    go_wp2
    go_loopg [4] k1 (fun kq v4 w' => ∃ (x4_2 : Int), v4 = .int .i64 x4_2 ∧ Aside0 (crucibleref1_GraphMay.l1 kq x4_2 e0 e1 e2 = some r) ∧ Aside0 (kq ≤ k1) ∧ Aside0 (w'.heap[gb]? = some (.cells #[(.slice A0_0 e0.length c0_0), (.slice A0_1 e1.length c0_1), (.slice A0_2 e2.length c0_2)] 26 (0, 0))) ∧ Aside0 (Below w.heap.size w w'))
    case atStart => exact ⟨(0), (by first | rfl | (simp; done) | (simp [*]; done)), H', ⟨Nat.le_refl _⟩, ⟨by (with_reducible repeat (first | refine blk_drewN ?_ _ | refine blk_drew ?_ | refine blk_alloc ?_ _)); exact BK.out⟩, ⟨by repeat (first | (with_reducible first | exact HB.out | apply below_alloc | apply pw_below_drewN | apply below_drew1 | refine below_set ?_ GE152.out) | exact HB.out)⟩⟩
    case round =>
     clear H'
     try clear p1
     try clear q1
     try clear hx1
     try clear p2
     try clear c3
     try clear c3b0
     try clear c4
     try clear c6
     try clear p15
     try clear q15
     try clear hx15
     try clear hcz19_0
     try clear hcz19_1
     try clear hcz19_2
     try clear hcz21_0
     try clear hcz21_1
     try clear hcz21_2
     try clear hfz19_0
     try clear hfz19_1
     try clear hfz19_2
     try clear hfz21_0
     try clear hfz21_1
     try clear hfz21_2
     try clear hx153_0
     try clear hx153_1
     try clear hx155_0
     try clear hx155_1
     try clear hx156_0
     try clear hx156_1
     try clear hx157_0
     try clear hx157_1
     try clear p153
     try clear q153
     try clear q157
     obtain ⟨x4_2, rfl, HA, HK2, BK, HB⟩ := hrel
     cases gk with
     | zero => exact absurd HA.out (by simp [crucibleref1_GraphMay.l1])
     | succ k2 =>
      have H := HA.out
      clear HA
      simp only [crucibleref1_GraphMay.l1] at H
      by_cases c22 : x4_2 < (e0.length : Int)
      ·rw [if_pos c22] at H
       have c22b0 : decide (x4_2 < (e0.length : Int)) = true := decide_eq_true c22
       clear c22
       by_cases c23 : 0 ≤ x4_2
       ·rw [if_pos c23] at H
        have c23b0 : decide (0 ≤ x4_2) = true := decide_eq_true c23
        clear c23
        replace H := Option.bind_eq_some_iff.mp H
        obtain ⟨t161, A240, H⟩ := H
        replace H : (if t161 = true then (if ((rd_T42 e0 x4_2).f6).toList = ([] : List UInt8) then (crucibleref1_GraphMay.l1 k2 (wrap64 (x4_2 + 1)) e0 e1 e2) else ((crucibleref1_poolAt.f k2 e1 ((rd_T42 e0 x4_2).f6)).bind fun t164 => (if t164 < 0 then (some false) else (crucibleref1_GraphMay.l1 k2 (wrap64 (x4_2 + 1)) e0 e1 e2)))) else (some false)) = some r := H
        have A24 := Aside0.mk A240
        clear A240
        by_cases c25 : t161 = true
        ·subst c25
         have H1 : (if ((rd_T42 e0 x4_2).f6).toList = ([] : List UInt8) then (crucibleref1_GraphMay.l1 k2 (wrap64 (x4_2 + 1)) e0 e1 e2) else ((crucibleref1_poolAt.f k2 e1 ((rd_T42 e0 x4_2).f6)).bind fun t164 => (if t164 < 0 then (some false) else (crucibleref1_GraphMay.l1 k2 (wrap64 (x4_2 + 1)) e0 e1 e2)))) = some r := by rw [if_pos rfl] at H; exact H
         clear H
         have H := H1
         clear H1
         by_cases c26 : ((rd_T42 e0 x4_2).f6).toList = ([] : List UInt8)
         ·rw [if_pos c26] at H
          have c26b0 : (((rd_T42 e0 x4_2).f6).toList == ([] : List UInt8)) = true := beq_iff_eq.mpr c26
          have c26b1 : (((rd_T42 e0 x4_2).f6).toList != ([] : List UInt8)) = false := bne_eq_false_iff_eq.mpr c26
          clear c26
          have H' := Aside0.mk H
          clear H
          have hcz27_0 : wr.cell? ⟨gb, 0, none⟩ = some (.slice A0_0 e0.length c0_0) := (blk_cell BK.out 0).trans rfl
          have hcz27_1 : wr.cell? ⟨gb, 1, none⟩ = some (.slice A0_1 e1.length c0_1) := (blk_cell BK.out 1).trans rfl
          have hcz27_2 : wr.cell? ⟨gb, 2, none⟩ = some (.slice A0_2 e2.length c0_2) := (blk_cell BK.out 2).trans rfl
          have hfz27_0 := blk_frozen BK.out 0
          have hfz27_1 := blk_frozen BK.out 1
          have hfz27_2 := blk_frozen BK.out 2
          try go_wp2
          have n0_ := Aside0.mk (blk_drew BK.out)
          have n1_ := Aside0.mk (below_drew1 HB.out)
          clear BK
          clear HB
          have BK := n0_
          have HB := n1_
          clear n0_ n1_
          have p160 : 0 ≤ (x4_2 : Int) := of_decide_eq_true (by first | (with_reducible assumption) | assumption)
          have q160 : x4_2 < (e0.length : Int) := of_decide_eq_true (by first | (with_reducible assumption) | assumption)
          obtain ⟨ad160, A160_0, c160_0, A160_1, c160_1, A160_2, c160_2, A160_3, c160_3, e160, hx160_0, hx160_1, hx160_2, hx160_3, hx160_4, hx160_5, hx160_6, hl160_0, hi160_0, hl160_1, hi160_1, hl160_2, hi160_2, hl160_3, hi160_3⟩ := at_T42 HR0_0.out x4_2 p160 q160
          have hw160_6 := hx160_6
          have hw160_5 := hx160_5
          have hw160_4 := hx160_4
          have hw160_3 := hx160_3
          have hw160_2 := hx160_2
          have hw160_1 := hx160_1
          have hw160_0 := hx160_0
          cases e160
          replace hx160_0 := (HB.out.cell (block_lt_of_cell? w _ hx160_0)).trans hx160_0
          replace hx160_1 := (HB.out.cell (block_lt_of_cell? w _ hx160_1)).trans hx160_1
          replace hx160_2 := (HB.out.cell (block_lt_of_cell? w _ hx160_2)).trans hx160_2
          replace hx160_3 := (HB.out.cell (block_lt_of_cell? w _ hx160_3)).trans hx160_3
          replace hx160_4 := (HB.out.cell (block_lt_of_cell? w _ hx160_4)).trans hx160_4
          replace hx160_5 := (HB.out.cell (block_lt_of_cell? w _ hx160_5)).trans hx160_5
          replace hx160_6 := (HB.out.cell (block_lt_of_cell? w _ hx160_6)).trans hx160_6
          have HR160_0 := Aside0.mk hi160_0
          have HC160_0 := Aside0.mk hl160_0
          clear hi160_0 hl160_0
          have HR160_1 := Aside0.mk hi160_1
          have HC160_1 := Aside0.mk hl160_1
          clear hi160_1 hl160_1
          have HR160_2 := Aside0.mk hi160_2
          have HC160_2 := Aside0.mk hl160_2
          clear hi160_2 hl160_2
          have HR160_3 := Aside0.mk hi160_3
          have HC160_3 := Aside0.mk hl160_3
          clear hi160_3 hl160_3
          replace p160 := eq_true p160
          replace q160 := eq_true q160
          have p162 : 0 ≤ (x4_2 : Int) := of_decide_eq_true (by first | (with_reducible assumption) | assumption)
          have q162 : x4_2 < (e0.length : Int) := of_decide_eq_true (by first | (with_reducible assumption) | assumption)
          obtain ⟨ad162, A162_0, c162_0, A162_1, c162_1, A162_2, c162_2, A162_3, c162_3, e162, hx162_0, hx162_1, hx162_2, hx162_3, hx162_4, hx162_5, hx162_6, hl162_0, hi162_0, hl162_1, hi162_1, hl162_2, hi162_2, hl162_3, hi162_3⟩ := at_T42 HR0_0.out x4_2 p162 q162
          have hw162_6 := hx162_6
          have hw162_5 := hx162_5
          have hw162_4 := hx162_4
          have hw162_3 := hx162_3
          have hw162_2 := hx162_2
          have hw162_1 := hx162_1
          have hw162_0 := hx162_0
          obtain rfl : ad160 = ad162 := (by injection e162)
          replace hx162_0 := (HB.out.cell (block_lt_of_cell? w _ hx162_0)).trans hx162_0
          replace hx162_1 := (HB.out.cell (block_lt_of_cell? w _ hx162_1)).trans hx162_1
          replace hx162_2 := (HB.out.cell (block_lt_of_cell? w _ hx162_2)).trans hx162_2
          replace hx162_3 := (HB.out.cell (block_lt_of_cell? w _ hx162_3)).trans hx162_3
          replace hx162_4 := (HB.out.cell (block_lt_of_cell? w _ hx162_4)).trans hx162_4
          replace hx162_5 := (HB.out.cell (block_lt_of_cell? w _ hx162_5)).trans hx162_5
          replace hx162_6 := (HB.out.cell (block_lt_of_cell? w _ hx162_6)).trans hx162_6
          have HR162_0 := Aside0.mk hi162_0
          have HC162_0 := Aside0.mk hl162_0
          clear hi162_0 hl162_0
          have HR162_1 := Aside0.mk hi162_1
          have HC162_1 := Aside0.mk hl162_1
          clear hi162_1 hl162_1
          have HR162_2 := Aside0.mk hi162_2
          have HC162_2 := Aside0.mk hl162_2
          clear hi162_2 hl162_2
          have HR162_3 := Aside0.mk hi162_3
          have HC162_3 := Aside0.mk hl162_3
          clear hi162_3 hl162_3
          replace p162 := eq_true p162
          replace q162 := eq_true q162
          refine start_ (n := 28) (S := fun w' => w'.cell? ⟨gb, 0, none⟩ = some (.slice (some ad160) e0.length c0_0) ∧ w'.cell? ⟨gb, 1, none⟩ = some (.slice A0_1 e1.length c0_1) ∧ w'.cell? ⟨gb, 2, none⟩ = some (.slice A0_2 e2.length c0_2) ∧ w'.cell? (ad160.add ((x4_2).toNat * 7)) = some (.slice A160_0 ((rd_T42 e0 x4_2).f0).length c160_0) ∧ w'.cell? ⟨(ad160.add ((x4_2).toNat * 7)).block, (ad160.add ((x4_2).toNat * 7)).off + 1, none⟩ = some (.slice A160_1 ((rd_T42 e0 x4_2).f1).length c160_1) ∧ w'.cell? ⟨(ad160.add ((x4_2).toNat * 7)).block, (ad160.add ((x4_2).toNat * 7)).off + 2, none⟩ = some (.slice A160_2 ((rd_T42 e0 x4_2).f2).length c160_2) ∧ w'.cell? ⟨(ad160.add ((x4_2).toNat * 7)).block, (ad160.add ((x4_2).toNat * 7)).off + 3, none⟩ = some (.slice A160_3 ((rd_T42 e0 x4_2).f3).length c160_3) ∧ w'.cell? ⟨(ad160.add ((x4_2).toNat * 7)).block, (ad160.add ((x4_2).toNat * 7)).off + 4, none⟩ = some (.string ((rd_T42 e0 x4_2).f4)) ∧ w'.cell? ⟨(ad160.add ((x4_2).toNat * 7)).block, (ad160.add ((x4_2).toNat * 7)).off + 5, none⟩ = some (.bool ((rd_T42 e0 x4_2).f5)) ∧ w'.cell? ⟨(ad160.add ((x4_2).toNat * 7)).block, (ad160.add ((x4_2).toNat * 7)).off + 6, none⟩ = some (.string ((rd_T42 e0 x4_2).f6)) ∧ w'.cell? (ad160.add ((x4_2).toNat * 7)) = some (.slice A162_0 ((rd_T42 e0 x4_2).f0).length c162_0) ∧ w'.cell? ⟨(ad160.add ((x4_2).toNat * 7)).block, (ad160.add ((x4_2).toNat * 7)).off + 1, none⟩ = some (.slice A162_1 ((rd_T42 e0 x4_2).f1).length c162_1) ∧ w'.cell? ⟨(ad160.add ((x4_2).toNat * 7)).block, (ad160.add ((x4_2).toNat * 7)).off + 2, none⟩ = some (.slice A162_2 ((rd_T42 e0 x4_2).f2).length c162_2) ∧ w'.cell? ⟨(ad160.add ((x4_2).toNat * 7)).block, (ad160.add ((x4_2).toNat * 7)).off + 3, none⟩ = some (.slice A162_3 ((rd_T42 e0 x4_2).f3).length c162_3) ∧ w'.cell? ⟨(ad160.add ((x4_2).toNat * 7)).block, (ad160.add ((x4_2).toNat * 7)).off + 4, none⟩ = some (.string ((rd_T42 e0 x4_2).f4)) ∧ w'.cell? ⟨(ad160.add ((x4_2).toNat * 7)).block, (ad160.add ((x4_2).toNat * 7)).off + 5, none⟩ = some (.bool ((rd_T42 e0 x4_2).f5)) ∧ w'.cell? ⟨(ad160.add ((x4_2).toNat * 7)).block, (ad160.add ((x4_2).toNat * 7)).off + 6, none⟩ = some (.string ((rd_T42 e0 x4_2).f6))) (ds := []) #[false, false, false, false, false, false, false, false, false, false, false, false, false, false, false, false, false, false, false, false, false, false, false, false, false, false, false, false] (by kernel_rfl) rfl rfl ⟨(blk_cell BK.out 0).trans rfl, (blk_cell BK.out 1).trans rfl, (blk_cell BK.out 2).trans rfl, ((HB.out.cell (block_lt_of_cell? w _ hw160_0)).trans hw160_0), ((HB.out.cell (block_lt_of_cell? w _ hw160_1)).trans hw160_1), ((HB.out.cell (block_lt_of_cell? w _ hw160_2)).trans hw160_2), ((HB.out.cell (block_lt_of_cell? w _ hw160_3)).trans hw160_3), ((HB.out.cell (block_lt_of_cell? w _ hw160_4)).trans hw160_4), ((HB.out.cell (block_lt_of_cell? w _ hw160_5)).trans hw160_5), ((HB.out.cell (block_lt_of_cell? w _ hw160_6)).trans hw160_6), ((HB.out.cell (block_lt_of_cell? w _ hw162_0)).trans hw162_0), ((HB.out.cell (block_lt_of_cell? w _ hw162_1)).trans hw162_1), ((HB.out.cell (block_lt_of_cell? w _ hw162_2)).trans hw162_2), ((HB.out.cell (block_lt_of_cell? w _ hw162_3)).trans hw162_3), ((HB.out.cell (block_lt_of_cell? w _ hw162_4)).trans hw162_4), ((HB.out.cell (block_lt_of_cell? w _ hw162_5)).trans hw162_5), ((HB.out.cell (block_lt_of_cell? w _ hw162_6)).trans hw162_6)⟩ (fun hHeld => ?_); refine with_tabW crucibleref1_GraphMay.tab9 crucibleref1_GraphMay.bits9 (fun HT_ HW_ => ?_)
          generalize wr.drew = w28 at BK HB HR160_0 HR160_1 HR160_2 HR160_3 HR162_0 HR162_1 HR162_2 HR162_3 hx160_0 hx160_1 hx160_2 hx160_3 hx160_4 hx160_5 hx160_6 hx162_0 hx162_1 hx162_2 hx162_3 hx162_4 hx162_5 hx162_6 hHeld ⊢
          refine pure_ (i := 0) (N := some 58) (v := ?_) (a' := ?_) #[true, false, false, false, false, false, false, false, false, false, false, false, false, false, false, false, false, false, false, false, false, false, false, false, false, false, false, false] rfl rfl (any_of HT_.out (by kernel_rfl)) (fun _ _ _ h => h) (Or.inl ⟨by rfl, ?_⟩) ?_ ?_
          rotate_left
          ·intro w'
           go_simp
           with_reducible rfl
          rotate_left
          ·simp only [Act.put, setIfInBounds_toArray, set_cons_zero, set_cons_succ, i64_w, i32_w]
           rfl
          refine pure_ (i := 2) (N := some 60) (v := ?_) (a' := ?_) #[true, false, true, false, false, false, false, false, false, false, false, false, false, false, false, false, false, false, false, false, false, false, false, false, false, false, false, false] rfl rfl (any_of HT_.out (by kernel_rfl)) (fun _ _ _ h => h) (Or.inl ⟨by rfl, ?_⟩) ?_ ?_
          rotate_left
          ·intro w'
           go_simp
           with_reducible rfl
          rotate_left
          ·simp only [Act.put, setIfInBounds_toArray, set_cons_zero, set_cons_succ, i64_w, i32_w]
           rfl
          refine take_ (i := 1) (N := some 59) (v := ?_) (a' := ?_) #[true, true, true, false, false, false, false, false, false, false, false, false, false, false, false, false, false, false, false, false, false, false, false, false, false, false, false, false] rfl rfl (take_ofW HT_.out HW_.out (by kernel_rfl)) (fun _ _ _ h => h) (Or.inl ⟨by rfl, ?_⟩) hHeld ?_ ?_
          rotate_left
          ·rintro w' ⟨s0, s1, s2, s3, s4, s5, s6, s7, s8, s9, s10, s11, s12, s13, s14, s15, s16⟩
           go_simp
           with_reducible rfl
          rotate_left
          ·simp only [Act.put, setIfInBounds_toArray, set_cons_zero, set_cons_succ, i64_w, i32_w]
           rfl
          refine pure_ (i := 3) (N := some 61) (v := ?_) (a' := ?_) #[true, true, true, true, false, false, false, false, false, false, false, false, false, false, false, false, false, false, false, false, false, false, false, false, false, false, false, false] rfl rfl (any_of HT_.out (by kernel_rfl)) (fun _ _ _ h => h) (Or.inl ⟨by rfl, ?_⟩) ?_ ?_
          rotate_left
          ·intro w'
           go_simp
           with_reducible rfl
          rotate_left
          ·simp only [Act.put, setIfInBounds_toArray, set_cons_zero, set_cons_succ, i64_w, i32_w]
           rfl
          refine take_ (i := 4) (N := some 62) (v := ?_) (a' := ?_) #[true, true, true, true, true, false, false, false, false, false, false, false, false, false, false, false, false, false, false, false, false, false, false, false, false, false, false, false] rfl rfl (take_ofW HT_.out HW_.out (by kernel_rfl)) (fun _ _ _ h => h) (Or.inl ⟨by rfl, ?_⟩) hHeld ?_ ?_
          rotate_left
          ·rintro w' ⟨s0, s1, s2, s3, s4, s5, s6, s7, s8, s9, s10, s11, s12, s13, s14, s15, s16⟩
           go_simp
           with_reducible rfl
          rotate_left
          ·simp only [Act.put, setIfInBounds_toArray, set_cons_zero, set_cons_succ, i64_w, i32_w]
           rfl
          refine one_ (i := 5) (N := some 63) #[true, true, true, true, true, true, false, false, false, false, false, false, false, false, false, false, false, false, false, false, false, false, false, false, false, false, false, false] rfl rfl (one_of HT_.out (by kernel_rfl)) (by decide) (fun K hK => ?_)
          refine goes_ Tryz.func33 (by kernel_rfl) rfl #[.agg #[.slice A160_0 ((rd_T42 e0 x4_2).f0).length c160_0, .slice A160_1 ((rd_T42 e0 x4_2).f1).length c160_1, .slice A160_2 ((rd_T42 e0 x4_2).f2).length c160_2, .slice A160_3 ((rd_T42 e0 x4_2).f3).length c160_3, .string ((rd_T42 e0 x4_2).f4), .bool ((rd_T42 e0 x4_2).f5), .string ((rd_T42 e0 x4_2).f6)]] (by rfl) rfl rfl (by (try simp only [List.map_toArray, List.map_cons, List.map_nil]); first | done | rfl | (simp only [List.length_drop, List.length_take]; rfl)) ?_
          with_reducible refine (crucibleref1_EdgeMay.calls k2 _ _ ((rd_T42 e0 x4_2).f0) _ _ ((rd_T42 e0 x4_2).f1) _ _ ((rd_T42 e0 x4_2).f2) _ _ ((rd_T42 e0 x4_2).f3) ((rd_T42 e0 x4_2).f4) ((rd_T42 e0 x4_2).f5) ((rd_T42 e0 x4_2).f6) true _ ?side1 ?side2 ?side3 ?side4 ?side5 ?side6 ?side7 ?side8 A24.out).mono ?_
          (case side1 => repeat (first | exact (Kd.C_below HR160_0.out HB.out) | (with_reducible refine Kd.C_alloc ?_ _) | (with_reducible refine Kd.C_drewN ?_ _) | (with_reducible refine Kd.C_drew ?_)))
          (case side2 => exact HC160_0.out)
          (case side3 => repeat (first | exact (Kd.C_below HR160_1.out HB.out) | (with_reducible refine Kd.C_alloc ?_ _) | (with_reducible refine Kd.C_drewN ?_ _) | (with_reducible refine Kd.C_drew ?_)))
          (case side4 => exact HC160_1.out)
          (case side5 => repeat (first | exact (Kd.C_below HR160_2.out HB.out) | (with_reducible refine Kd.C_alloc ?_ _) | (with_reducible refine Kd.C_drewN ?_ _) | (with_reducible refine Kd.C_drew ?_)))
          (case side6 => exact HC160_2.out)
          (case side7 => repeat (first | exact (Kd.C_below HR160_3.out HB.out) | (with_reducible refine Kd.C_alloc ?_ _) | (with_reducible refine Kd.C_drewN ?_ _) | (with_reducible refine Kd.C_drew ?_)))
          (case side8 => exact HC160_3.out)
          rintro e w29 ⟨rfl, hb⟩
          refine ⟨_, rfl, ?_⟩
          have n0_ := Aside0.mk (blk_below (g := gb) (o := .cells #[.slice (some ad160) e0.length c0_0, .slice A0_1 e1.length c0_1, .slice A0_2 e2.length c0_2] 26 (0, 0)) (by (with_reducible repeat (first | refine blk_drewN ?_ _ | refine blk_drew ?_ | refine blk_alloc ?_ _)); exact BK.out) hb)
          have n1_ := Aside0.mk (below_step (by repeat (first | (with_reducible first | exact HB.out | apply below_alloc | apply pw_below_drewN | apply below_drew1 | refine below_set ?_ GE152.out) | exact HB.out)) hb)
          clear BK
          clear HB
          have BK := n0_
          have HB := n1_
          clear n0_ n1_
          (try clear hb)
          (try clear hb2)
          (try clear hk)
          (try clear hi)
          refine hK.out _ _ ⟨(blk_cell BK.out 0).trans rfl, (blk_cell BK.out 1).trans rfl, (blk_cell BK.out 2).trans rfl, ((HB.out.cell (block_lt_of_cell? w _ hw160_0)).trans hw160_0), ((HB.out.cell (block_lt_of_cell? w _ hw160_1)).trans hw160_1), ((HB.out.cell (block_lt_of_cell? w _ hw160_2)).trans hw160_2), ((HB.out.cell (block_lt_of_cell? w _ hw160_3)).trans hw160_3), ((HB.out.cell (block_lt_of_cell? w _ hw160_4)).trans hw160_4), ((HB.out.cell (block_lt_of_cell? w _ hw160_5)).trans hw160_5), ((HB.out.cell (block_lt_of_cell? w _ hw160_6)).trans hw160_6), ((HB.out.cell (block_lt_of_cell? w _ hw162_0)).trans hw162_0), ((HB.out.cell (block_lt_of_cell? w _ hw162_1)).trans hw162_1), ((HB.out.cell (block_lt_of_cell? w _ hw162_2)).trans hw162_2), ((HB.out.cell (block_lt_of_cell? w _ hw162_3)).trans hw162_3), ((HB.out.cell (block_lt_of_cell? w _ hw162_4)).trans hw162_4), ((HB.out.cell (block_lt_of_cell? w _ hw162_5)).trans hw162_5), ((HB.out.cell (block_lt_of_cell? w _ hw162_6)).trans hw162_6)⟩ (fun hHeld => ?_)
          clear hK K
          refine norm_ (a' := ?_) ?_ ?_
          rotate_left
          ·show Act.put _ (some 63) _ = _
           simp only [Act.put, setIfInBounds_toArray, set_cons_zero, set_cons_succ, i64_w, i32_w]
           rfl
          refine pure_ (i := 6) (N := some 64) (v := ?_) (a' := ?_) #[true, true, true, true, true, true, true, false, false, false, false, false, false, false, false, false, false, false, false, false, false, false, false, false, false, false, false, false] rfl rfl (any_of HT_.out (by kernel_rfl)) (fun _ _ _ h => h) (Or.inl ⟨by rfl, ?_⟩) ?_ ?_
          rotate_left
          ·intro w'
           go_simp
           with_reducible rfl
          rotate_left
          ·simp only [Act.put, setIfInBounds_toArray, set_cons_zero, set_cons_succ, i64_w, i32_w]
           rfl
          refine pure_ (i := 7) (N := some 65) (v := ?_) (a' := ?_) #[true, true, true, true, true, true, true, true, false, false, false, false, false, false, false, false, false, false, false, false, false, false, false, false, false, false, false, false] rfl rfl (any_of HT_.out (by kernel_rfl)) (fun _ _ _ h => h) (Or.inl ⟨by rfl, ?_⟩) ?_ ?_
          rotate_left
          ·intro w'
           go_simp
           with_reducible rfl
          rotate_left
          ·simp only [Act.put, setIfInBounds_toArray, set_cons_zero, set_cons_succ, i64_w, i32_w]
           rfl
          refine pure_ (i := 8) (N := some 66) (v := ?_) (a' := ?_) #[true, true, true, true, true, true, true, true, true, false, false, false, false, false, false, false, false, false, false, false, false, false, false, false, false, false, false, false] rfl rfl (any_of HT_.out (by kernel_rfl)) (fun _ _ _ h => h) (Or.inl ⟨by rfl, ?_⟩) ?_ ?_
          rotate_left
          ·intro w'
           go_simp
           with_reducible rfl
          rotate_left
          ·simp only [Act.put, setIfInBounds_toArray, set_cons_zero, set_cons_succ, i64_w, i32_w]
           rfl
          refine pure_ (i := 10) (N := some 68) (v := ?_) (a' := ?_) #[true, true, true, true, true, true, true, true, true, false, true, false, false, false, false, false, false, false, false, false, false, false, false, false, false, false, false, false] rfl rfl (any_of HT_.out (by kernel_rfl)) (fun _ _ _ h => h) (Or.inl ⟨by rfl, ?_⟩) ?_ ?_
          rotate_left
          ·intro w'
           go_simp
           with_reducible rfl
          rotate_left
          ·simp only [Act.put, setIfInBounds_toArray, set_cons_zero, set_cons_succ, i64_w, i32_w]
           rfl
          refine take_ (i := 9) (N := some 67) (v := ?_) (a' := ?_) #[true, true, true, true, true, true, true, true, true, true, true, false, false, false, false, false, false, false, false, false, false, false, false, false, false, false, false, false] rfl rfl (take_ofW HT_.out HW_.out (by kernel_rfl)) (fun _ _ _ h => h) (Or.inl ⟨by rfl, ?_⟩) hHeld ?_ ?_
          rotate_left
          ·rintro w' ⟨s0, s1, s2, s3, s4, s5, s6, s7, s8, s9, s10, s11, s12, s13, s14, s15, s16⟩
           go_simp
           with_reducible rfl
          rotate_left
          ·simp only [Act.put, setIfInBounds_toArray, set_cons_zero, set_cons_succ, i64_w, i32_w]
           rfl
          refine pure_ (i := 11) (N := some 69) (v := ?_) (a' := ?_) #[true, true, true, true, true, true, true, true, true, true, true, true, false, false, false, false, false, false, false, false, false, false, false, false, false, false, false, false] rfl rfl (any_of HT_.out (by kernel_rfl)) (fun _ _ _ h => h) (Or.inl ⟨by rfl, ?_⟩) ?_ ?_
          rotate_left
          ·intro w'
           go_simp
           with_reducible rfl
          rotate_left
          ·simp only [Act.put, setIfInBounds_toArray, set_cons_zero, set_cons_succ, i64_w, i32_w]
           rfl
          refine pure_ (i := 12) (N := some 70) (v := ?_) (a' := ?_) #[true, true, true, true, true, true, true, true, true, true, true, true, true, false, false, false, false, false, false, false, false, false, false, false, false, false, false, false] rfl rfl (any_of HT_.out (by kernel_rfl)) (fun _ _ _ h => h) (Or.inl ⟨by rfl, ?_⟩) ?_ ?_
          rotate_left
          ·intro w'
           go_simp
           with_reducible rfl
          rotate_left
          ·simp only [Act.put, setIfInBounds_toArray, set_cons_zero, set_cons_succ, i64_w, i32_w]
           rfl
          refine take_ (i := 13) (N := some 71) (v := ?_) (a' := ?_) #[true, true, true, true, true, true, true, true, true, true, true, true, true, true, false, false, false, false, false, false, false, false, false, false, false, false, false, false] rfl rfl (take_ofW HT_.out HW_.out (by kernel_rfl)) (fun _ _ _ h => h) (Or.inl ⟨by rfl, ?_⟩) hHeld ?_ ?_
          rotate_left
          ·rintro w' ⟨s0, s1, s2, s3, s4, s5, s6, s7, s8, s9, s10, s11, s12, s13, s14, s15, s16⟩
           go_simp
           with_reducible rfl
          rotate_left
          ·simp only [Act.put, setIfInBounds_toArray, set_cons_zero, set_cons_succ, i64_w, i32_w]
           rfl
          refine pure_ (i := 14) (N := some 72) (v := ?_) (a' := ?_) #[true, true, true, true, true, true, true, true, true, true, true, true, true, true, true, false, false, false, false, false, false, false, false, false, false, false, false, false] rfl rfl (any_of HT_.out (by kernel_rfl)) (fun _ _ _ h => h) (Or.inl ⟨by rfl, ?_⟩) ?_ ?_
          rotate_left
          ·intro w'
           go_simp
           with_reducible rfl
          rotate_left
          ·simp only [Act.put, setIfInBounds_toArray, set_cons_zero, set_cons_succ, i64_w, i32_w]
           rfl
          refine pure_ (i := 15) (N := some 73) (v := ?_) (a' := ?_) #[true, true, true, true, true, true, true, true, true, true, true, true, true, true, true, true, false, false, false, false, false, false, false, false, false, false, false, false] rfl rfl (any_of HT_.out (by kernel_rfl)) (fun _ _ _ h => h) (Or.inl ⟨by rfl, ?_⟩) ?_ ?_
          rotate_left
          ·intro w'
           go_simp
           with_reducible rfl
          rotate_left
          ·simp only [Act.put, setIfInBounds_toArray, set_cons_zero, set_cons_succ, i64_w, i32_w]
           rfl
          refine pure_ (i := 16) (N := some 74) (v := undef) (a' := ?_) #[true, true, true, true, true, true, true, true, true, true, true, true, true, true, true, true, true, false, false, false, false, false, false, false, false, false, false, false] rfl rfl (any_of HT_.out (by kernel_rfl)) (fun _ _ _ h => h) (Or.inr ⟨by rfl, rfl⟩) ?_ ?_
          rotate_left
          ·simp only [Act.put, setIfInBounds_toArray, set_cons_zero, set_cons_succ, i64_w, i32_w]
           rfl
          refine pure_ (i := 17) (N := some 75) (v := undef) (a' := ?_) #[true, true, true, true, true, true, true, true, true, true, true, true, true, true, true, true, true, true, false, false, false, false, false, false, false, false, false, false] rfl rfl (any_of HT_.out (by kernel_rfl)) (fun _ _ _ h => h) (Or.inr ⟨by rfl, rfl⟩) ?_ ?_
          rotate_left
          ·simp only [Act.put, setIfInBounds_toArray, set_cons_zero, set_cons_succ, i64_w, i32_w]
           rfl
          refine pure_ (i := 18) (N := some 76) (v := undef) (a' := ?_) #[true, true, true, true, true, true, true, true, true, true, true, true, true, true, true, true, true, true, true, false, false, false, false, false, false, false, false, false] rfl rfl (any_of HT_.out (by kernel_rfl)) (fun _ _ _ h => h) (Or.inr ⟨by rfl, rfl⟩) ?_ ?_
          rotate_left
          ·simp only [Act.put, setIfInBounds_toArray, set_cons_zero, set_cons_succ, i64_w, i32_w]
           rfl
          refine pure_ (i := 19) (N := some 77) (v := undef) (a' := ?_) #[true, true, true, true, true, true, true, true, true, true, true, true, true, true, true, true, true, true, true, true, false, false, false, false, false, false, false, false] rfl rfl (any_of HT_.out (by kernel_rfl)) (fun _ _ _ h => h) (Or.inr ⟨by rfl, rfl⟩) ?_ ?_
          rotate_left
          ·simp only [Act.put, setIfInBounds_toArray, set_cons_zero, set_cons_succ, i64_w, i32_w]
           rfl
          refine pure_ (i := 20) (N := some 78) (v := undef) (a' := ?_) #[true, true, true, true, true, true, true, true, true, true, true, true, true, true, true, true, true, true, true, true, true, false, false, false, false, false, false, false] rfl rfl (any_of HT_.out (by kernel_rfl)) (fun _ _ _ h => h) (Or.inr ⟨by rfl, rfl⟩) ?_ ?_
          rotate_left
          ·simp only [Act.put, setIfInBounds_toArray, set_cons_zero, set_cons_succ, i64_w, i32_w]
           rfl
          refine pure_ (i := 21) (N := some 79) (v := undef) (a' := ?_) #[true, true, true, true, true, true, true, true, true, true, true, true, true, true, true, true, true, true, true, true, true, true, false, false, false, false, false, false] rfl rfl (any_of HT_.out (by kernel_rfl)) (fun _ _ _ h => h) (Or.inr ⟨by rfl, rfl⟩) ?_ ?_
          rotate_left
          ·simp only [Act.put, setIfInBounds_toArray, set_cons_zero, set_cons_succ, i64_w, i32_w]
           rfl
          refine pure_ (i := 22) (N := some 80) (v := undef) (a' := ?_) #[true, true, true, true, true, true, true, true, true, true, true, true, true, true, true, true, true, true, true, true, true, true, true, false, false, false, false, false] rfl rfl (any_of HT_.out (by kernel_rfl)) (fun _ _ _ h => h) (Or.inr ⟨by rfl, rfl⟩) ?_ ?_
          rotate_left
          ·simp only [Act.put, setIfInBounds_toArray, set_cons_zero, set_cons_succ, i64_w, i32_w]
           rfl
          refine pure_ (i := 23) (N := some 81) (v := undef) (a' := ?_) #[true, true, true, true, true, true, true, true, true, true, true, true, true, true, true, true, true, true, true, true, true, true, true, true, false, false, false, false] rfl rfl (any_of HT_.out (by kernel_rfl)) (fun _ _ _ h => h) (Or.inr ⟨by rfl, rfl⟩) ?_ ?_
          rotate_left
          ·simp only [Act.put, setIfInBounds_toArray, set_cons_zero, set_cons_succ, i64_w, i32_w]
           rfl
          refine pure_ (i := 24) (N := some 82) (v := undef) (a' := ?_) #[true, true, true, true, true, true, true, true, true, true, true, true, true, true, true, true, true, true, true, true, true, true, true, true, true, false, false, false] rfl rfl (any_of HT_.out (by kernel_rfl)) (fun _ _ _ h => h) (Or.inr ⟨by rfl, rfl⟩) ?_ ?_
          rotate_left
          ·simp only [Act.put, setIfInBounds_toArray, set_cons_zero, set_cons_succ, i64_w, i32_w]
           rfl
          refine pure_ (i := 25) (N := some 83) (v := undef) (a' := ?_) #[true, true, true, true, true, true, true, true, true, true, true, true, true, true, true, true, true, true, true, true, true, true, true, true, true, true, false, false] rfl rfl (any_of HT_.out (by kernel_rfl)) (fun _ _ _ h => h) (Or.inr ⟨by rfl, rfl⟩) ?_ ?_
          rotate_left
          ·simp only [Act.put, setIfInBounds_toArray, set_cons_zero, set_cons_succ, i64_w, i32_w]
           rfl
          refine pure_ (i := 26) (N := some 84) (v := ?_) (a' := ?_) #[true, true, true, true, true, true, true, true, true, true, true, true, true, true, true, true, true, true, true, true, true, true, true, true, true, true, true, false] rfl rfl (any_of HT_.out (by kernel_rfl)) (fun _ _ _ h => h) (Or.inl ⟨by rfl, ?_⟩) ?_ ?_
          rotate_left
          ·intro w'
           go_simp
           with_reducible rfl
          rotate_left
          ·simp only [Act.put, setIfInBounds_toArray, set_cons_zero, set_cons_succ, i64_w, i32_w]
           rfl
          refine pure_ (i := 27) (N := some 85) (v := ?_) (a' := ?_) #[true, true, true, true, true, true, true, true, true, true, true, true, true, true, true, true, true, true, true, true, true, true, true, true, true, true, true, true] rfl rfl (any_of HT_.out (by kernel_rfl)) (fun _ _ _ h => h) (Or.inl ⟨by rfl, ?_⟩) ?_ ?_
          rotate_left
          ·intro w'
           go_simp
           with_reducible rfl
          rotate_left
          ·simp only [Act.put, setIfInBounds_toArray, set_cons_zero, set_cons_succ, i64_w, i32_w]
           rfl
          refine done_ (done_of HT_.out (by kernel_rfl)) ?_
          try go_wp2
          go_roundg k2
          case measure => have := HK1.out; have := HK2.out; omega
          case rel => exact ⟨(wrap64 (x4_2 + 1)), (by first | rfl | (simp; done) | (simp [*]; done)), H', ⟨by have := HK1.out; have := HK2.out; omega⟩, ⟨by (with_reducible repeat (first | refine blk_drewN ?_ _ | refine blk_drew ?_ | refine blk_alloc ?_ _)); exact BK.out⟩, ⟨by repeat (first | (with_reducible first | exact HB.out | apply below_alloc | apply pw_below_drewN | apply below_drew1 | refine below_set ?_ GE152.out) | exact HB.out)⟩⟩
         ·rw [if_neg c26] at H
          have c26b0 : (((rd_T42 e0 x4_2).f6).toList == ([] : List UInt8)) = false := beq_eq_false_iff_ne.mpr c26
          have c26b1 : (((rd_T42 e0 x4_2).f6).toList != ([] : List UInt8)) = true := bne_iff_ne.mpr c26
          replace H := Option.bind_eq_some_iff.mp H
          obtain ⟨t164, A300, H⟩ := H
          replace H : (if t164 < 0 then (some false) else (crucibleref1_GraphMay.l1 k2 (wrap64 (x4_2 + 1)) e0 e1 e2)) = some r := H
          have A30 := Aside0.mk A300
          clear A300
          by_cases c31 : t164 < 0
          ·rw [if_pos c31] at H
           have c31b0 : decide (t164 < 0) = true := decide_eq_true c31
           clear c31
           obtain rfl := Option.some.inj H
           exact absurd HRR.out (by decide)
          ·rw [if_neg c31] at H
           have c31b0 : decide (t164 < 0) = false := decide_eq_false c31
           clear c31
           have H' := Aside0.mk H
           clear H
           have hcz35_0 : wr.cell? ⟨gb, 0, none⟩ = some (.slice A0_0 e0.length c0_0) := (blk_cell BK.out 0).trans rfl
           have hcz35_1 : wr.cell? ⟨gb, 1, none⟩ = some (.slice A0_1 e1.length c0_1) := (blk_cell BK.out 1).trans rfl
           have hcz35_2 : wr.cell? ⟨gb, 2, none⟩ = some (.slice A0_2 e2.length c0_2) := (blk_cell BK.out 2).trans rfl
           have hfz35_0 := blk_frozen BK.out 0
           have hfz35_1 := blk_frozen BK.out 1
           have hfz35_2 := blk_frozen BK.out 2
           try go_wp2
           have n0_ := Aside0.mk (blk_drew BK.out)
           have n1_ := Aside0.mk (below_drew1 HB.out)
           clear BK
           clear HB
           have BK := n0_
           have HB := n1_
           clear n0_ n1_
           have p160 : 0 ≤ (x4_2 : Int) := of_decide_eq_true (by first | (with_reducible assumption) | assumption)
           have q160 : x4_2 < (e0.length : Int) := of_decide_eq_true (by first | (with_reducible assumption) | assumption)
           obtain ⟨ad160, A160_0, c160_0, A160_1, c160_1, A160_2, c160_2, A160_3, c160_3, e160, hx160_0, hx160_1, hx160_2, hx160_3, hx160_4, hx160_5, hx160_6, hl160_0, hi160_0, hl160_1, hi160_1, hl160_2, hi160_2, hl160_3, hi160_3⟩ := at_T42 HR0_0.out x4_2 p160 q160
           have hw160_6 := hx160_6
           have hw160_5 := hx160_5
           have hw160_4 := hx160_4
           have hw160_3 := hx160_3
           have hw160_2 := hx160_2
           have hw160_1 := hx160_1
           have hw160_0 := hx160_0
           cases e160
           replace hx160_0 := (HB.out.cell (block_lt_of_cell? w _ hx160_0)).trans hx160_0
           replace hx160_1 := (HB.out.cell (block_lt_of_cell? w _ hx160_1)).trans hx160_1
           replace hx160_2 := (HB.out.cell (block_lt_of_cell? w _ hx160_2)).trans hx160_2
           replace hx160_3 := (HB.out.cell (block_lt_of_cell? w _ hx160_3)).trans hx160_3
           replace hx160_4 := (HB.out.cell (block_lt_of_cell? w _ hx160_4)).trans hx160_4
           replace hx160_5 := (HB.out.cell (block_lt_of_cell? w _ hx160_5)).trans hx160_5
           replace hx160_6 := (HB.out.cell (block_lt_of_cell? w _ hx160_6)).trans hx160_6
           have HR160_0 := Aside0.mk hi160_0
           have HC160_0 := Aside0.mk hl160_0
           clear hi160_0 hl160_0
           have HR160_1 := Aside0.mk hi160_1
           have HC160_1 := Aside0.mk hl160_1
           clear hi160_1 hl160_1
           have HR160_2 := Aside0.mk hi160_2
           have HC160_2 := Aside0.mk hl160_2
           clear hi160_2 hl160_2
           have HR160_3 := Aside0.mk hi160_3
           have HC160_3 := Aside0.mk hl160_3
           clear hi160_3 hl160_3
           replace p160 := eq_true p160
           replace q160 := eq_true q160
           have p162 : 0 ≤ (x4_2 : Int) := of_decide_eq_true (by first | (with_reducible assumption) | assumption)
           have q162 : x4_2 < (e0.length : Int) := of_decide_eq_true (by first | (with_reducible assumption) | assumption)
           obtain ⟨ad162, A162_0, c162_0, A162_1, c162_1, A162_2, c162_2, A162_3, c162_3, e162, hx162_0, hx162_1, hx162_2, hx162_3, hx162_4, hx162_5, hx162_6, hl162_0, hi162_0, hl162_1, hi162_1, hl162_2, hi162_2, hl162_3, hi162_3⟩ := at_T42 HR0_0.out x4_2 p162 q162
           have hw162_6 := hx162_6
           have hw162_5 := hx162_5
           have hw162_4 := hx162_4
           have hw162_3 := hx162_3
           have hw162_2 := hx162_2
           have hw162_1 := hx162_1
           have hw162_0 := hx162_0
           obtain rfl : ad160 = ad162 := (by injection e162)
           replace hx162_0 := (HB.out.cell (block_lt_of_cell? w _ hx162_0)).trans hx162_0
           replace hx162_1 := (HB.out.cell (block_lt_of_cell? w _ hx162_1)).trans hx162_1
           replace hx162_2 := (HB.out.cell (block_lt_of_cell? w _ hx162_2)).trans hx162_2
           replace hx162_3 := (HB.out.cell (block_lt_of_cell? w _ hx162_3)).trans hx162_3
           replace hx162_4 := (HB.out.cell (block_lt_of_cell? w _ hx162_4)).trans hx162_4
           replace hx162_5 := (HB.out.cell (block_lt_of_cell? w _ hx162_5)).trans hx162_5
           replace hx162_6 := (HB.out.cell (block_lt_of_cell? w _ hx162_6)).trans hx162_6
           have HR162_0 := Aside0.mk hi162_0
           have HC162_0 := Aside0.mk hl162_0
           clear hi162_0 hl162_0
           have HR162_1 := Aside0.mk hi162_1
           have HC162_1 := Aside0.mk hl162_1
           clear hi162_1 hl162_1
           have HR162_2 := Aside0.mk hi162_2
           have HC162_2 := Aside0.mk hl162_2
           clear hi162_2 hl162_2
           have HR162_3 := Aside0.mk hi162_3
           have HC162_3 := Aside0.mk hl162_3
           clear hi162_3 hl162_3
           replace p162 := eq_true p162
           replace q162 := eq_true q162
           have p163 : 0 ≤ (x4_2 : Int) := of_decide_eq_true (by first | (with_reducible assumption) | assumption)
           have q163 : x4_2 < (e0.length : Int) := of_decide_eq_true (by first | (with_reducible assumption) | assumption)
           obtain ⟨ad163, A163_0, c163_0, A163_1, c163_1, A163_2, c163_2, A163_3, c163_3, e163, hx163_0, hx163_1, hx163_2, hx163_3, hx163_4, hx163_5, hx163_6, hl163_0, hi163_0, hl163_1, hi163_1, hl163_2, hi163_2, hl163_3, hi163_3⟩ := at_T42 HR0_0.out x4_2 p163 q163
           have hw163_6 := hx163_6
           have hw163_5 := hx163_5
           have hw163_4 := hx163_4
           have hw163_3 := hx163_3
           have hw163_2 := hx163_2
           have hw163_1 := hx163_1
           have hw163_0 := hx163_0
           obtain rfl : ad160 = ad163 := (by injection e163)
           replace hx163_0 := (HB.out.cell (block_lt_of_cell? w _ hx163_0)).trans hx163_0
           replace hx163_1 := (HB.out.cell (block_lt_of_cell? w _ hx163_1)).trans hx163_1
           replace hx163_2 := (HB.out.cell (block_lt_of_cell? w _ hx163_2)).trans hx163_2
           replace hx163_3 := (HB.out.cell (block_lt_of_cell? w _ hx163_3)).trans hx163_3
           replace hx163_4 := (HB.out.cell (block_lt_of_cell? w _ hx163_4)).trans hx163_4
           replace hx163_5 := (HB.out.cell (block_lt_of_cell? w _ hx163_5)).trans hx163_5
           replace hx163_6 := (HB.out.cell (block_lt_of_cell? w _ hx163_6)).trans hx163_6
           have HR163_0 := Aside0.mk hi163_0
           have HC163_0 := Aside0.mk hl163_0
           clear hi163_0 hl163_0
           have HR163_1 := Aside0.mk hi163_1
           have HC163_1 := Aside0.mk hl163_1
           clear hi163_1 hl163_1
           have HR163_2 := Aside0.mk hi163_2
           have HC163_2 := Aside0.mk hl163_2
           clear hi163_2 hl163_2
           have HR163_3 := Aside0.mk hi163_3
           have HC163_3 := Aside0.mk hl163_3
           clear hi163_3 hl163_3
           replace p163 := eq_true p163
           replace q163 := eq_true q163
           have ea_ := Option.some.inj (hx162_0.symm.trans hx163_0)
           injection ea_ with ea_ en_ ec_
           subst ea_
           subst ec_
           clear en_
           have ea_ := Option.some.inj (hx162_1.symm.trans hx163_1)
           injection ea_ with ea_ en_ ec_
           subst ea_
           subst ec_
           clear en_
           have ea_ := Option.some.inj (hx162_2.symm.trans hx163_2)
           injection ea_ with ea_ en_ ec_
           subst ea_
           subst ec_
           clear en_
           have ea_ := Option.some.inj (hx162_3.symm.trans hx163_3)
           injection ea_ with ea_ en_ ec_
           subst ea_
           subst ec_
           clear en_
           refine start_ (n := 28) (S := fun w' => w'.cell? ⟨gb, 0, none⟩ = some (.slice (some ad160) e0.length c0_0) ∧ w'.cell? ⟨gb, 1, none⟩ = some (.slice A0_1 e1.length c0_1) ∧ w'.cell? ⟨gb, 2, none⟩ = some (.slice A0_2 e2.length c0_2) ∧ w'.cell? (ad160.add ((x4_2).toNat * 7)) = some (.slice A160_0 ((rd_T42 e0 x4_2).f0).length c160_0) ∧ w'.cell? ⟨(ad160.add ((x4_2).toNat * 7)).block, (ad160.add ((x4_2).toNat * 7)).off + 1, none⟩ = some (.slice A160_1 ((rd_T42 e0 x4_2).f1).length c160_1) ∧ w'.cell? ⟨(ad160.add ((x4_2).toNat * 7)).block, (ad160.add ((x4_2).toNat * 7)).off + 2, none⟩ = some (.slice A160_2 ((rd_T42 e0 x4_2).f2).length c160_2) ∧ w'.cell? ⟨(ad160.add ((x4_2).toNat * 7)).block, (ad160.add ((x4_2).toNat * 7)).off + 3, none⟩ = some (.slice A160_3 ((rd_T42 e0 x4_2).f3).length c160_3) ∧ w'.cell? ⟨(ad160.add ((x4_2).toNat * 7)).block, (ad160.add ((x4_2).toNat * 7)).off + 4, none⟩ = some (.string ((rd_T42 e0 x4_2).f4)) ∧ w'.cell? ⟨(ad160.add ((x4_2).toNat * 7)).block, (ad160.add ((x4_2).toNat * 7)).off + 5, none⟩ = some (.bool ((rd_T42 e0 x4_2).f5)) ∧ w'.cell? ⟨(ad160.add ((x4_2).toNat * 7)).block, (ad160.add ((x4_2).toNat * 7)).off + 6, none⟩ = some (.string ((rd_T42 e0 x4_2).f6)) ∧ w'.cell? (ad160.add ((x4_2).toNat * 7)) = some (.slice A162_0 ((rd_T42 e0 x4_2).f0).length c162_0) ∧ w'.cell? ⟨(ad160.add ((x4_2).toNat * 7)).block, (ad160.add ((x4_2).toNat * 7)).off + 1, none⟩ = some (.slice A162_1 ((rd_T42 e0 x4_2).f1).length c162_1) ∧ w'.cell? ⟨(ad160.add ((x4_2).toNat * 7)).block, (ad160.add ((x4_2).toNat * 7)).off + 2, none⟩ = some (.slice A162_2 ((rd_T42 e0 x4_2).f2).length c162_2) ∧ w'.cell? ⟨(ad160.add ((x4_2).toNat * 7)).block, (ad160.add ((x4_2).toNat * 7)).off + 3, none⟩ = some (.slice A162_3 ((rd_T42 e0 x4_2).f3).length c162_3) ∧ w'.cell? ⟨(ad160.add ((x4_2).toNat * 7)).block, (ad160.add ((x4_2).toNat * 7)).off + 4, none⟩ = some (.string ((rd_T42 e0 x4_2).f4)) ∧ w'.cell? ⟨(ad160.add ((x4_2).toNat * 7)).block, (ad160.add ((x4_2).toNat * 7)).off + 5, none⟩ = some (.bool ((rd_T42 e0 x4_2).f5)) ∧ w'.cell? ⟨(ad160.add ((x4_2).toNat * 7)).block, (ad160.add ((x4_2).toNat * 7)).off + 6, none⟩ = some (.string ((rd_T42 e0 x4_2).f6)) ∧ w'.cell? (ad160.add ((x4_2).toNat * 7)) = some (.slice A162_0 ((rd_T42 e0 x4_2).f0).length c162_0) ∧ w'.cell? ⟨(ad160.add ((x4_2).toNat * 7)).block, (ad160.add ((x4_2).toNat * 7)).off + 1, none⟩ = some (.slice A162_1 ((rd_T42 e0 x4_2).f1).length c162_1) ∧ w'.cell? ⟨(ad160.add ((x4_2).toNat * 7)).block, (ad160.add ((x4_2).toNat * 7)).off + 2, none⟩ = some (.slice A162_2 ((rd_T42 e0 x4_2).f2).length c162_2) ∧ w'.cell? ⟨(ad160.add ((x4_2).toNat * 7)).block, (ad160.add ((x4_2).toNat * 7)).off + 3, none⟩ = some (.slice A162_3 ((rd_T42 e0 x4_2).f3).length c162_3) ∧ w'.cell? ⟨(ad160.add ((x4_2).toNat * 7)).block, (ad160.add ((x4_2).toNat * 7)).off + 4, none⟩ = some (.string ((rd_T42 e0 x4_2).f4)) ∧ w'.cell? ⟨(ad160.add ((x4_2).toNat * 7)).block, (ad160.add ((x4_2).toNat * 7)).off + 5, none⟩ = some (.bool ((rd_T42 e0 x4_2).f5)) ∧ w'.cell? ⟨(ad160.add ((x4_2).toNat * 7)).block, (ad160.add ((x4_2).toNat * 7)).off + 6, none⟩ = some (.string ((rd_T42 e0 x4_2).f6))) (ds := []) #[false, false, false, false, false, false, false, false, false, false, false, false, false, false, false, false, false, false, false, false, false, false, false, false, false, false, false, false] (by kernel_rfl) rfl rfl ⟨(blk_cell BK.out 0).trans rfl, (blk_cell BK.out 1).trans rfl, (blk_cell BK.out 2).trans rfl, ((HB.out.cell (block_lt_of_cell? w _ hw160_0)).trans hw160_0), ((HB.out.cell (block_lt_of_cell? w _ hw160_1)).trans hw160_1), ((HB.out.cell (block_lt_of_cell? w _ hw160_2)).trans hw160_2), ((HB.out.cell (block_lt_of_cell? w _ hw160_3)).trans hw160_3), ((HB.out.cell (block_lt_of_cell? w _ hw160_4)).trans hw160_4), ((HB.out.cell (block_lt_of_cell? w _ hw160_5)).trans hw160_5), ((HB.out.cell (block_lt_of_cell? w _ hw160_6)).trans hw160_6), ((HB.out.cell (block_lt_of_cell? w _ hw162_0)).trans hw162_0), ((HB.out.cell (block_lt_of_cell? w _ hw162_1)).trans hw162_1), ((HB.out.cell (block_lt_of_cell? w _ hw162_2)).trans hw162_2), ((HB.out.cell (block_lt_of_cell? w _ hw162_3)).trans hw162_3), ((HB.out.cell (block_lt_of_cell? w _ hw162_4)).trans hw162_4), ((HB.out.cell (block_lt_of_cell? w _ hw162_5)).trans hw162_5), ((HB.out.cell (block_lt_of_cell? w _ hw162_6)).trans hw162_6), ((HB.out.cell (block_lt_of_cell? w _ hw163_0)).trans hw163_0), ((HB.out.cell (block_lt_of_cell? w _ hw163_1)).trans hw163_1), ((HB.out.cell (block_lt_of_cell? w _ hw163_2)).trans hw163_2), ((HB.out.cell (block_lt_of_cell? w _ hw163_3)).trans hw163_3), ((HB.out.cell (block_lt_of_cell? w _ hw163_4)).trans hw163_4), ((HB.out.cell (block_lt_of_cell? w _ hw163_5)).trans hw163_5), ((HB.out.cell (block_lt_of_cell? w _ hw163_6)).trans hw163_6)⟩ (fun hHeld => ?_); refine with_tabW crucibleref1_GraphMay.tab9 crucibleref1_GraphMay.bits9 (fun HT_ HW_ => ?_)
           generalize wr.drew = w36 at BK HB HR160_0 HR160_1 HR160_2 HR160_3 HR162_0 HR162_1 HR162_2 HR162_3 HR163_0 HR163_1 HR163_2 HR163_3 hx160_0 hx160_1 hx160_2 hx160_3 hx160_4 hx160_5 hx160_6 hx162_0 hx162_1 hx162_2 hx162_3 hx162_4 hx162_5 hx162_6 hx163_0 hx163_1 hx163_2 hx163_3 hx163_4 hx163_5 hx163_6 hHeld ⊢
           refine pure_ (i := 0) (N := some 58) (v := ?_) (a' := ?_) #[true, false, false, false, false, false, false, false, false, false, false, false, false, false, false, false, false, false, false, false, false, false, false, false, false, false, false, false] rfl rfl (any_of HT_.out (by kernel_rfl)) (fun _ _ _ h => h) (Or.inl ⟨by rfl, ?_⟩) ?_ ?_
           rotate_left
           ·intro w'
            go_simp
            with_reducible rfl
           rotate_left
           ·simp only [Act.put, setIfInBounds_toArray, set_cons_zero, set_cons_succ, i64_w, i32_w]
            rfl
           refine pure_ (i := 2) (N := some 60) (v := ?_) (a' := ?_) #[true, false, true, false, false, false, false, false, false, false, false, false, false, false, false, false, false, false, false, false, false, false, false, false, false, false, false, false] rfl rfl (any_of HT_.out (by kernel_rfl)) (fun _ _ _ h => h) (Or.inl ⟨by rfl, ?_⟩) ?_ ?_
           rotate_left
           ·intro w'
            go_simp
            with_reducible rfl
           rotate_left
           ·simp only [Act.put, setIfInBounds_toArray, set_cons_zero, set_cons_succ, i64_w, i32_w]
            rfl
           refine take_ (i := 1) (N := some 59) (v := ?_) (a' := ?_) #[true, true, true, false, false, false, false, false, false, false, false, false, false, false, false, false, false, false, false, false, false, false, false, false, false, false, false, false] rfl rfl (take_ofW HT_.out HW_.out (by kernel_rfl)) (fun _ _ _ h => h) (Or.inl ⟨by rfl, ?_⟩) hHeld ?_ ?_
           rotate_left
           ·rintro w' ⟨s0, s1, s2, s3, s4, s5, s6, s7, s8, s9, s10, s11, s12, s13, s14, s15, s16, s17, s18, s19, s20, s21, s22, s23⟩
            go_simp
            with_reducible rfl
           rotate_left
           ·simp only [Act.put, setIfInBounds_toArray, set_cons_zero, set_cons_succ, i64_w, i32_w]
            rfl
           refine pure_ (i := 3) (N := some 61) (v := ?_) (a' := ?_) #[true, true, true, true, false, false, false, false, false, false, false, false, false, false, false, false, false, false, false, false, false, false, false, false, false, false, false, false] rfl rfl (any_of HT_.out (by kernel_rfl)) (fun _ _ _ h => h) (Or.inl ⟨by rfl, ?_⟩) ?_ ?_
           rotate_left
           ·intro w'
            go_simp
            with_reducible rfl
           rotate_left
           ·simp only [Act.put, setIfInBounds_toArray, set_cons_zero, set_cons_succ, i64_w, i32_w]
            rfl
           refine take_ (i := 4) (N := some 62) (v := ?_) (a' := ?_) #[true, true, true, true, true, false, false, false, false, false, false, false, false, false, false, false, false, false, false, false, false, false, false, false, false, false, false, false] rfl rfl (take_ofW HT_.out HW_.out (by kernel_rfl)) (fun _ _ _ h => h) (Or.inl ⟨by rfl, ?_⟩) hHeld ?_ ?_
           rotate_left
           ·rintro w' ⟨s0, s1, s2, s3, s4, s5, s6, s7, s8, s9, s10, s11, s12, s13, s14, s15, s16, s17, s18, s19, s20, s21, s22, s23⟩
            go_simp
            with_reducible rfl
           rotate_left
           ·simp only [Act.put, setIfInBounds_toArray, set_cons_zero, set_cons_succ, i64_w, i32_w]
            rfl
           refine one_ (i := 5) (N := some 63) #[true, true, true, true, true, true, false, false, false, false, false, false, false, false, false, false, false, false, false, false, false, false, false, false, false, false, false, false] rfl rfl (one_of HT_.out (by kernel_rfl)) (by decide) (fun K hK => ?_)
           refine goes_ Tryz.func33 (by kernel_rfl) rfl #[.agg #[.slice A160_0 ((rd_T42 e0 x4_2).f0).length c160_0, .slice A160_1 ((rd_T42 e0 x4_2).f1).length c160_1, .slice A160_2 ((rd_T42 e0 x4_2).f2).length c160_2, .slice A160_3 ((rd_T42 e0 x4_2).f3).length c160_3, .string ((rd_T42 e0 x4_2).f4), .bool ((rd_T42 e0 x4_2).f5), .string ((rd_T42 e0 x4_2).f6)]] (by rfl) rfl rfl (by (try simp only [List.map_toArray, List.map_cons, List.map_nil]); first | done | rfl | (simp only [List.length_drop, List.length_take]; rfl)) ?_
           with_reducible refine (crucibleref1_EdgeMay.calls k2 _ _ ((rd_T42 e0 x4_2).f0) _ _ ((rd_T42 e0 x4_2).f1) _ _ ((rd_T42 e0 x4_2).f2) _ _ ((rd_T42 e0 x4_2).f3) ((rd_T42 e0 x4_2).f4) ((rd_T42 e0 x4_2).f5) ((rd_T42 e0 x4_2).f6) true _ ?side1 ?side2 ?side3 ?side4 ?side5 ?side6 ?side7 ?side8 A24.out).mono ?_
           (case side1 => repeat (first | exact (Kd.C_below HR160_0.out HB.out) | (with_reducible refine Kd.C_alloc ?_ _) | (with_reducible refine Kd.C_drewN ?_ _) | (with_reducible refine Kd.C_drew ?_)))
           (case side2 => exact HC160_0.out)
           (case side3 => repeat (first | exact (Kd.C_below HR160_1.out HB.out) | (with_reducible refine Kd.C_alloc ?_ _) | (with_reducible refine Kd.C_drewN ?_ _) | (with_reducible refine Kd.C_drew ?_)))
           (case side4 => exact HC160_1.out)
           (case side5 => repeat (first | exact (Kd.C_below HR160_2.out HB.out) | (with_reducible refine Kd.C_alloc ?_ _) | (with_reducible refine Kd.C_drewN ?_ _) | (with_reducible refine Kd.C_drew ?_)))
           (case side6 => exact HC160_2.out)
           (case side7 => repeat (first | exact (Kd.C_below HR160_3.out HB.out) | (with_reducible refine Kd.C_alloc ?_ _) | (with_reducible refine Kd.C_drewN ?_ _) | (with_reducible refine Kd.C_drew ?_)))
           (case side8 => exact HC160_3.out)
           rintro e w37 ⟨rfl, hb⟩
           refine ⟨_, rfl, ?_⟩
           have n0_ := Aside0.mk (blk_below (g := gb) (o := .cells #[.slice (some ad160) e0.length c0_0, .slice A0_1 e1.length c0_1, .slice A0_2 e2.length c0_2] 26 (0, 0)) (by (with_reducible repeat (first | refine blk_drewN ?_ _ | refine blk_drew ?_ | refine blk_alloc ?_ _)); exact BK.out) hb)
           have n1_ := Aside0.mk (below_step (by repeat (first | (with_reducible first | exact HB.out | apply below_alloc | apply pw_below_drewN | apply below_drew1 | refine below_set ?_ GE152.out) | exact HB.out)) hb)
           clear BK
           clear HB
           have BK := n0_
           have HB := n1_
           clear n0_ n1_
           (try clear hb)
           (try clear hb2)
           (try clear hk)
           (try clear hi)
           refine hK.out _ _ ⟨(blk_cell BK.out 0).trans rfl, (blk_cell BK.out 1).trans rfl, (blk_cell BK.out 2).trans rfl, ((HB.out.cell (block_lt_of_cell? w _ hw160_0)).trans hw160_0), ((HB.out.cell (block_lt_of_cell? w _ hw160_1)).trans hw160_1), ((HB.out.cell (block_lt_of_cell? w _ hw160_2)).trans hw160_2), ((HB.out.cell (block_lt_of_cell? w _ hw160_3)).trans hw160_3), ((HB.out.cell (block_lt_of_cell? w _ hw160_4)).trans hw160_4), ((HB.out.cell (block_lt_of_cell? w _ hw160_5)).trans hw160_5), ((HB.out.cell (block_lt_of_cell? w _ hw160_6)).trans hw160_6), ((HB.out.cell (block_lt_of_cell? w _ hw162_0)).trans hw162_0), ((HB.out.cell (block_lt_of_cell? w _ hw162_1)).trans hw162_1), ((HB.out.cell (block_lt_of_cell? w _ hw162_2)).trans hw162_2), ((HB.out.cell (block_lt_of_cell? w _ hw162_3)).trans hw162_3), ((HB.out.cell (block_lt_of_cell? w _ hw162_4)).trans hw162_4), ((HB.out.cell (block_lt_of_cell? w _ hw162_5)).trans hw162_5), ((HB.out.cell (block_lt_of_cell? w _ hw162_6)).trans hw162_6), ((HB.out.cell (block_lt_of_cell? w _ hw163_0)).trans hw163_0), ((HB.out.cell (block_lt_of_cell? w _ hw163_1)).trans hw163_1), ((HB.out.cell (block_lt_of_cell? w _ hw163_2)).trans hw163_2), ((HB.out.cell (block_lt_of_cell? w _ hw163_3)).trans hw163_3), ((HB.out.cell (block_lt_of_cell? w _ hw163_4)).trans hw163_4), ((HB.out.cell (block_lt_of_cell? w _ hw163_5)).trans hw163_5), ((HB.out.cell (block_lt_of_cell? w _ hw163_6)).trans hw163_6)⟩ (fun hHeld => ?_)
           clear hK K
           refine norm_ (a' := ?_) ?_ ?_
           rotate_left
           ·show Act.put _ (some 63) _ = _
            simp only [Act.put, setIfInBounds_toArray, set_cons_zero, set_cons_succ, i64_w, i32_w]
            rfl
           refine pure_ (i := 6) (N := some 64) (v := ?_) (a' := ?_) #[true, true, true, true, true, true, true, false, false, false, false, false, false, false, false, false, false, false, false, false, false, false, false, false, false, false, false, false] rfl rfl (any_of HT_.out (by kernel_rfl)) (fun _ _ _ h => h) (Or.inl ⟨by rfl, ?_⟩) ?_ ?_
           rotate_left
           ·intro w'
            go_simp
            with_reducible rfl
           rotate_left
           ·simp only [Act.put, setIfInBounds_toArray, set_cons_zero, set_cons_succ, i64_w, i32_w]
            rfl
           refine pure_ (i := 7) (N := some 65) (v := ?_) (a' := ?_) #[true, true, true, true, true, true, true, true, false, false, false, false, false, false, false, false, false, false, false, false, false, false, false, false, false, false, false, false] rfl rfl (any_of HT_.out (by kernel_rfl)) (fun _ _ _ h => h) (Or.inl ⟨by rfl, ?_⟩) ?_ ?_
           rotate_left
           ·intro w'
            go_simp
            with_reducible rfl
           rotate_left
           ·simp only [Act.put, setIfInBounds_toArray, set_cons_zero, set_cons_succ, i64_w, i32_w]
            rfl
           refine pure_ (i := 8) (N := some 66) (v := ?_) (a' := ?_) #[true, true, true, true, true, true, true, true, true, false, false, false, false, false, false, false, false, false, false, false, false, false, false, false, false, false, false, false] rfl rfl (any_of HT_.out (by kernel_rfl)) (fun _ _ _ h => h) (Or.inl ⟨by rfl, ?_⟩) ?_ ?_
           rotate_left
           ·intro w'
            go_simp
            with_reducible rfl
           rotate_left
           ·simp only [Act.put, setIfInBounds_toArray, set_cons_zero, set_cons_succ, i64_w, i32_w]
            rfl
           refine pure_ (i := 10) (N := some 68) (v := ?_) (a' := ?_) #[true, true, true, true, true, true, true, true, true, false, true, false, false, false, false, false, false, false, false, false, false, false, false, false, false, false, false, false] rfl rfl (any_of HT_.out (by kernel_rfl)) (fun _ _ _ h => h) (Or.inl ⟨by rfl, ?_⟩) ?_ ?_
           rotate_left
           ·intro w'
            go_simp
            with_reducible rfl
           rotate_left
           ·simp only [Act.put, setIfInBounds_toArray, set_cons_zero, set_cons_succ, i64_w, i32_w]
            rfl
           refine take_ (i := 9) (N := some 67) (v := ?_) (a' := ?_) #[true, true, true, true, true, true, true, true, true, true, true, false, false, false, false, false, false, false, false, false, false, false, false, false, false, false, false, false] rfl rfl (take_ofW HT_.out HW_.out (by kernel_rfl)) (fun _ _ _ h => h) (Or.inl ⟨by rfl, ?_⟩) hHeld ?_ ?_
           rotate_left
           ·rintro w' ⟨s0, s1, s2, s3, s4, s5, s6, s7, s8, s9, s10, s11, s12, s13, s14, s15, s16, s17, s18, s19, s20, s21, s22, s23⟩
            go_simp
            with_reducible rfl
           rotate_left
           ·simp only [Act.put, setIfInBounds_toArray, set_cons_zero, set_cons_succ, i64_w, i32_w]
            rfl
           refine pure_ (i := 11) (N := some 69) (v := ?_) (a' := ?_) #[true, true, true, true, true, true, true, true, true, true, true, true, false, false, false, false, false, false, false, false, false, false, false, false, false, false, false, false] rfl rfl (any_of HT_.out (by kernel_rfl)) (fun _ _ _ h => h) (Or.inl ⟨by rfl, ?_⟩) ?_ ?_
           rotate_left
           ·intro w'
            go_simp
            with_reducible rfl
           rotate_left
           ·simp only [Act.put, setIfInBounds_toArray, set_cons_zero, set_cons_succ, i64_w, i32_w]
            rfl
           refine pure_ (i := 12) (N := some 70) (v := ?_) (a' := ?_) #[true, true, true, true, true, true, true, true, true, true, true, true, true, false, false, false, false, false, false, false, false, false, false, false, false, false, false, false] rfl rfl (any_of HT_.out (by kernel_rfl)) (fun _ _ _ h => h) (Or.inl ⟨by rfl, ?_⟩) ?_ ?_
           rotate_left
           ·intro w'
            go_simp
            with_reducible rfl
           rotate_left
           ·simp only [Act.put, setIfInBounds_toArray, set_cons_zero, set_cons_succ, i64_w, i32_w]
            rfl
           refine take_ (i := 13) (N := some 71) (v := ?_) (a' := ?_) #[true, true, true, true, true, true, true, true, true, true, true, true, true, true, false, false, false, false, false, false, false, false, false, false, false, false, false, false] rfl rfl (take_ofW HT_.out HW_.out (by kernel_rfl)) (fun _ _ _ h => h) (Or.inl ⟨by rfl, ?_⟩) hHeld ?_ ?_
           rotate_left
           ·rintro w' ⟨s0, s1, s2, s3, s4, s5, s6, s7, s8, s9, s10, s11, s12, s13, s14, s15, s16, s17, s18, s19, s20, s21, s22, s23⟩
            go_simp
            with_reducible rfl
           rotate_left
           ·simp only [Act.put, setIfInBounds_toArray, set_cons_zero, set_cons_succ, i64_w, i32_w]
            rfl
           refine pure_ (i := 14) (N := some 72) (v := ?_) (a' := ?_) #[true, true, true, true, true, true, true, true, true, true, true, true, true, true, true, false, false, false, false, false, false, false, false, false, false, false, false, false] rfl rfl (any_of HT_.out (by kernel_rfl)) (fun _ _ _ h => h) (Or.inl ⟨by rfl, ?_⟩) ?_ ?_
           rotate_left
           ·intro w'
            go_simp
            with_reducible rfl
           rotate_left
           ·simp only [Act.put, setIfInBounds_toArray, set_cons_zero, set_cons_succ, i64_w, i32_w]
            rfl
           refine pure_ (i := 15) (N := some 73) (v := ?_) (a' := ?_) #[true, true, true, true, true, true, true, true, true, true, true, true, true, true, true, true, false, false, false, false, false, false, false, false, false, false, false, false] rfl rfl (any_of HT_.out (by kernel_rfl)) (fun _ _ _ h => h) (Or.inl ⟨by rfl, ?_⟩) ?_ ?_
           rotate_left
           ·intro w'
            go_simp
            with_reducible rfl
           rotate_left
           ·simp only [Act.put, setIfInBounds_toArray, set_cons_zero, set_cons_succ, i64_w, i32_w]
            rfl
           refine pure_ (i := 16) (N := some 74) (v := ?_) (a' := ?_) #[true, true, true, true, true, true, true, true, true, true, true, true, true, true, true, true, true, false, false, false, false, false, false, false, false, false, false, false] rfl rfl (any_of HT_.out (by kernel_rfl)) (fun _ _ _ h => h) (Or.inl ⟨by rfl, ?_⟩) ?_ ?_
           rotate_left
           ·intro w'
            go_simp
            with_reducible rfl
           rotate_left
           ·simp only [Act.put, setIfInBounds_toArray, set_cons_zero, set_cons_succ, i64_w, i32_w]
            rfl
           refine pure_ (i := 18) (N := some 76) (v := ?_) (a' := ?_) #[true, true, true, true, true, true, true, true, true, true, true, true, true, true, true, true, true, false, true, false, false, false, false, false, false, false, false, false] rfl rfl (any_of HT_.out (by kernel_rfl)) (fun _ _ _ h => h) (Or.inl ⟨by rfl, ?_⟩) ?_ ?_
           rotate_left
           ·intro w'
            go_simp
            with_reducible rfl
           rotate_left
           ·simp only [Act.put, setIfInBounds_toArray, set_cons_zero, set_cons_succ, i64_w, i32_w]
            rfl
           refine pure_ (i := 20) (N := some 78) (v := ?_) (a' := ?_) #[true, true, true, true, true, true, true, true, true, true, true, true, true, true, true, true, true, false, true, false, true, false, false, false, false, false, false, false] rfl rfl (any_of HT_.out (by kernel_rfl)) (fun _ _ _ h => h) (Or.inl ⟨by rfl, ?_⟩) ?_ ?_
           rotate_left
           ·intro w'
            go_simp
            with_reducible rfl
           rotate_left
           ·simp only [Act.put, setIfInBounds_toArray, set_cons_zero, set_cons_succ, i64_w, i32_w]
            rfl
           refine take_ (i := 17) (N := some 75) (v := ?_) (a' := ?_) #[true, true, true, true, true, true, true, true, true, true, true, true, true, true, true, true, true, true, true, false, true, false, false, false, false, false, false, false] rfl rfl (take_ofW HT_.out HW_.out (by kernel_rfl)) (fun _ _ _ h => h) (Or.inl ⟨by rfl, ?_⟩) hHeld ?_ ?_
           rotate_left
           ·rintro w' ⟨s0, s1, s2, s3, s4, s5, s6, s7, s8, s9, s10, s11, s12, s13, s14, s15, s16, s17, s18, s19, s20, s21, s22, s23⟩
            go_simp
            with_reducible rfl
           rotate_left
           ·simp only [Act.put, setIfInBounds_toArray, set_cons_zero, set_cons_succ, i64_w, i32_w]
            rfl
           refine take_ (i := 19) (N := some 77) (v := ?_) (a' := ?_) #[true, true, true, true, true, true, true, true, true, true, true, true, true, true, true, true, true, true, true, true, true, false, false, false, false, false, false, false] rfl rfl (take_ofW HT_.out HW_.out (by kernel_rfl)) (fun _ _ _ h => h) (Or.inl ⟨by rfl, ?_⟩) hHeld ?_ ?_
           rotate_left
           ·rintro w' ⟨s0, s1, s2, s3, s4, s5, s6, s7, s8, s9, s10, s11, s12, s13, s14, s15, s16, s17, s18, s19, s20, s21, s22, s23⟩
            go_simp
            with_reducible rfl
           rotate_left
           ·simp only [Act.put, setIfInBounds_toArray, set_cons_zero, set_cons_succ, i64_w, i32_w]
            rfl
           refine pure_ (i := 21) (N := some 79) (v := ?_) (a' := ?_) #[true, true, true, true, true, true, true, true, true, true, true, true, true, true, true, true, true, true, true, true, true, true, false, false, false, false, false, false] rfl rfl (any_of HT_.out (by kernel_rfl)) (fun _ _ _ h => h) (Or.inl ⟨by rfl, ?_⟩) ?_ ?_
           rotate_left
           ·intro w'
            go_simp
            with_reducible rfl
           rotate_left
           ·simp only [Act.put, setIfInBounds_toArray, set_cons_zero, set_cons_succ, i64_w, i32_w]
            rfl
           refine pure_ (i := 22) (N := some 80) (v := ?_) (a' := ?_) #[true, true, true, true, true, true, true, true, true, true, true, true, true, true, true, true, true, true, true, true, true, true, true, false, false, false, false, false] rfl rfl (any_of HT_.out (by kernel_rfl)) (fun _ _ _ h => h) (Or.inl ⟨by rfl, ?_⟩) ?_ ?_
           rotate_left
           ·intro w'
            go_simp
            with_reducible rfl
           rotate_left
           ·simp only [Act.put, setIfInBounds_toArray, set_cons_zero, set_cons_succ, i64_w, i32_w]
            rfl
           refine take_ (i := 23) (N := some 81) (v := ?_) (a' := ?_) #[true, true, true, true, true, true, true, true, true, true, true, true, true, true, true, true, true, true, true, true, true, true, true, true, false, false, false, false] rfl rfl (take_ofW HT_.out HW_.out (by kernel_rfl)) (fun _ _ _ h => h) (Or.inl ⟨by rfl, ?_⟩) hHeld ?_ ?_
           rotate_left
           ·rintro w' ⟨s0, s1, s2, s3, s4, s5, s6, s7, s8, s9, s10, s11, s12, s13, s14, s15, s16, s17, s18, s19, s20, s21, s22, s23⟩
            go_simp
            with_reducible rfl
           rotate_left
           ·simp only [Act.put, setIfInBounds_toArray, set_cons_zero, set_cons_succ, i64_w, i32_w]
            rfl
           refine one_ (i := 24) (N := some 82) #[true, true, true, true, true, true, true, true, true, true, true, true, true, true, true, true, true, true, true, true, true, true, true, true, true, false, false, false] rfl rfl (one_of HT_.out (by kernel_rfl)) (by decide) (fun K hK => ?_)
           refine goes_ Tryz.func32 (by kernel_rfl) rfl #[.slice A0_1 e1.length c0_1, .string ((rd_T42 e0 x4_2).f6)] (by rfl) rfl rfl (by (try simp only [List.map_toArray, List.map_cons, List.map_nil]); first | done | rfl | (simp only [List.length_drop, List.length_take]; rfl)) ?_
           with_reducible refine (crucibleref1_poolAt.calls k2 _ _ e1 ((rd_T42 e0 x4_2).f6) t164 _ ?side1 ?side2 A30.out).mono ?_
           (case side1 => repeat (first | exact (Kd.C_below HR0_1.out HB.out) | (with_reducible refine Kd.C_alloc ?_ _) | (with_reducible refine Kd.C_drewN ?_ _) | (with_reducible refine Kd.C_drew ?_)))
           (case side2 => exact HC0_1.out)
           rintro e w' ⟨rfl, ⟨nd, rfl⟩⟩
           refine ⟨_, rfl, ?_⟩
           refine hK.out _ _ ⟨(blk_cell BK.out 0).trans rfl, (blk_cell BK.out 1).trans rfl, (blk_cell BK.out 2).trans rfl, ((HB.out.cell (block_lt_of_cell? w _ hw160_0)).trans hw160_0), ((HB.out.cell (block_lt_of_cell? w _ hw160_1)).trans hw160_1), ((HB.out.cell (block_lt_of_cell? w _ hw160_2)).trans hw160_2), ((HB.out.cell (block_lt_of_cell? w _ hw160_3)).trans hw160_3), ((HB.out.cell (block_lt_of_cell? w _ hw160_4)).trans hw160_4), ((HB.out.cell (block_lt_of_cell? w _ hw160_5)).trans hw160_5), ((HB.out.cell (block_lt_of_cell? w _ hw160_6)).trans hw160_6), ((HB.out.cell (block_lt_of_cell? w _ hw162_0)).trans hw162_0), ((HB.out.cell (block_lt_of_cell? w _ hw162_1)).trans hw162_1), ((HB.out.cell (block_lt_of_cell? w _ hw162_2)).trans hw162_2), ((HB.out.cell (block_lt_of_cell? w _ hw162_3)).trans hw162_3), ((HB.out.cell (block_lt_of_cell? w _ hw162_4)).trans hw162_4), ((HB.out.cell (block_lt_of_cell? w _ hw162_5)).trans hw162_5), ((HB.out.cell (block_lt_of_cell? w _ hw162_6)).trans hw162_6), ((HB.out.cell (block_lt_of_cell? w _ hw163_0)).trans hw163_0), ((HB.out.cell (block_lt_of_cell? w _ hw163_1)).trans hw163_1), ((HB.out.cell (block_lt_of_cell? w _ hw163_2)).trans hw163_2), ((HB.out.cell (block_lt_of_cell? w _ hw163_3)).trans hw163_3), ((HB.out.cell (block_lt_of_cell? w _ hw163_4)).trans hw163_4), ((HB.out.cell (block_lt_of_cell? w _ hw163_5)).trans hw163_5), ((HB.out.cell (block_lt_of_cell? w _ hw163_6)).trans hw163_6)⟩ (fun hHeld => ?_)
           clear hK K
           refine norm_ (a' := ?_) ?_ ?_
           rotate_left
           ·show Act.put _ (some 82) _ = _
            simp only [Act.put, setIfInBounds_toArray, set_cons_zero, set_cons_succ, i64_w, i32_w]
            rfl
           refine pure_ (i := 25) (N := some 83) (v := ?_) (a' := ?_) #[true, true, true, true, true, true, true, true, true, true, true, true, true, true, true, true, true, true, true, true, true, true, true, true, true, true, false, false] rfl rfl (any_of HT_.out (by kernel_rfl)) (fun _ _ _ h => h) (Or.inl ⟨by rfl, ?_⟩) ?_ ?_
           rotate_left
           ·intro w'
            go_simp
            with_reducible rfl
           rotate_left
           ·simp only [Act.put, setIfInBounds_toArray, set_cons_zero, set_cons_succ, i64_w, i32_w]
            rfl
           refine pure_ (i := 26) (N := some 84) (v := ?_) (a' := ?_) #[true, true, true, true, true, true, true, true, true, true, true, true, true, true, true, true, true, true, true, true, true, true, true, true, true, true, true, false] rfl rfl (any_of HT_.out (by kernel_rfl)) (fun _ _ _ h => h) (Or.inl ⟨by rfl, ?_⟩) ?_ ?_
           rotate_left
           ·intro w'
            go_simp
            with_reducible rfl
           rotate_left
           ·simp only [Act.put, setIfInBounds_toArray, set_cons_zero, set_cons_succ, i64_w, i32_w]
            rfl
           refine pure_ (i := 27) (N := some 85) (v := ?_) (a' := ?_) #[true, true, true, true, true, true, true, true, true, true, true, true, true, true, true, true, true, true, true, true, true, true, true, true, true, true, true, true] rfl rfl (any_of HT_.out (by kernel_rfl)) (fun _ _ _ h => h) (Or.inl ⟨by rfl, ?_⟩) ?_ ?_
           rotate_left
           ·intro w'
            go_simp
            with_reducible rfl
           rotate_left
           ·simp only [Act.put, setIfInBounds_toArray, set_cons_zero, set_cons_succ, i64_w, i32_w]
            rfl
           refine done_ (done_of HT_.out (by kernel_rfl)) ?_
           try go_wp2
           go_roundg k2
           case measure => have := HK1.out; have := HK2.out; omega
           case rel => exact ⟨(wrap64 (x4_2 + 1)), (by first | rfl | (simp; done) | (simp [*]; done)), H', ⟨by have := HK1.out; have := HK2.out; omega⟩, ⟨by (with_reducible repeat (first | refine blk_drewN ?_ _ | refine blk_drew ?_ | refine blk_alloc ?_ _)); exact BK.out⟩, ⟨by repeat (first | (with_reducible first | exact HB.out | apply below_alloc | apply pw_below_drewN | apply below_drew1 | refine below_set ?_ GE152.out) | exact HB.out)⟩⟩
        ·replace c25 := Bool.eq_false_iff.mpr c25
         subst c25
         have H1 : (some false) = some r := by rw [if_neg (show ¬ (false = true) by decide)] at H; exact H
         clear H
         have H := H1
         clear H1
         obtain rfl := Option.some.inj H
         exact absurd HRR.out (by decide)
       ·rw [if_neg c23] at H
        exact absurd H (by simp)
      ·rw [if_neg c22] at H
       have c22b0 : decide (x4_2 < (e0.length : Int)) = false := decide_eq_false c22
       clear c22
       by_cases c41 : (e1.length : Int) ≤ 4
       ·rw [if_pos c41] at H
        have c41b0 : decide ((e1.length : Int) ≤ 4) = true := decide_eq_true c41
        have c41b1 : decide (e1.length ≤ 4) = true := decide_eq_true (by omega)
        clear c41
        by_cases c42 : (e0.length : Int) ≤ 16
        ·rw [if_pos c42] at H
         have c42b0 : decide ((e0.length : Int) ≤ 16) = true := decide_eq_true c42
         have c42b1 : decide (e0.length ≤ 16) = true := decide_eq_true (by omega)
         clear c42
         replace H := Option.bind_eq_some_iff.mp H
         obtain ⟨t159, A430, H⟩ := H
         replace H : (some t159) = some r := H
         have A43 := Aside0.mk A430
         clear A430
         obtain rfl := Option.some.inj H
         have hcz44_0 : wr.cell? ⟨gb, 0, none⟩ = some (.slice A0_0 e0.length c0_0) := (blk_cell BK.out 0).trans rfl
         have hcz44_1 : wr.cell? ⟨gb, 1, none⟩ = some (.slice A0_1 e1.length c0_1) := (blk_cell BK.out 1).trans rfl
         have hcz44_2 : wr.cell? ⟨gb, 2, none⟩ = some (.slice A0_2 e2.length c0_2) := (blk_cell BK.out 2).trans rfl
         have hfz44_0 := blk_frozen BK.out 0
         have hfz44_1 := blk_frozen BK.out 1
         have hfz44_2 := blk_frozen BK.out 2
         go_wp2_with (first | (go_at_call 34; (with_reducible refine (crucibleref1_PathsMay.calls k2 _ _ e2 t159 _ ?side1 ?side2 A43.out).mono ?_); (case side1 => repeat (first | exact (Kd.C_below HR0_2.out HB.out) | (with_reducible refine Kd.C_alloc ?_ _) | (with_reducible refine Kd.C_drewN ?_ _) | (with_reducible refine Kd.C_drew ?_))); (case side2 => exact HC0_2.out); rintro e w45 ⟨rfl, hb⟩; have n0_ := Aside0.mk (blk_below (g := gb) (o := .cells #[.slice A0_0 e0.length c0_0, .slice A0_1 e1.length c0_1, .slice A0_2 e2.length c0_2] 26 (0, 0)) (by (with_reducible repeat (first | refine blk_drewN ?_ _ | refine blk_drew ?_ | refine blk_alloc ?_ _)); exact BK.out) hb); have n1_ := Aside0.mk (below_step (by repeat (first | (with_reducible first | exact HB.out | apply below_alloc | apply pw_below_drewN | apply below_drew1 | refine below_set ?_ GE152.out) | exact HB.out)) hb); clear BK; clear HB; have BK := n0_; have HB := n1_; clear n0_ n1_; (try clear hb); (try clear hb2); (try clear hk); (try clear hi)))
         go_ret
         exact ⟨by first | rfl | (simp [errW_none, errW_some] <;> rfl) | (simp [*, errW_none, errW_some] <;> rfl), by repeat (first | (with_reducible first | exact HB.out | apply below_alloc | apply pw_below_drewN | apply below_drew1 | refine below_set ?_ GE152.out) | exact HB.out)⟩
        ·rw [if_neg c42] at H
         have c42b0 : decide ((e0.length : Int) ≤ 16) = false := decide_eq_false c42
         have c42b1 : decide (e0.length ≤ 16) = false := decide_eq_false (by omega)
         clear c42
         obtain rfl := Option.some.inj H
         have hcz46_0 : wr.cell? ⟨gb, 0, none⟩ = some (.slice A0_0 e0.length c0_0) := (blk_cell BK.out 0).trans rfl
         have hcz46_1 : wr.cell? ⟨gb, 1, none⟩ = some (.slice A0_1 e1.length c0_1) := (blk_cell BK.out 1).trans rfl
         have hcz46_2 : wr.cell? ⟨gb, 2, none⟩ = some (.slice A0_2 e2.length c0_2) := (blk_cell BK.out 2).trans rfl
         have hfz46_0 := blk_frozen BK.out 0
         have hfz46_1 := blk_frozen BK.out 1
         have hfz46_2 := blk_frozen BK.out 2
         go_wp2
         go_ret
         exact ⟨by first | rfl | (simp [errW_none, errW_some] <;> rfl) | (simp [*, errW_none, errW_some] <;> rfl), by repeat (first | (with_reducible first | exact HB.out | apply below_alloc | apply pw_below_drewN | apply below_drew1 | refine below_set ?_ GE152.out) | exact HB.out)⟩
       ·rw [if_neg c41] at H
        have c41b0 : decide ((e1.length : Int) ≤ 4) = false := decide_eq_false c41
        have c41b1 : decide (e1.length ≤ 4) = false := decide_eq_false (by omega)
        clear c41
        obtain rfl := Option.some.inj H
        have hcz47_0 : wr.cell? ⟨gb, 0, none⟩ = some (.slice A0_0 e0.length c0_0) := (blk_cell BK.out 0).trans rfl
        have hcz47_1 : wr.cell? ⟨gb, 1, none⟩ = some (.slice A0_1 e1.length c0_1) := (blk_cell BK.out 1).trans rfl
        have hcz47_2 : wr.cell? ⟨gb, 2, none⟩ = some (.slice A0_2 e2.length c0_2) := (blk_cell BK.out 2).trans rfl
        have hfz47_0 := blk_frozen BK.out 0
        have hfz47_1 := blk_frozen BK.out 1
        have hfz47_2 := blk_frozen BK.out 2
        go_wp2
        go_ret
        exact ⟨by first | rfl | (simp [errW_none, errW_some] <;> rfl) | (simp [*, errW_none, errW_some] <;> rfl), by repeat (first | (with_reducible first | exact HB.out | apply below_alloc | apply pw_below_drewN | apply below_drew1 | refine below_set ?_ GE152.out) | exact HB.out)⟩
end Go.Proofs.YtefheailchihaaaGreatDoor.Print

end
section
namespace Go.Proofs.YtefheailchihaaaGreatDoor.Print
open Go.RowKit Go.Proofs.YtefheailchihaaaGreatDoorW.PrintWords Go.Proofs.YtefheailchihaaaGreatDoorW.PrintLast Go.Proofs.YtefheailchihaaaGreatDoorW.PrintMore
attribute [local go_sem] max2_int min2_int max_two min_two max_three min_three max_four min_four   -- for this text's walks alone
set_option linter.unusedVariables false
set_option linter.unusedSimpArgs false

def textB : ByteArray := ⟨#[102, 108, 97, 103, 115, 32, 61, 32, 45, 111, 50, 10, 112, 111, 111, 108, 32, 116, 119, 111, 10, 32, 32, 100, 101, 112, 116, 104, 32, 61, 32, 50, 10, 114, 117, 108, 101, 32, 99, 99, 10, 32, 32, 99, 111, 109, 109, 97, 110, 100, 32, 61, 32, 99, 99, 32, 36, 102, 108, 97, 103, 115, 32, 36, 105, 110, 32, 45, 111, 32, 36, 111, 117, 116, 32, 36, 109, 111, 114, 101, 10, 32, 32, 100, 101, 112, 115, 32, 61, 32, 49, 10, 32, 32, 112, 111, 111, 108, 32, 61, 32, 116, 119, 111, 10, 98, 117, 105, 108, 100, 32, 46, 47, 97, 46, 111, 32, 58, 32, 99, 99, 32, 97, 46, 99, 32, 124, 32, 97, 46, 104, 10, 32, 32, 109, 111, 114, 101, 32, 61, 32, 45, 103, 10, 98, 117, 105, 108, 100, 32, 98, 46, 111, 32, 58, 32, 99, 99, 32, 98, 46, 99, 32, 124, 124, 32, 97, 46, 111, 10, 102, 108, 97, 103, 115, 32, 61, 32, 108, 97, 116, 101, 10, 100, 101, 102, 97, 117, 108, 116, 32, 98, 46, 111, 10]⟩
def cruciblelaw8_text.f  : Option (ByteArray) := some textB
set_option maxHeartbeats 8000000 in
set_option maxRecDepth 100000 in
theorem cruciblelaw8_text.calls  (r : ByteArray) (w : World) (h : cruciblelaw8_text.f  = some r) :
    Calls Tryz.prog 16 #[] w fun e w' => e = .returned (.string r) ∧ Drawn0 w w' := by
  have H : (some textB) = some r := h
  clear h
  obtain rfl := Option.some.inj H
  go_enter Tryz.func16, Tryz.ntmps16
  go_wp2
  go_ret
  exact ⟨by first | rfl | (simp; done) | (simp [*]; done), by repeat (first | exact Drawn0.refl _ | apply Drawn0.step)⟩

end Go.Proofs.YtefheailchihaaaGreatDoor.Print

end
