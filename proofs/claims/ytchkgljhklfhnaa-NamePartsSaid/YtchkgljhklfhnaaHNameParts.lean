/- The law NameParts answers true for every text and cut. -/
import Derived.Test.YtchkgljhklfhnaaQName
namespace Go.Proofs.Ytchkgljhklfhnaa.Print
open Go.RowKit Go.Lib Go.Shelf Go.Proofs.YtchkgljhklfhnaaW.PrintWords Go.Proofs.YtchkgljhklfhnaaW.PrintLast Go.Proofs.YtchkgljhklfhnaaW.PrintMore

theorem may_calls (a : ByteArray) (w : World) : Calls Try.prog 21 #[.string a] w fun e w' => e = .returned (.bool (nameMay a)) ∧ Below w.heap.size w w' := name_May.calls a _ w rfl

theorem cut_place (n : Nat) (cut : Int) (hn : n ≤ 140737488351232) : ∃ k : Nat, wrap64 ((IntKind.u64.wrap cut).tmod ((n : Int) + 1)) = k ∧ k ≤ n := by
  have hb : 0 ≤ IntKind.u64.wrap cut := by unfold IntKind.wrap; simp [IntKind.bits, IntKind.signed]; omega
  obtain ⟨c, hc⟩ : ∃ c : Nat, IntKind.u64.wrap cut = c := ⟨(IntKind.u64.wrap cut).toNat, by omega⟩
  refine ⟨c % (n + 1), ?_, by have := Nat.mod_lt c (show 0 < n + 1 by omega); omega⟩
  have hlt := Nat.mod_lt c (show 0 < n + 1 by omega)
  rw [hc, show ((n : Int) + 1) = ((n + 1 : Nat) : Int) by omega, Int.tmod_eq_emod_of_nonneg (by omega), ← Int.natCast_emod]
  unfold wrap64
  omega

set_option maxRecDepth 100000 in
def allB (l : List UInt8) : Bool := l.all fun b => oneB b.toNat
theorem nameMay_def (s : ByteArray) : nameMay s = (decide (1 ≤ s.size) && (decide (s.size ≤ 16) && allB s.data.toList)) := rfl
theorem bel {w w1 w2 : World} (h : Below w.heap.size w w1) (k : Below w1.heap.size w1 w2) : Below w.heap.size w w2 := h.trans (k.mono h.size)
theorem toList_nil (s : ByteArray) : s.toList = [] ↔ s.size = 0 := by
  rw [Lib.toList_data, ← List.length_eq_zero_iff, ← Lib.size_eq]
theorem isEmpty_size (s : ByteArray) : s.toList.isEmpty = decide (s.size = 0) := by
  rw [Bool.eq_iff_iff]; simp [toList_nil]
theorem extract_fst (s : ByteArray) (k : Nat) (h : k ≤ s.size) : (s.extract 0 k).data.toList = s.data.toList.take k ∧ (s.extract 0 k).size = k := by
  constructor
  · rw [ByteArray.data_extract]; simp
  · simp; omega
theorem extract_snd (s : ByteArray) (k : Nat) : (s.extract k s.size).data.toList = s.data.toList.drop k ∧ (s.extract k s.size).size = s.size - k := by
  constructor
  · rw [ByteArray.data_extract]; simp [List.take_of_length_le]
  · simp
theorem all_split (s : ByteArray) (k : Nat) : allB s.data.toList = (allB (s.data.toList.take k) && allB (s.data.toList.drop k)) := by
  unfold allB
  rw [← List.all_append, List.take_append_drop]

theorem cast_lt (n : Nat) : decide ((16 : Int) < (n : Int)) = decide (16 < n) := by rw [Bool.eq_iff_iff]; simp; omega
theorem parts_end (s : ByteArray) (k : Nat) (h : k ≤ s.size) (x : Bool)
    (hx : x = (((s.extract 0 k).toList.isEmpty || decide ((16 : Int) < k) || nameMay (s.extract 0 k)) && ((s.extract k s.size).toList.isEmpty || decide ((16 : Int) < (s.size - k : Nat)) || nameMay (s.extract k s.size)))) :
    1 ≤ s.size → s.size ≤ 16 → nameMay s = x := by
  intro h1 h2
  obtain ⟨a1, a2⟩ := extract_fst s k h
  obtain ⟨b1, b2⟩ := extract_snd s k
  rw [hx, cast_lt, cast_lt, isEmpty_size, isEmpty_size, nameMay_def, nameMay_def, nameMay_def, a1, a2, b1, b2, all_split s k]
  by_cases ha : k = 0
  · subst ha; simp [h1, h2, show ¬ 16 < s.size by omega, show s.size ≠ 0 by omega, allB]
  · by_cases hb : k = s.size
    · subst hb; simp [ha, h1, h2, show ¬ 16 < s.size by omega, allB, List.drop_of_length_le]
    · simp [h1, h2, ha, show ¬ 16 < k by omega, show ¬ 16 < s.size - k by omega, show ¬ (s.size - k = 0) by omega, show 1 ≤ k by omega, show k ≤ 16 by omega, show 1 ≤ s.size - k by omega, show s.size - k ≤ 16 by omega]

set_option maxHeartbeats 4000000 in
theorem NameParts_any (s : ByteArray) (cut : Int) (w : World) (hs : s.size ≤ 140737488351232) :
    Calls Try.prog 6 #[.string s, .int .i64 cut] w fun e w' => e = .returned (.bool true) ∧ Below w.heap.size w w' := by
  obtain ⟨k, hk, hle⟩ := cut_place s.size cut hs
  have Hk := Lib.hid hk
  clear hk
  have HF := Lib.hid (parts_end s k hle _ rfl)
  go_enter Try.func6, Try.ntmps6
  go_wp2_with (first | (go_at_call 23; refine (cruciblelaw1_awake.calls true _ awake_name).mono ?_; rintro e w1 ⟨rfl, hb1⟩))
  rw [Hk.out]
  have f1 : (0 : Int) ≤ k := by omega
  have f2 : (k : Int) ≤ s.size := by omega
  go_quiet (fail)
  go_upto_region 5 with (fail)
  go_cut [8] (fun v wc => ∃ x : Bool, v = .bool x ∧ Aside0 (x = (((s.extract 0 k).toList.isEmpty || decide ((16 : Int) < k) || nameMay (s.extract 0 k)) && ((s.extract k s.size).toList.isEmpty || decide ((16 : Int) < (s.size - k : Nat)) || nameMay (s.extract k s.size)))) ∧ Aside0 (Below w.heap.size w wc))
  case first =>
    have hbq := Aside0.mk (pw_below_drewN hb1 nq)
    clear hb1
    go_wp2_with (first | (go_at_call 21; refine (may_calls _ _).mono ?_; rintro e w2 ⟨rfl, hbn⟩; first | (replace hbq := Aside0.mk (bel hbq.out hbn); clear hbn) | (replace hbr := Aside0.mk (bel hbr.out hbn); clear hbn)))
    all_goals (go_meet; case rel => exact ⟨_, rfl, ⟨by first | (simp [*]; done) | (simp_all; done)⟩, hbq⟩)
  case rest =>
    obtain ⟨x, rfl, hx, hbx⟩ := hcut
    clear hb1
    have he := parts_end s k hle x hx.out
    clear hx HF
    by_cases h1 : 1 ≤ s.size
    · by_cases h2 : s.size ≤ 16
      · have he2 := he h1 h2
        have He := Lib.hid he2
        clear he he2
        have hd1 : ((s.size : Int) == 0) = false := beq_eq_false_iff_ne.2 (by omega)
        have hd2 : decide ((16 : Int) < s.size) = false := by simp; omega
        go_wp2_with (first | (go_at_call 21; refine (may_calls _ _).mono ?_; rintro e w2 ⟨rfl, hbn⟩) | (go_at_call 20; refine (cruciblelaw0_Num.calls _ _ _ rfl).mono ?_; rintro e w3 ⟨rfl, hbm⟩))
        go_ret
        exact ⟨ret_bool (by rw [He.out]; simp), bel (bel hbx.out hbm.below) hbn⟩
      · clear he
        have hd1 : ((s.size : Int) == 0) = false := beq_eq_false_iff_ne.2 (by omega)
        have hd2 : decide ((16 : Int) < s.size) = true := by simp; omega
        have hm : nameMay s = false := by rw [nameMay_def]; simp [h2]
        go_wp2_with (first | (go_at_call 21; refine (may_calls _ _).mono ?_; rintro e w2 ⟨rfl, hbn⟩) | (go_at_call 20; refine (cruciblelaw0_Num.calls _ _ _ rfl).mono ?_; rintro e w3 ⟨rfl, hbm⟩))
        go_ret
        exact ⟨ret_bool (by simp), bel hbx.out hbn⟩
    · clear he
      have hd1 : ((s.size : Int) == 0) = true := beq_iff_eq.2 (by omega)
      have hm : nameMay s = false := by rw [nameMay_def]; simp [h1]
      go_wp2_with (first | (go_at_call 21; refine (may_calls _ _).mono ?_; rintro e w2 ⟨rfl, hbn⟩) | (go_at_call 20; refine (cruciblelaw0_Num.calls _ _ _ rfl).mono ?_; rintro e w3 ⟨rfl, hbm⟩))
      go_ret
      exact ⟨ret_bool (by simp), bel hbx.out hbn⟩

theorem cruciblelaw1_NameParts.walk (a0 : ByteArray) (a1 : Int) (w : World) (w0 : a0.size ≤ 140737488351232) :
    Calls Try.prog 6 #[.string a0, .int .i64 a1] w fun e w' => e = .returned (.bool true) ∧ Below w.heap.size w w' := NameParts_any a0 a1 w w0
end Go.Proofs.Ytchkgljhklfhnaa.Print
