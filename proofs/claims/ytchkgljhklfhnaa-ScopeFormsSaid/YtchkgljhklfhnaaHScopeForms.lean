/- The law ScopeForms, walked. -/
import Derived.Test.YtchkgljhklfhnaaQScope
import Derived.Test.YtchkgljhklfhnaaQSet
import Derived.Test.YtchkgljhklfhnaaPCruciblelaw4Awake
import Derived.Laws.Bits128
namespace Go.Proofs.Ytchkgljhklfhnaa.Print
open Go.RowKit Go.Lib Go.Shelf Go.Proofs.YtchkgljhklfhnaaW.PrintWords Go.Proofs.YtchkgljhklfhnaaW.PrintLast Go.Proofs.YtchkgljhklfhnaaW.PrintMore
attribute [local go_sem] max2_int min2_int max_two min_two max_three min_three max_four min_four
set_option linter.unusedVariables false

theorem awake4f (k : Nat) (hk : 8 ≤ k) : cruciblelaw4_awake.f k = some true := by
  have h : cruciblelaw4_awake.f 8 = some true := by decide +kernel
  exact at_rounds (g := fun k => cruciblelaw4_awake.f k) (fun k => cruciblelaw4_awake.mono k) hk h
theorem and15 (n : Int) : Go.bits .and .i64 n 15 = n % 16 := by
  have h31 : (BitVec.ofInt 64 15).toNat = 2 ^ 4 - 1 := by decide
  have key : (BitVec.ofInt 64 n &&& BitVec.ofInt 64 15).toNat = (n % ((2 ^ 64 : Nat) : Int)).toNat % 2 ^ 4 := by
    rw [BitVec.toNat_and, BitVec.toNat_ofInt, h31, Nat.and_two_pow_sub_one_eq_mod]
  show IntKind.i64.wrap ((BitVec.ofInt 64 n &&& BitVec.ofInt 64 15).toNat : Nat) = n % 16
  rw [key, IntKind.wrap_i64]
  omega
def qs (n : Nat) : ByteArray := ⟨(List.replicate n 113).toArray⟩
theorem qs_size (n : Nat) : (qs n).size = n := by simp [qs, ByteArray.size]
theorem qs_succ (n : Nat) : qs n ++ (⟨#[113]⟩ : ByteArray) = qs (n + 1) := by
  unfold qs
  apply ByteArray.ext
  apply Array.ext'
  simp [List.replicate_succ']
def one (k : Nat) : S42 := ⟨⟨#[118]⟩ ++ ⟨#[UInt8.ofNat (97 + k)]⟩, ⟨#[49]⟩⟩
def full : List S42 := (List.range 16).map one
theorem full_take (k : Nat) (h : k < 16) : full.take k ++ [one k] = full.take (k + 1) := by
  have e : full[k]? = some (one k) := by simp [full, h]
  rw [List.take_add_one, e]
  rfl
theorem full_all : full.take 16 = full := by
  rw [List.take_of_length_le]
  simp [full]
theorem set_full : ∀ m : Fin 16, (scope_Set.f full ((⟨#[118]⟩ : ByteArray) ++ (⟨#[UInt8.ofNat (97 + m.val)]⟩ : ByteArray)) (⟨#[50]⟩ : ByteArray)).map (fun r => (r.1.length, r.2)) = some (16, 0) := by decide +kernel
theorem set_more : (scope_Set.f full (⟨#[119]⟩ : ByteArray) (⟨#[49]⟩ : ByteArray)).map (fun r => r.2) = some 401 := by decide +kernel
theorem may_full : scope_May.f full = some true := by decide +kernel
theorem bad_long (n : Nat) (h : 256 < n) (hn : n ≤ 100000) : scope_May.f [⟨⟨#[97]⟩, qs n⟩] = some false ∧ longOk [⟨⟨#[97]⟩, qs n⟩] = true ∧ plainB (qs n) 256 = false := by
  have hp : plainB (qs n) 256 = false := by unfold plainB; rw [qs_size]; simp; omega
  have hl : longOk [⟨⟨#[97]⟩, qs n⟩] = true := by simp [longOk, qs_size]; omega
  refine ⟨?_, hl, hp⟩
  unfold scope_May.f
  rw [if_pos hl]
  congr 1
  refine all_no _ 0 (by simp) ?_
  have : rd_T42 [⟨⟨#[97]⟩, qs n⟩] (0 : Nat) = ⟨⟨#[97]⟩, qs n⟩ := rfl
  unfold okAt
  rw [this, hp]
  simp
theorem set_bad (l : List S42) (h : scope_May.f l = some false) (hl : longOk l = true) (s t : ByteArray) (ht : t.size ≤ 9223372036854775807) : scope_Set.f l s t = some ([], 400) ∧ scope_Get.f l s = some ⟨#[]⟩ := by
  unfold scope_May.f at h
  rw [if_pos hl] at h
  have hm := Option.some.inj h
  constructor
  · unfold scope_Set.f scopeSet
    rw [if_pos ⟨hl, ht⟩, if_neg (by simp [hm])]
  · unfold scope_Get.f scopeGet
    rw [if_pos hl, if_neg (fun h => by rw [hm] at h; exact absurd h.2 (by decide))]
theorem set_nil (s t : ByteArray) (hs : nameMay s = false ∨ plainB t 256 = false) (ht : t.size ≤ 9223372036854775807) : scope_Set.f ([] : List S42) s t = some ([], 400) := by
  unfold scope_Set.f scopeSet
  rw [if_pos ⟨by decide, ht⟩, if_neg (by rcases hs with h | h <;> simp [h])]
theorem str1 (k : Nat) (h : k < 16) (W : World) : (convert 26 9 (.slice (some ⟨W.heap.size, 0, none⟩) 1 1)).run Try.prog (W.alloc (.cells #[.int .u8 (97 + (k : Int))] 5)) = .ok (.string ⟨#[UInt8.ofNat (97 + k)]⟩) (W.alloc (.cells #[.int .u8 (97 + (k : Int))] 5)) := by
  have e : ((UInt8.ofNat (97 + k)).toNat : Int) = 97 + (k : Int) := by
    rw [UInt8.toNat_ofNat']
    omega
  have := run_convert_bytes_back (P := Try.prog) (W.alloc (.cells #[.int .u8 (97 + (k : Int))] 5)) 26 9 5 ⟨W.heap.size, 0, none⟩ 1 [UInt8.ofNat (97 + k)] (by kernel_rfl) (by kernel_rfl) (by kernel_rfl) (fun j hj => by
    obtain rfl : j = 0 := by simp at hj; omega
    have hb := blk_new W (.cells #[.int .u8 (97 + (k : Int))] 5)
    have := blk_cell hb 0
    simp only [List.getElem_cons_zero, e]
    exact this)
  exact this

set_option maxHeartbeats 8000000 in
set_option maxRecDepth 100000 in
theorem ScopeForms_walk (w : World) (x0 : Int) (h0 : (Lit.int .i64 x0).wf = true) (x1 : Int) (h1 : (Lit.int .i64 x1).wf = true) :
    Calls Try.prog 8 #[.int .i64 x0, .int .i64 x1] w fun e w' => e = .returned (.bool true) ∧ Below w.heap.size w w' := by
  obtain ⟨d, hd, hd2⟩ : ∃ d : Nat, bits .and .i64 x1 127 = (d : Int) ∧ d < 128 := ⟨(x1 % 128).toNat, by rw [i64_and127]; omega, by omega⟩
  obtain ⟨m, hm, hm2⟩ : ∃ m : Nat, bits .and .i64 x1 15 = (m : Int) ∧ m < 16 := ⟨(x1 % 16).toNat, by rw [and15]; omega, by omega⟩
  obtain ⟨j, hj, hj2⟩ : ∃ j : Nat, Int.tmod (IntKind.u64.wrap x0) 5 = (j : Int) ∧ j < 5 := by
    have hb : 0 ≤ IntKind.u64.wrap x0 := by rw [IntKind.wrap_u64]; omega
    refine ⟨(IntKind.u64.wrap x0 % 5).toNat, ?_, by omega⟩
    rw [Int.tmod_eq_emod_of_nonneg hb]
    omega
  have HM := Lib.hid hm
  have HJ := Lib.hid hj
  clear hm hj
  go_enter Try.func8, Try.ntmps8
  go_wp2_with fail
  refine (cruciblelaw4_awake.calls 8 true w (awake4f 8 (by omega))).mono ?_
  rintro e w1 ⟨rfl, b1⟩
  have HB1 := Aside0.mk b1
  clear b1
  go_wp2_with fail
  go_loop [6, 7] (fun v6 v7 => ∃ k : Nat, v6 = .string (qs k) ∧ v7 = .int .i64 k ∧ k ≤ 257 + d) (fun v6 v7 => 257 + d - (intOf v7).toNat)
  case atStart => exact ⟨0, rfl, rfl, by omega⟩
  case round =>
    obtain ⟨k, rfl, rfl, hk⟩ := hrel
    by_cases hlt : k < 257 + d
    · have hsz : (qs k).size + 1 ≤ 9223372036854775807 := by rw [qs_size]; omega
      go_wp2_with fail
      exact ⟨⟨k + 1, by rw [qs_succ], by go_num, by omega⟩, by simp [intOf]; omega⟩
    · obtain rfl : k = 257 + d := by omega
      obtain ⟨T, hT⟩ : ∃ T, qs (257 + d) = T := ⟨_, rfl⟩
      have hTs : T.size = 257 + d := by rw [← hT, qs_size]
      have hbl := bad_long (257 + d) (by omega) (by omega)
      rw [hT] at hbl
      rw [hT]
      have HT := Lib.hid hbl
      clear hbl hT
      go_upto_region 10 with (first | ((with_reducible refine gate_dst (N := 39) rfl ?_); refine Kd.R_lit k42 _ 42 ?hg (N := 39) ?hd (xs := ([(⟨(⟨#[97]⟩ : ByteArray), (⟨#[]⟩ : ByteArray)⟩ : S42), (⟨(⟨#[97]⟩ : ByteArray), (⟨#[]⟩ : ByteArray)⟩ : S42)] : List S42)) (inner := [.string (⟨#[97]⟩ : ByteArray), .string (⟨#[]⟩ : ByteArray), .string (⟨#[97]⟩ : ByteArray), .string (⟨#[]⟩ : ByteArray)]) (ok := fun _ => True) (okp := fun _ => True) ?hr ?hp (fun _ hk => hk) trivial (Below.refl _ _) (Nat.le_refl _) (by simp) ?_; (case hd => rfl); (case hg => rfl); (case hr => first | (go_simp; done) | (go_simp; rfl)); (case hp => exact (Reps.c2 (show Kd.M k42 _ _ _ (⟨(⟨#[97]⟩ : ByteArray), (⟨#[]⟩ : ByteArray)⟩ : S42) [.string (⟨#[97]⟩ : ByteArray), .string (⟨#[]⟩ : ByteArray)] from (k42_mkM _ _ _ (⟨(⟨#[97]⟩ : ByteArray), (⟨#[]⟩ : ByteArray)⟩ : S42))) (Reps.c2 (show Kd.M k42 _ _ _ (⟨(⟨#[97]⟩ : ByteArray), (⟨#[]⟩ : ByteArray)⟩ : S42) [.string (⟨#[97]⟩ : ByteArray), .string (⟨#[]⟩ : ByteArray)] from (k42_mkM _ _ _ (⟨(⟨#[97]⟩ : ByteArray), (⟨#[]⟩ : ByteArray)⟩ : S42))) (Reps.none _ _)))); intro v0 w0 ho0 hb0 hg_ hnew_; clear hg_ hnew_; obtain ⟨A0, c0, e0⟩ := Kd.R_slice ho0; subst e0; simp only [List.length_cons, List.length_nil, Nat.zero_add, Nat.reduceAdd] at ho0; have HC0 := Aside0.mk (Kd.R_reads' ho0).2.2; have HL0 := Aside0.mk (Kd.R_reads' ho0).2.1; clear ho0; have HBL := Aside0.mk hb0; clear hb0) | ((with_reducible refine gate_dst (N := 41) rfl ?_); refine Kd.R_lit k42 _ 42 ?hg (N := 41) ?hd (xs := ([(⟨(⟨#[65]⟩ : ByteArray), (⟨#[]⟩ : ByteArray)⟩ : S42)] : List S42)) (inner := [.string (⟨#[65]⟩ : ByteArray), .string (⟨#[]⟩ : ByteArray)]) (ok := fun _ => True) (okp := fun _ => True) ?hr ?hp (fun _ hk => hk) trivial (Below.refl _ _) (Nat.le_refl _) (by simp) ?_; (case hd => rfl); (case hg => rfl); (case hr => first | (go_simp; done) | (go_simp; rfl)); (case hp => exact (Reps.c2 (show Kd.M k42 _ _ _ (⟨(⟨#[65]⟩ : ByteArray), (⟨#[]⟩ : ByteArray)⟩ : S42) [.string (⟨#[65]⟩ : ByteArray), .string (⟨#[]⟩ : ByteArray)] from (k42_mkM _ _ _ (⟨(⟨#[65]⟩ : ByteArray), (⟨#[]⟩ : ByteArray)⟩ : S42))) (Reps.none _ _))); intro v1 w1 ho1 hb1 hg_ hnew_; clear hg_ hnew_; obtain ⟨A1, c1, e1⟩ := Kd.R_slice ho1; subst e1; simp only [List.length_cons, List.length_nil, Nat.zero_add] at ho1; have HC1 := Aside0.mk (Kd.R_reads' ho1).2.2; have HL1 := Aside0.mk (Kd.R_reads' ho1).2.1; clear ho1; have n0_ := Aside0.mk (Kd.C_below HC0.out hb1); clear HC0; have HC0 := n0_; clear n0_; have nb_ := Aside0.mk (below_step HBL.out hb1); clear HBL; have HBL := nb_; clear nb_; clear hb1) | ((with_reducible refine gate_dst (N := 43) rfl ?_); refine Kd.R_lit k42 _ 42 ?hg (N := 43) ?hd (xs := ([(⟨(⟨#[]⟩ : ByteArray), (⟨#[]⟩ : ByteArray)⟩ : S42)] : List S42)) (inner := [.string (⟨#[]⟩ : ByteArray), .string (⟨#[]⟩ : ByteArray)]) (ok := fun _ => True) (okp := fun _ => True) ?hr ?hp (fun _ hk => hk) trivial (Below.refl _ _) (Nat.le_refl _) (by simp) ?_; (case hd => rfl); (case hg => rfl); (case hr => first | (go_simp; done) | (go_simp; rfl)); (case hp => exact (Reps.c2 (show Kd.M k42 _ _ _ (⟨(⟨#[]⟩ : ByteArray), (⟨#[]⟩ : ByteArray)⟩ : S42) [.string (⟨#[]⟩ : ByteArray), .string (⟨#[]⟩ : ByteArray)] from (k42_mkM _ _ _ (⟨(⟨#[]⟩ : ByteArray), (⟨#[]⟩ : ByteArray)⟩ : S42))) (Reps.none _ _))); intro v2 w2 ho2 hb2 hg_ hnew_; clear hg_ hnew_; obtain ⟨A2, c2, e2⟩ := Kd.R_slice ho2; subst e2; simp only [List.length_cons, List.length_nil, Nat.zero_add] at ho2; have HC2 := Aside0.mk (Kd.R_reads' ho2).2.2; have HL2 := Aside0.mk (Kd.R_reads' ho2).2.1; clear ho2; have n0_ := Aside0.mk (Kd.C_below HC0.out hb2); clear HC0; have HC0 := n0_; clear n0_; have n1_ := Aside0.mk (Kd.C_below HC1.out hb2); clear HC1; have HC1 := n1_; clear n1_; have nb_ := Aside0.mk (below_step HBL.out hb2); clear HBL; have HBL := nb_; clear nb_; clear hb2) | ((with_reducible refine gate_dst (N := 45) rfl ?_); refine Kd.R_lit k42 _ 42 ?hg (N := 45) ?hd (xs := ([(⟨(⟨#[97]⟩ : ByteArray), (⟨#[10]⟩ : ByteArray)⟩ : S42)] : List S42)) (inner := [.string (⟨#[97]⟩ : ByteArray), .string (⟨#[10]⟩ : ByteArray)]) (ok := fun _ => True) (okp := fun _ => True) ?hr ?hp (fun _ hk => hk) trivial (Below.refl _ _) (Nat.le_refl _) (by simp) ?_; (case hd => rfl); (case hg => rfl); (case hr => first | (go_simp; done) | (go_simp; rfl)); (case hp => exact (Reps.c2 (show Kd.M k42 _ _ _ (⟨(⟨#[97]⟩ : ByteArray), (⟨#[10]⟩ : ByteArray)⟩ : S42) [.string (⟨#[97]⟩ : ByteArray), .string (⟨#[10]⟩ : ByteArray)] from (k42_mkM _ _ _ (⟨(⟨#[97]⟩ : ByteArray), (⟨#[10]⟩ : ByteArray)⟩ : S42))) (Reps.none _ _))); intro v3 w3 ho3 hb3 hg_ hnew_; clear hg_ hnew_; obtain ⟨A3, c3, e3⟩ := Kd.R_slice ho3; subst e3; simp only [List.length_cons, List.length_nil, Nat.zero_add] at ho3; have HC3 := Aside0.mk (Kd.R_reads' ho3).2.2; have HL3 := Aside0.mk (Kd.R_reads' ho3).2.1; clear ho3; have n0_ := Aside0.mk (Kd.C_below HC0.out hb3); clear HC0; have HC0 := n0_; clear n0_; have n1_ := Aside0.mk (Kd.C_below HC1.out hb3); clear HC1; have HC1 := n1_; clear n1_; have n2_ := Aside0.mk (Kd.C_below HC2.out hb3); clear HC2; have HC2 := n2_; clear n2_; have nb_ := Aside0.mk (below_step HBL.out hb3); clear HBL; have HBL := nb_; clear nb_; clear hb3) | ((with_reducible refine gate_dst (N := 48) rfl ?_); refine Kd.R_lit k42 _ 42 ?hg (N := 48) ?hd (xs := ([(⟨(⟨#[97]⟩ : ByteArray), T⟩ : S42)] : List S42)) (inner := [.string (⟨#[97]⟩ : ByteArray), .string T]) (ok := fun _ => True) (okp := fun _ => True) ?hr ?hp (fun _ hk => hk) trivial (Below.refl _ _) (Nat.le_refl _) (by simp) ?_; (case hd => rfl); (case hg => rfl); (case hr => first | (go_simp; done) | (go_simp; rfl)); (case hp => exact (Reps.c2 (show Kd.M k42 _ _ _ (⟨(⟨#[97]⟩ : ByteArray), T⟩ : S42) [.string (⟨#[97]⟩ : ByteArray), .string T] from (k42_mkM _ _ _ (⟨(⟨#[97]⟩ : ByteArray), T⟩ : S42))) (Reps.none _ _))); intro v4 w4 ho4 hb4 hg_ hnew_; clear hg_ hnew_; obtain ⟨A4, c4, e4⟩ := Kd.R_slice ho4; subst e4; simp only [List.length_cons, List.length_nil, Nat.zero_add] at ho4; have HC4 := Aside0.mk (Kd.R_reads' ho4).2.2; have HL4 := Aside0.mk (Kd.R_reads' ho4).2.1; clear ho4; have n0_ := Aside0.mk (Kd.C_below HC0.out hb4); clear HC0; have HC0 := n0_; clear n0_; have n1_ := Aside0.mk (Kd.C_below HC1.out hb4); clear HC1; have HC1 := n1_; clear n1_; have n2_ := Aside0.mk (Kd.C_below HC2.out hb4); clear HC2; have HC2 := n2_; clear n2_; have n3_ := Aside0.mk (Kd.C_below HC3.out hb4); clear HC3; have HC3 := n3_; clear n3_; have nb_ := Aside0.mk (below_step HBL.out hb4); clear HBL; have HBL := nb_; clear nb_; clear hb4))
      have HBW := Aside0.mk (below_step HB1.out HBL.out)
      go_cut [9] (fun v9 wc => ∃ (A : Option Addr) (c : Nat) (B : List S42), v9 = .slice A B.length c ∧ B.length ≤ c ∧ Aside0 (Kd.C k42 wc A B.length B) ∧ Aside0 (scope_May.f B = some false ∧ longOk B = true) ∧ Aside0 (Below w.heap.size w wc))
      case first =>
        have hj := HJ.out
        obtain rfl | rfl | rfl | rfl | rfl : j = 0 ∨ j = 1 ∨ j = 2 ∨ j = 3 ∨ j = 4 := by omega
        · go_wp2_with fail
          go_meet
          case rel => exact ⟨A0, c0, ([⟨⟨#[97]⟩, ⟨#[]⟩⟩, ⟨⟨#[97]⟩, ⟨#[]⟩⟩] : List S42), rfl, HL0.out, ⟨Kd.C_alloc HC0.out _⟩, ⟨by decide +kernel, by decide +kernel⟩, ⟨below_alloc HBW.out _⟩⟩
        · go_wp2_with fail
          go_meet
          case rel => exact ⟨A1, c1, ([⟨⟨#[65]⟩, ⟨#[]⟩⟩] : List S42), rfl, HL1.out, ⟨Kd.C_alloc HC1.out _⟩, ⟨by decide +kernel, by decide +kernel⟩, ⟨below_alloc HBW.out _⟩⟩
        · go_wp2_with fail
          go_meet
          case rel => exact ⟨A2, c2, ([⟨⟨#[]⟩, ⟨#[]⟩⟩] : List S42), rfl, HL2.out, ⟨Kd.C_alloc HC2.out _⟩, ⟨by decide +kernel, by decide +kernel⟩, ⟨below_alloc HBW.out _⟩⟩
        · go_wp2_with fail
          go_meet
          case rel => exact ⟨A3, c3, ([⟨⟨#[97]⟩, ⟨#[10]⟩⟩] : List S42), rfl, HL3.out, ⟨Kd.C_alloc HC3.out _⟩, ⟨by decide +kernel, by decide +kernel⟩, ⟨below_alloc HBW.out _⟩⟩
        · go_wp2_with fail
          go_meet
          case rel => exact ⟨A4, c4, ([⟨⟨#[97]⟩, T⟩] : List S42), rfl, HL4.out, ⟨Kd.C_alloc HC4.out _⟩, ⟨HT.out.1, HT.out.2.1⟩, ⟨below_alloc HBW.out _⟩⟩
      case rest =>
        obtain ⟨A, c, B, rfl, hBc, HC, HBF, HB⟩ := hcut
        have S1 := Lib.hid (set_bad B HBF.out.1 HBF.out.2 ⟨#[120]⟩ ⟨#[121]⟩ (by decide)).1
        have G1 := Lib.hid (set_bad B HBF.out.1 HBF.out.2 ⟨#[97]⟩ ⟨#[121]⟩ (by decide)).2
        have M1 := Lib.hid HBF.out.1
        have S2 := Lib.hid (set_nil ⟨#[88]⟩ ⟨#[121]⟩ (Or.inl (by decide)) (by decide))
        have S3 := Lib.hid (set_nil ⟨#[120]⟩ T (Or.inr HT.out.2.2) (by omega))
        have S4 := Lib.hid (set_nil ⟨#[120]⟩ ⟨#[9]⟩ (Or.inr (by decide)) (by decide))
        have nilC := Lib.hid (fun w : World => (Kd.R_reads' (Kd.R_nil k42 42 w 0 (fun _ => True))).2.2)
        clear HBW HBL HC0 HC1 HC2 HC3 HC4 HL0 HL1 HL2 HL3 HL4 HBF HJ HT HB1 hTs
        go_wp2_with fail
        refine (scope_Set.calls A c B _ _ [] 400 _ HC.out hBc S1.out).mono ?_
        rintro e w5 ⟨v5, rfl, -, b5⟩
        have HC5 := Aside0.mk (Kd.C_below HC.out b5)
        have HB5 := Aside0.mk (below_step HB.out b5)
        clear b5 HC HB
        go_wp2_with fail
        refine (scope_Set.calls none 0 [] _ _ [] 400 _ (nilC.out _) (by simp) S2.out).mono ?_
        rintro e w6 ⟨v6, rfl, -, b6⟩
        have HC6 := Aside0.mk (Kd.C_below HC5.out b6)
        have HB6 := Aside0.mk (below_step HB5.out b6)
        clear b6 HC5 HB5
        go_wp2_with fail
        refine (scope_Set.calls none 0 [] _ _ [] 400 _ (nilC.out _) (by simp) S3.out).mono ?_
        rintro e w7 ⟨v7, rfl, -, b7⟩
        have HC7 := Aside0.mk (Kd.C_below HC6.out b7)
        have HB7 := Aside0.mk (below_step HB6.out b7)
        clear b7 HC6 HB6
        go_wp2_with fail
        refine (scope_Set.calls none 0 [] _ _ [] 400 _ (nilC.out _) (by simp) S4.out).mono ?_
        rintro e w8 ⟨v8, rfl, -, b8⟩
        have HC8 := Aside0.mk (Kd.C_below HC7.out b8)
        have HB8 := Aside0.mk (below_step HB7.out b8)
        clear b8 HC7 HB7
        go_wp2_with fail
        go_loopw [18, 19] (fun v18 v19 wr => ∃ k : Nat, v19 = .int .i64 k ∧ k ≤ 16 ∧ Kd.R k42 42 wr w8.heap.size (fun _ => True) v18 (full.take k) ∧ Below w8.heap.size w8 wr) (fun _ v19 _ => 16 - (intOf v19).toNat)
        case atStart => exact ⟨0, rfl, by omega, Kd.R_nil _ _ _ _ _, Below.refl _ _⟩
        case round =>
          obtain ⟨k, rfl, hk, hR, hb⟩ := hrel
          by_cases hlt : k < 16
          · have hlen : (full.take k).length = k := by rw [List.length_take]; simp [full]; omega
            have hF := Lib.hid (full_take k hlt)
            have hone : Hid (one k = ⟨⟨#[118]⟩ ++ ⟨#[UInt8.ofNat (97 + k)]⟩, ⟨#[49]⟩⟩) := rfl
            have kc := fun W => str1 k hlt W
            generalize full.take k = L at *
            generalize UInt8.ofNat (97 + k) = ch at *
            have HR := Aside0.mk hR
            have HBr := Aside0.mk hb
            obtain ⟨Ar, cr, er⟩ := Kd.R_slice hR
            subst er
            rw [hlen] at HR ⊢
            clear hR hb
            go_wp2_with (first | ((with_reducible refine gate_builtin (b := .append) (xs := #[.tmp 79, .tmp 87]) rfl ?_); at_builtin; refine Kd.R_append k42 (w0 := w8) w8.heap.size rfl (.tmp 79) (.tmp 87) 30 42 (.agg #[(.string ⟨#[]⟩), (.string ⟨#[]⟩)]) 32 rfl Try.underlying30 info42 rfl (by decide) (by omega) (.slice Ar k cr) L (⟨⟨#[118]⟩ ++ ⟨#[ch]⟩, ⟨#[49]⟩⟩ : S42) [.string (⟨#[118]⟩ ++ ⟨#[ch]⟩), .string ⟨#[49]⟩] (fun _ => True) (fun _ => False) rfl (by first | rfl | (simp [Act.eval]; done)) (k42_mkM _ _ _ (⟨⟨#[118]⟩ ++ ⟨#[ch]⟩, ⟨#[49]⟩⟩ : S42)) (fun _ hk => hk.elim) (fun _ _ => trivial) (Kd.R_alloc HR.out _) (below_alloc HBr.out _) (below_alloc HBr.out _).size ?aL ?_; (case aL => rw [hlen]; omega); intro v9 w9 ho9 hb9 hg hat; clear hg hat))
            exact ⟨⟨k + 1, by go_num, by omega, by rw [← hF.out, hone.out]; exact ho9, hb9⟩, by simp [intOf]; omega⟩
          · obtain rfl : k = 16 := by omega
            rw [full_all] at hR
            obtain ⟨Ar, cr, er⟩ := Kd.R_slice hR
            subst er
            obtain ⟨r, hr, hr2⟩ := Option.map_eq_some_iff.1 set_more
            obtain ⟨r1, r2⟩ := r
            obtain rfl : r2 = 401 := hr2
            obtain ⟨q, hq, hq2⟩ := Option.map_eq_some_iff.1 (set_full ⟨m, hm2⟩)
            obtain ⟨q1, q2⟩ := q
            obtain ⟨hq3, hq4⟩ := Prod.mk.inj hq2
            replace hq3 : q1.length = 16 := hq3
            obtain rfl : q2 = 0 := hq4
            have HF := Aside0.mk (Kd.R_reads' hR).2.2
            have hFc := (Kd.R_reads' hR).2.1
            have S5 := Lib.hid hr
            have S6 := Lib.hid hq
            have MF := Lib.hid may_full
            have HC9 := Aside0.mk (Kd.C_below HC8.out hb)
            have HB9 := Aside0.mk (below_step HB8.out hb)
            have kc := fun W => str1 m hm2 W
            generalize full = FL at *
            generalize UInt8.ofNat (97 + m) = ch at *
            have e0 : (⟨#[]⟩ : ByteArray).toList = [] := by rw [Lib.toList_data]
            have hmm := HM.out
            clear hR hb HC8 HB8 hr hq hq2 HM
            go_wp2_with fail
            refine (scope_Set.calls Ar cr FL _ _ r1 401 _ HF.out hFc S5.out).mono ?_
            rintro e w10 ⟨v10, rfl, -, b10⟩
            have HC10 := Aside0.mk (Kd.C_below HC9.out b10)
            have HF10 := Aside0.mk (Kd.C_below HF.out b10)
            have HB10 := Aside0.mk (below_step HB9.out b10)
            clear b10 HC9 HF HB9
            go_wp2_with fail
            refine (scope_Set.calls Ar cr FL _ _ q1 0 _ (Kd.C_alloc HF10.out _) hFc S6.out).mono ?_
            rintro e w11 ⟨v11, rfl, hR11, b11⟩
            have HC11 := Aside0.mk (Kd.C_below (Kd.C_alloc HC10.out _) b11)
            have HF11 := Aside0.mk (Kd.C_below (Kd.C_alloc HF10.out _) b11)
            have HB11 := Aside0.mk (below_step (below_alloc HB10.out _) b11)
            obtain ⟨Aq, cq, eq⟩ := Kd.R_slice hR11
            subst eq
            rw [hq3]
            clear b11 HC10 HF10 HB10 hR11
            go_wp2_with fail
            refine (scope_May.calls A c B false _ HC11.out hBc M1.out).mono ?_
            rintro e w12 ⟨rfl, b12⟩
            have HC12 := Aside0.mk (Kd.C_below HC11.out b12)
            have HF12 := Aside0.mk (Kd.C_below HF11.out b12)
            have HB12 := Aside0.mk (below_step HB11.out b12)
            clear b12 HC11 HF11 HB11
            go_wp2_with fail
            refine (scope_Get.calls A c B _ _ _ HC12.out hBc G1.out).mono ?_
            rintro e w13 ⟨rfl, b13⟩
            have HF13 := Aside0.mk (Kd.C_below HF12.out b13)
            have HB13 := Aside0.mk (below_step HB12.out b13)
            clear b13 HC12 HF12 HB12
            go_wp2_with fail
            refine (scope_May.calls Ar cr FL true _ HF13.out hFc MF.out).mono ?_
            rintro e w14 ⟨rfl, b14⟩
            have HB14 := Aside0.mk (below_step HB13.out b14)
            clear b14 HF13 HB13
            go_wp2_with (first | (go_at_call 20; (with_reducible refine (cruciblelaw0_Num.calls _ _ _ rfl).mono ?_); rintro e w' ⟨rfl, ⟨nd, rfl⟩⟩))
            go_ret
            exact ⟨rfl, by repeat (first | exact HB14.out | apply pw_below_drewN)⟩
end Go.Proofs.Ytchkgljhklfhnaa.Print
