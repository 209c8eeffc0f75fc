/- The law ScopeRow, walked. -/
import Derived.Test.YtchkgljhklfhnaaQScopeRow
import Derived.Test.YtchkgljhklfhnaaPCruciblelaw4Awake
import Derived.Deep.RegionHeld3
import Derived.Deep.DrawnRows
namespace Go.Proofs.Ytchkgljhklfhnaa.Print
open Go.RowKit Go.Lib Go.Shelf Go.Proofs.YtchkgljhklfhnaaW.PrintWords Go.Proofs.YtchkgljhklfhnaaW.PrintLast Go.Proofs.YtchkgljhklfhnaaW.PrintMore
attribute [local go_sem] max2_int min2_int max_two min_two max_three min_three max_four min_four
attribute [local go_sem high] eqA42
attribute [local go_sem ↓] Go.wp_at_zero Go.wp_at_succ
set_option linter.unusedVariables false

theorem awake4r (k : Nat) (hk : 8 ≤ k) : cruciblelaw4_awake.f k = some true := by
  have h : cruciblelaw4_awake.f 8 = some true := by decide +kernel
  exact at_rounds (g := fun k => cruciblelaw4_awake.f k) (fun k => cruciblelaw4_awake.mono k) hk h
theorem and7r (n : Int) : Go.bits .and .i64 n 7 = n % 8 := by
  have h31 : (BitVec.ofInt 64 7).toNat = 2 ^ 3 - 1 := by decide
  have key : (BitVec.ofInt 64 n &&& BitVec.ofInt 64 7).toNat = (n % ((2 ^ 64 : Nat) : Int)).toNat % 2 ^ 3 := by
    rw [BitVec.toNat_and, BitVec.toNat_ofInt, h31, Nat.and_two_pow_sub_one_eq_mod]
  show IntKind.i64.wrap ((BitVec.ofInt 64 n &&& BitVec.ofInt 64 7).toNat : Nat) = n % 8
  rw [key, IntKind.wrap_i64]
  omega
theorem and15r (n : Int) : Go.bits .and .i64 n 15 = n % 16 := by
  have h31 : (BitVec.ofInt 64 15).toNat = 2 ^ 4 - 1 := by decide
  have key : (BitVec.ofInt 64 n &&& BitVec.ofInt 64 15).toNat = (n % ((2 ^ 64 : Nat) : Int)).toNat % 2 ^ 4 := by
    rw [BitVec.toNat_and, BitVec.toNat_ofInt, h31, Nat.and_two_pow_sub_one_eq_mod]
  show IntKind.i64.wrap ((BitVec.ofInt 64 n &&& BitVec.ofInt 64 15).toNat : Nat) = n % 16
  rw [key, IntKind.wrap_i64]
  omega
theorem strN (a k : Nat) (h : a + k < 256) (W : World) : (convert 26 9 (.slice (some ⟨W.heap.size, 0, none⟩) 1 1)).run Try.prog (W.alloc (.cells #[.int .u8 ((a : Int) + (k : Int))] 5)) = .ok (.string ⟨#[UInt8.ofNat (a + k)]⟩) (W.alloc (.cells #[.int .u8 ((a : Int) + (k : Int))] 5)) := by
  have e : ((UInt8.ofNat (a + k)).toNat : Int) = (a : Int) + (k : Int) := by
    rw [UInt8.toNat_ofNat']
    omega
  have := run_convert_bytes_back (P := Try.prog) (W.alloc (.cells #[.int .u8 ((a : Int) + (k : Int))] 5)) 26 9 5 ⟨W.heap.size, 0, none⟩ 1 [UInt8.ofNat (a + k)] (by kernel_rfl) (by kernel_rfl) (by kernel_rfl) (fun j hj => by
    obtain rfl : j = 0 := by simp at hj; omega
    have hb := blk_new W (.cells #[.int .u8 ((a : Int) + (k : Int))] 5)
    have := blk_cell hb 0
    simp only [List.getElem_cons_zero, e]
    exact this)
  exact this
theorem char_ok : ∀ m : Fin 16, plainB ⟨#[UInt8.ofNat (97 + m.val)]⟩ 256 = true := by decide +kernel
theorem bs_long {row : List Nat} {want : Nat → ByteArray} (h : RInv row want) : longOk (bsOf row want) = true := by
  unfold longOk bsOf
  rw [List.all_eq_true]
  intro x hx
  obtain ⟨k, hk, rfl⟩ := List.mem_map.1 hx
  have := (h.2.1 k hk).2.1
  simp only [decide_eq_true_eq]
  omega
theorem info3 : (Try.prog.info? 3).map (fun i => (i.zero, i.size, i.bytes)) = some (some (.int .i64 0), 1, 8) := by kernel_rfl

theorem keepRow {wx W W' : World} {a1 a2 a3 a4 : Addr} {x1 x2 x3 x4 : Value} (h : W.cell? a1 = some x1 ∧ W.cell? a2 = some x2 ∧ W.cell? a3 = some x3 ∧ W.cell? a4 = some x4 ∧ Aside0 (Below wx.heap.size wx W)) (hb : Below W.heap.size W W') :
    W'.cell? a1 = some x1 ∧ W'.cell? a2 = some x2 ∧ W'.cell? a3 = some x3 ∧ W'.cell? a4 = some x4 ∧ Aside0 (Below wx.heap.size wx W') := by
  obtain ⟨h1, h2, h3, h4, h5⟩ := h
  exact ⟨(hb.cell (World.block_lt_of_cell? _ _ h1)).trans h1, (hb.cell (World.block_lt_of_cell? _ _ h2)).trans h2, (hb.cell (World.block_lt_of_cell? _ _ h3)).trans h3, (hb.cell (World.block_lt_of_cell? _ _ h4)).trans h4, ⟨below_step h5.out hb⟩⟩
theorem heldRow {wx W : World} {a1 a2 a3 a4 : Addr} {x1 x2 x3 x4 : Value} (h : W.cell? a1 = some x1 ∧ W.cell? a2 = some x2 ∧ W.cell? a3 = some x3 ∧ W.cell? a4 = some x4 ∧ Aside0 (Below wx.heap.size wx W)) : Below wx.heap.size wx W := h.2.2.2.2.out
def cells8 (cs : Array Value) (want : Nat → ByteArray) : Prop := cs.size = 8 ∧ ∀ j, j < 8 → cs[j]? = some (.string (want j))
def asInts (row : List Nat) : List Int := row.map fun k : Nat => (k : Int)
def RelRow (w1 : World) (l : List Int) (v3 v4 v6 : Value) (wr : World) : Prop :=
  ∃ (i : Nat) (row : List Nat) (want : Nat → ByteArray) (cs : Array Value), v6 = .int .i64 i ∧ i ≤ l.length ∧ i ≤ 30 ∧ RInv row want ∧
    Kd.R k42 42 wr w1.heap.size (fun k => k ≠ w1.heap.size) v3 (bsOf row want) ∧ Kd.R (Kd.int .i64) 3 wr w1.heap.size (fun k => k ≠ w1.heap.size) v4 (asInts row) ∧
    wr.heap[w1.heap.size]? = some (.cells cs 45 (0, 0)) ∧ cells8 cs want ∧ Below w1.heap.size w1 wr
theorem row_next {w1 W : World} {l : List Int} {i K : Nat} {row : List Nat} {want : Nat → ByteArray} {cs : Array Value} {v3 v4 : Value} {t : ByteArray} (hi : i + 1 ≤ l.length) (h30 : i + 1 ≤ 30) (hK : K < 8)
    (h3 : Kd.R k42 42 W w1.heap.size (fun k => k ≠ w1.heap.size) v3 (bsOf row (upd want K t))) (h4 : Kd.R (Kd.int .i64) 3 W w1.heap.size (fun k => k ≠ w1.heap.size) v4 (asInts row))
    (hb : W.heap[w1.heap.size]? = some (.cells cs 45 (0, 0))) (h8 : cells8 cs want) (hbel : Below w1.heap.size w1 W) (hinv : RInv row (upd want K t)) :
    RelRow w1 l v3 v4 (.int .i64 ((i : Int) + 1)) (W.setCell ⟨w1.heap.size, K, none⟩ (.string t)) := by
  refine ⟨i + 1, row, upd want K t, cs.setIfInBounds K (.string t), rfl, hi, h30, hinv, Kd.R_far (p := ⟨w1.heap.size, K, none⟩) h3 (fun _ hk => hk) _, Kd.R_far (p := ⟨w1.heap.size, K, none⟩) h4 (fun _ hk => hk) _, blk_set hb K _, ⟨by simp [h8.1], fun j hj => ?_⟩, hbel.setCell (p := ⟨w1.heap.size, K, none⟩) (Nat.le_refl _) _⟩
  rw [Array.getElem?_setIfInBounds]
  by_cases e : K = j
  · subst e
    rw [if_pos rfl, if_pos (by rw [h8.1]; exact hj)]
    simp [upd]
  · rw [if_neg e, h8.2 j hj]
    have e2 : ¬ j = K := fun x => e x.symm
    simp [upd, e2]

set_option maxHeartbeats 8000000 in
set_option maxRecDepth 100000 in
theorem ScopeRow_walk {S : Prop} (w : World) (A : Option Addr) (c : Nat) (l : List Int) (hr : Kd.C (Kd.int .i64) w A l.length l) (hc : l.length ≤ c) (_hs : S) :
    Calls Try.prog 9 #[.slice A l.length c] w fun e w' => e = .returned (.bool true) ∧ Below w.heap.size w w' := by
  have HR := Aside0.mk hr
  clear hr _hs
  go_enter Try.func9, Try.ntmps9
  go_wp2_with fail
  refine (cruciblelaw4_awake.calls 8 true w (awake4r 8 (by omega))).mono ?_
  rintro e w1 ⟨rfl, b1⟩
  have HB1 := Aside0.mk b1
  clear b1
  go_upto_region 7 with (fail)
  go_loopw [3, 4, 6, 7, 8, 9, 10] (fun v3 v4 v6 v7 v8 v9 v10 wr => RelRow w1 l v3 v4 v6 wr) (fun v3 v4 v6 v7 v8 v9 v10 _ => l.length - (intOf v6).toNat)
  case atStart =>
    exact ⟨0, [], fun _ => ⟨#[]⟩, _, rfl, by omega, by omega, rinv_nil, Kd.R_nil _ _ _ _ _, Kd.R_nil _ _ _ _ _, blk_new _ _, ⟨rfl, fun j hj => by
      obtain rfl | rfl | rfl | rfl | rfl | rfl | rfl | rfl : j = 0 ∨ j = 1 ∨ j = 2 ∨ j = 3 ∨ j = 4 ∨ j = 5 ∨ j = 6 ∨ j = 7 := by omega
      all_goals rfl⟩, (Below.refl _ _).alloc (Nat.le_refl _) _⟩
  case round =>
    obtain ⟨i, row, want, cs, rfl, hi, h30, hinv, hR3, hR4, hblk, h8, hbel⟩ := hrel
    by_cases hmain : i < l.length ∧ i < 30
    · obtain ⟨hlt, h3⟩ := hmain
      have HBW := Aside0.mk (below_step HB1.out hbel)
      obtain ⟨ad, ea, hx0⟩ := Kd.at_int HR.out (i : Int) (by omega) (by omega)
      subst ea
      have hx := (HBW.out.cell (World.block_lt_of_cell? w _ hx0)).trans hx0
      rw [Int.toNat_natCast] at hx
      obtain ⟨K, hK, hK8⟩ : ∃ K : Nat, bits .and .i64 (rd l (i : Int)) 7 = (K : Int) ∧ K < 8 := ⟨(rd l (i : Int) % 8).toNat, by rw [and7r]; omega, by omega⟩
      obtain ⟨m, hm, hm16⟩ : ∃ m : Nat, bits .and .i64 (i : Int) 15 = (m : Int) ∧ m < 16 := ⟨((i : Int) % 16).toNat, by rw [and15r]; omega, by omega⟩
      have kc1 : ∀ W : World, (convert 26 9 (.slice (some ⟨W.heap.size, 0, none⟩) 1 1)).run Try.prog (W.alloc (.cells #[.int .u8 (97 + (m : Int))] 5)) = .ok (.string ⟨#[UInt8.ofNat (97 + m)]⟩) (W.alloc (.cells #[.int .u8 (97 + (m : Int))] 5)) := fun W => strN 97 m (by omega) W
      have kc2 : ∀ (W : World) (o : Obj), (convert 26 9 (.slice (some ⟨W.heap.size + 1, 0, none⟩) 1 1)).run Try.prog ((W.alloc o).alloc (.cells #[.int .u8 (48 + (K : Int))] 5)) = .ok (.string ⟨#[UInt8.ofNat (48 + K)]⟩) ((W.alloc o).alloc (.cells #[.int .u8 (48 + (K : Int))] 5)) := fun W o => by
        have h_ := strN 48 K (by omega) (W.alloc o)
        rw [show (W.alloc o).heap.size = W.heap.size + 1 by simp] at h_
        exact h_
      have hvn : Hid (vn K = ⟨#[118]⟩ ++ ⟨#[UInt8.ofNat (48 + K)]⟩) := rfl
      obtain ⟨t, ht⟩ : ∃ t : ByteArray, (⟨#[UInt8.ofNat (97 + m)]⟩ : ByteArray) = t := ⟨_, rfl⟩
      have hts : t.size = 1 := by rw [← ht]; rfl
      have htp : plainB t 256 = true := by rw [← ht]; exact char_ok ⟨m, hm16⟩
      have hset := set_bs hinv K hK8 t hts htp
      have hF : Hid (scope_Set.f (bsOf row want) (vn K) t = some (bsOf (if K ∈ row then row else row ++ [K]) (upd want K t), 0)) := Lib.hid (by unfold scope_Set.f; rw [if_pos ⟨bs_long hinv, by omega⟩, hset.1])
      rw [ht] at kc1
      generalize UInt8.ofNat (48 + K) = ch at *
      have HINV := Aside0.mk hset.2
      have HIN0 := Aside0.mk hinv
      have H3 := Aside0.mk hR3
      have H4 := Aside0.mk hR4
      have HBLK := Aside0.mk hblk
      have H8 := Aside0.mk h8
      have HBEL := Aside0.mk hbel
      have hbl := blk_lt hblk
      obtain ⟨A3, c3, e3⟩ := Kd.R_slice hR3
      subst e3
      clear hset hinv hR3 hR4 hblk h8 hbel hx0 ht
      go_wp2_with fail
      rw [← hvn.out]
      have HW2 := Aside0.mk (below_alloc (below_alloc HBEL.out (.cells #[.int .u8 (97 + (m : Int))] 5)) (.cells #[.int .u8 (48 + (K : Int))] 5))
      have hb2 := Aside0.mk (blk_alloc (blk_alloc HBLK.out (.cells #[.int .u8 (97 + (m : Int))] 5)) (.cells #[.int .u8 (48 + (K : Int))] 5))
      have h42 := Aside0.mk (Kd.R_alloc (Kd.R_alloc H4.out (.cells #[.int .u8 (97 + (m : Int))] 5)) (.cells #[.int .u8 (48 + (K : Int))] 5))
      have h32 := Aside0.mk (Kd.C_alloc (Kd.C_alloc (Kd.R_reads' H3.out).2.2 (.cells #[.int .u8 (97 + (m : Int))] 5)) (.cells #[.int .u8 (48 + (K : Int))] 5))
      have hc3 := (Kd.R_reads' H3.out).2.1
      generalize (wr.alloc (.cells #[.int .u8 (97 + (m : Int))] 5)).alloc (.cells #[.int .u8 (48 + (K : Int))] 5) = wa at *
      refine (scope_Set.calls A3 c3 (bsOf row want) (vn K) t _ 0 wa h32.out hc3 hF.out).mono ?_
      rintro e w5 ⟨v5, rfl, hR5, hb5⟩
      have hbw : w1.heap.size < wa.heap.size := blk_lt hb2.out
      have H5 := Aside0.mk (Kd.R_lower (Kd.R_mono (Kd.R_bound hR5) (ok' := fun k => k ≠ w1.heap.size) (fun k hk => by have := hk.2.1; omega)) (Nat.le_of_lt hbw))
      have H45 := Aside0.mk (Kd.R_below h42.out hb5)
      have hb5k := Aside0.mk (blk_below hb2.out hb5)
      have HW5 := Aside0.mk (below_step HW2.out hb5)
      clear hR5 hb5 H3 H4 HBLK h42 h32 hb2 HW2 HBEL hc3 hx kc1 kc2
      go_wp2_with fail
      refine (cruciblelaw0_Num.calls 0 0 _ rfl).mono ?_
      rintro e w6 ⟨rfl, ⟨nd, rfl⟩⟩
      have H6 := Aside0.mk (Kd.R_drewN H5.out nd)
      have H46 := Aside0.mk (Kd.R_drewN H45.out nd)
      have hb6 := Aside0.mk (blk_drewN hb5k.out nd)
      have HW6 := Aside0.mk (pw_below_drewN HW5.out nd)
      clear H5 H45 hb5k HW5
      generalize w5.drewN nd = w7 at *
      have hcell := blk_cell hb6.out K
      rw [H8.out.2 K hK8] at hcell
      have hfr := blk_frozen hb6.out K
      by_cases hm : K ∈ row
      · rw [if_pos hm] at H6 HINV
        have hne : ¬ (want K).toList = [] := fun e => (want_iff HIN0.out K).1 e hm
        have HNE : Hid (¬ (want K).toList.isEmpty = true) := Lib.hid (by simpa using hne)
        go_wp2_with fail
        · exact ⟨row_next (by omega) (by omega) hK8 H6.out H46.out hb6.out H8.out HW6.out HINV.out, by simp [intOf]; omega⟩
        all_goals (rename_i hx; exact absurd hx HNE.out)
      · rw [if_neg hm] at H6 HINV
        have hn : (want K).toList = [] := (want_iff HIN0.out K).2 hm
        obtain ⟨L4, hL4⟩ : ∃ L, asInts row = L := ⟨_, rfl⟩
        have hll : L4.length = row.length := by rw [← hL4]; simp [asInts]
        have hrl := row_len HIN0.out
        have hL5 : Hid (asInts (row ++ [K]) = L4 ++ [(K : Int)]) := Lib.hid (by rw [← hL4]; simp [asInts])
        rw [hL4] at H46
        obtain ⟨A4, c4, e4⟩ := Kd.R_slice H46.out
        subst e4
        rw [hll] at H46
        clear hL4
        go_wp2_with (first | ((with_reducible refine gate_builtin (b := .append) (xs := #[.tmp 55, .tmp 57]) rfl ?_); at_builtin; refine Kd.R_append (Kd.int .i64) (w0 := w1) w1.heap.size rfl (.tmp 55) (.tmp 57) 44 3 (.int .i64 0) 8 rfl Try.underlying44 info3 rfl (by decide) (by omega) (.slice A4 row.length c4) L4 (K : Int) [.int .i64 (K : Int)] (fun k => k ≠ w1.heap.size) (fun _ => False) (by first | rfl | (simp [Act.eval, hll]; done)) (by first | rfl | (simp [Act.eval]; done)) rfl (fun _ hk => hk.elim) (fun k hk => ?aF) H46.out HW6.out HW6.out.size ?aL ?_; (case aF => have := blk_lt hb6.out; omega); (case aL => rw [hll]; omega); intro v8 w8 ho8 hb8 hg hat; have h68 := Aside0.mk (Kd.R_over' (v := .slice A4 row.length c4) H6.out (Kd.R_typed H46.out) (by decide) hg); have hb68 := Aside0.mk (blk_grown hb6.out hg (fun e => H46.out.1 _ e.symm rfl)); have hcell8 := blk_cell hb68.out K; rw [H8.out.2 K hK8] at hcell8; have hfr8 := blk_frozen hb68.out K; clear hat hg hcell hfr))
        exact ⟨row_next (by omega) (by omega) hK8 h68.out (by rw [hL5.out]; exact ho8) hb68.out H8.out hb8 HINV.out, by simp [intOf]; omega⟩
    · have hcase : ¬ i < l.length ∨ (i < l.length ∧ ¬ i < 30) := by omega
      clear hmain
      rcases hcase with hlt | ⟨hlt, h3⟩
      all_goals
        obtain ⟨A3, c3, e3⟩ := Kd.R_slice hR3
        subst e3
        obtain ⟨A4, c4, e4⟩ := Kd.R_slice hR4
        subst e4
        have hi4 : (asInts row).length = row.length := by simp [asInts]
        have H3 := Aside0.mk (Kd.R_reads' hR3).2.2
        have H4 := Aside0.mk (Kd.R_reads' hR4).2.2
        have hc3 := (Kd.R_reads' hR3).2.1
        have HWr := Aside0.mk (below_step HB1.out hbel)
        have HI := Aside0.mk hinv
        have H8 := Aside0.mk h8
        have HBLK := Aside0.mk hblk
        rw [bs_len] at hc3 H3 ⊢
        rw [hi4] at H4 ⊢
        clear hR3 hR4 hinv h8 hblk hbel
        generalize wr = wx at *
        go_upto_region 21 with (fail)
        go_loopw [11, 12] (fun v11 v12 wz => ∃ k : Nat, v11 = .int .i64 k ∧ k ≤ row.length ∧ Aside0 (Below wx.heap.size wx wz)) (fun v11 v12 _ => row.length - (intOf v11).toNat)
        case atStart => exact ⟨0, rfl, by omega, ⟨Below.refl _ _⟩⟩
        case round =>
          obtain ⟨k, rfl, hk, hbq⟩ := hrel
          by_cases hkl : k < row.length
          · have hx8 := (HI.out.2.1 row[k] (List.getElem_mem hkl)).1
            have hri : rd (asInts row) (k : Int) = (row[k] : Int) := by simp [rd, asInts, hkl]
            have hrb := bs_rd row want k hkl
            have hgb : Hid (scope_Get.f (bsOf row want) (vn row[k]) = some (want row[k])) := Lib.hid (by unfold scope_Get.f; rw [if_pos (bs_long HI.out), get_bs HI.out k hkl])
            have hcx := H8.out.2 row[k] hx8
            generalize row[k] = x at *
            obtain ⟨ad4, ea4, hy⟩ := Kd.at_int (Kd.C_below (show Kd.C (Kd.int .i64) wx A4 (asInts row).length (asInts row) by rw [hi4]; exact H4.out) hbq.out) (k : Int) (by omega) (by omega)
            subst ea4
            rw [Int.toNat_natCast, hri] at hy
            have kc : ∀ W : World, (convert 26 9 (.slice (some ⟨W.heap.size, 0, none⟩) 1 1)).run Try.prog (W.alloc (.cells #[.int .u8 (48 + (x : Int))] 5)) = .ok (.string ⟨#[UInt8.ofNat (48 + x)]⟩) (W.alloc (.cells #[.int .u8 (48 + (x : Int))] 5)) := fun W => strN 48 x (by omega) W
            have hvn : Hid (vn x = ⟨#[118]⟩ ++ ⟨#[UInt8.ofNat (48 + x)]⟩) := rfl
            generalize UInt8.ofNat (48 + x) = ch at *
            go_upto_region 24 with (fail)
            rw [← hvn.out]
            have hbz := Aside0.mk (below_alloc hbq.out (.cells #[.int .u8 (48 + (x : Int))] 5))
            generalize wr.alloc (.cells #[.int .u8 (48 + (x : Int))] 5) = wz at *
            clear hy kc hvn hbq
            obtain ⟨ad4', ea4, hy⟩ := Kd.at_int (Kd.C_below (show Kd.C (Kd.int .i64) wx (some ad4) (asInts row).length (asInts row) by rw [hi4]; exact H4.out) hbz.out) (k : Int) (by omega) (by omega)
            obtain rfl : ad4 = ad4' := by injection ea4
            rw [Int.toNat_natCast, hri] at hy
            obtain ⟨ad3, ea3, hz0, hz1⟩ := at_T42 (show Kd.C k42 wz A3 (bsOf row want).length (bsOf row want) by rw [bs_len]; exact Kd.C_below H3.out hbz.out) (k : Int) (by omega) (by rw [bs_len]; omega)
            subst ea3
            rw [Int.toNat_natCast, hrb] at hz0 hz1
            have hq := blk_cell (blk_below HBLK.out hbz.out) x
            rw [hcx] at hq
            obtain ⟨u, hu⟩ : ∃ u, want x = u := ⟨_, rfl⟩
            obtain ⟨v, hv⟩ : ∃ v, vn x = v := ⟨_, rfl⟩
            simp only [hu] at hz1 hq
            simp only [hv] at hz0
            rw [hu, hv] at hgb
            rw [hv]
            clear hu hv hcx hrb hri ea4
            have hu42 := Try.underlying42
            have p0 : (0 : Int) ≤ k := by omega
            have p1 : (k : Int) < row.length := by omega
            have p2 : (0 : Int) ≤ x := by omega
            have p3 : (x : Int) < 8 := by omega
            have hs3 : (bsOf row want).length = row.length := bs_len row want
            have hcall : ∀ W, Below wx.heap.size wx W → Calls Try.prog 28 #[.slice (some ad3) row.length c3, .string v] W fun e w' => e = .returned (.string u) ∧ Below W.heap.size W w' := fun W hW => by
              have hC3 : Kd.C k42 wx (some ad3) (bsOf row want).length (bsOf row want) := by rw [bs_len]; exact H3.out
              have := scope_Get.calls (some ad3) c3 (bsOf row want) v u W (Kd.C_below hC3 hW) (by rw [bs_len]; exact hc3) hgb.out
              rw [bs_len] at this
              exact this
            have HCALL := Lib.hid hcall
            clear hcall hgb
            go_region_held3 (fun w' => w'.cell? (ad3.add (k * 2)) = some (.string v) ∧ w'.cell? ⟨(ad3.add (k * 2)).block, (ad3.add (k * 2)).off + 1, none⟩ = some (.string u) ∧ w'.cell? (ad4.add k) = some (.int .i64 (x : Int)) ∧ w'.cell? ⟨w1.heap.size, x, none⟩ = some (.string u) ∧ Aside0 (Below wx.heap.size wx w')) (first | exact keepRow ⟨hz0, hz1, hy, hq, hbz⟩ (Below.refl _ _).drew | exact keepRow (by assumption) b9) (first | (go_at_call 28; refine (HCALL.out _ (heldRow (by assumption))).mono ?_; rintro e w9 ⟨rfl, b9⟩))
            rename_i hh
            have hbx := Aside0.mk (heldRow hh)
            clear hh
            have hrl := row_len HI.out
            go_wp2_with fail
            exact ⟨⟨k + 1, by go_num, by omega, hbx⟩, by simp [intOf]; omega⟩
          · go_wp2_with fail
            go_ret
            exact ⟨rfl, below_step HWr.out hbq.out⟩
end Go.Proofs.Ytchkgljhklfhnaa.Print
