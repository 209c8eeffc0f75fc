import Derived.Test.YtbkgcdjbkoeejaaHCut35
import Derived.Test.YtbkgcdjbkoeejaaQName
import Derived.BigRegion
/- crucibleref1.text and variable, walked. -/
namespace Go.Proofs.Ytbkgcdjbkoeejaa.Print
open Go.RowKit Go.Lib Go.Shelf Go.Proofs.YtbkgcdjbkoeejaaW.PrintWords Go.Proofs.YtbkgcdjbkoeejaaW.PrintLast Go.Proofs.YtbkgcdjbkoeejaaW.PrintMore
set_option linter.unusedVariables false

theorem one_string (W : World) (ch : UInt8) : (convert 45 9 (.slice (some ⟨W.heap.size, 0, none⟩) 1 1)).run Try.prog (W.alloc (.cells #[.int .u8 (ch.toNat : Int)] 5)) = .ok (.string ⟨#[ch]⟩) (W.alloc (.cells #[.int .u8 (ch.toNat : Int)] 5)) := by
  have := run_convert_bytes_back (P := Try.prog) (W.alloc (.cells #[.int .u8 (ch.toNat : Int)] 5)) 45 9 5 ⟨W.heap.size, 0, none⟩ 1 [ch] (by kernel_rfl) (by kernel_rfl) (by kernel_rfl) (fun j hj => by
    obtain rfl : j = 0 := by simp at hj; omega
    have hb := blk_new W (.cells #[.int .u8 (ch.toNat : Int)] 5)
    exact blk_cell hb 0)
  exact this

theorem one_string_drew (W : World) (ch : UInt8) : (convert 45 9 (.slice (some ⟨W.heap.size, 0, none⟩) 1 1)).run Try.prog (W.alloc (.cells #[.int .u8 (ch.toNat : Int)] 5)).drew = .ok (.string ⟨#[ch]⟩) (W.alloc (.cells #[.int .u8 (ch.toNat : Int)] 5)).drew := by
  have := run_convert_bytes_back (P := Try.prog) (W.alloc (.cells #[.int .u8 (ch.toNat : Int)] 5)).drew 45 9 5 ⟨W.heap.size, 0, none⟩ 1 [ch] (by kernel_rfl) (by kernel_rfl) (by kernel_rfl) (fun j hj => by
    obtain rfl : j = 0 := by simp at hj; omega
    have hb := blk_drew (blk_new W (.cells #[.int .u8 (ch.toNat : Int)] 5))
    exact blk_cell hb 0)
  exact this

set_option maxHeartbeats 2000000 in
set_option maxRecDepth 100000 in
theorem rtext_calls (B : Nat) (v : Value) (out : List S49) (ch : UInt8) (w : World) (hR : Kd.R k49 49 w B (fun _ => True) v out) (hB : B ≤ w.heap.size)
    (hl : out.length < 5864062014805) (hz : 0 < out.length → (rd_T49 out ((out.length - 1 : Nat) : Int)).f1.size < 9223372036854775807) :
    Calls Try.prog 36 #[v, .int .u8 ch.toNat] w fun e w' => ∃ v' : Value, e = .returned v' ∧ Kd.R k49 49 w' B (fun _ => True) v' (addText out ⟨#[ch]⟩) ∧ Below B w w' := by
  have hd : Hid (addText out ⟨#[ch]⟩ = if 0 < out.length ∧ (rd_T49 out ((out.length - 1 : Nat) : Int)).f0 = false then out.set (out.length - 1) ⟨(rd_T49 out ((out.length - 1 : Nat) : Int)).f0, (rd_T49 out ((out.length - 1 : Nat) : Int)).f1 ++ ⟨#[ch]⟩⟩ else out ++ [⟨false, ⟨#[ch]⟩⟩]) := rfl
  have HR := Aside0.mk hR
  obtain ⟨A, c, hv, hlc, hC⟩ := Kd.R_reads hR
  subst hv
  have HC := Aside0.mk hC
  clear hR hC
  have kc := fun W => one_string W ch
  have kd := fun W => one_string_drew W ch
  by_cases h0 : 0 < out.length
  · obtain ⟨g', cap, hv, gb, gl, cells, hcells⟩ := Kd.R_form HR.out h0
    injection hv with ha _ hc
    subst ha hc
    obtain ⟨hx0, hx1, hf0, hf1, hput⟩ := elem49 HR.out (out.length - 1) (by omega)
    have hi0 : (0 : Int) ≤ (out.length : Int) - 1 := by omega
    have hzz := hz h0
    clear hput hf0 hf1 hcells hx1
    obtain ⟨L, hL⟩ : ∃ L, rd_T49 out ((out.length - 1 : Nat) : Int) = L := ⟨_, rfl⟩
    rw [hL] at hd hx0 hzz
    clear hz
    cases hb0 : L.f0
    · rw [if_pos ⟨h0, hb0⟩] at hd
      rw [hb0] at hx0
      have h0' : (0 : Int) < out.length := by omega
      go_enter Try.func36, Try.ntmps36
      go_upto_region 3 with (first | ((with_reducible refine gate_dst (N := 19) rfl ?_); refine Kd.R_lit k49 w.heap.size 49 ?hg (N := 19) ?hd (xs := ([] : List (S49))) (inner := []) (ok := fun _ => True) (okp := fun _ => True) ?hr ?hp (fun _ hk => hk) trivial (Below.refl _ _) (Nat.le_refl _) (by simp) ?_; (case hd => rfl); (case hg => rfl); (case hr => first | (go_simp; done) | (go_simp; rfl)); (case hp => exact (Reps.none _ _)); intro v1 w1 ho1 hb1 hg_ hnew_; clear hg_ hnew_) | ((with_reducible refine gate_builtin (b := .append) (xs := #[.tmp 19, .tmp 20]) rfl ?_); at_builtin; refine Kd.R_append_rows k49 (w0 := w) w.heap.size rfl (.tmp 19) (.tmp 20) 41 49 (.agg #[(.bool false), (.string ⟨#[]⟩)]) 24 rfl Try.underlying41 info49 rfl (by decide) (by omega) v1 [] out _ _ _ (fun _ => True) (fun _ => False) rfl rfl ho1 (Kd.C_below HC.out hb1) (fun _ _ h => h) (fun _ h => h.elim) (fun _ _ => trivial) hb1 hb1.size ?aL ?_; (case aL => simp only [List.length_nil]; omega); intro v2 w2 ho2 hb2 hg hat; clear hg hat; rw [List.nil_append] at ho2))
      obtain ⟨g2, c2, hv2, gb2, gl2, cells2, hcells2⟩ := Kd.R_form ho2 h0
      subst hv2
      obtain ⟨hy0, hy1, hf0, hf1, hput⟩ := elem49 ho2 (out.length - 1) (by omega)
      rw [hL] at hy0 hy1 hput
      have HP := Lib.hid hput
      have HB2 := Aside0.mk hb2
      clear hput hy0 hf0 hb2 hx0 ho1 hb1
      have hb0' := Lib.hid hb0
      clear hb0
      go_region
      go_wp2_with fail
      refine bodyPost_ret (v := .slice (some ⟨g2, 0, none⟩) out.length c2) (by simp [results, Try.results36, go_sem]) rfl ?_
      have hs := (HB2.out.mono hB).setCell (p := ⟨g2, (out.length - 1) * 2 + 1, none⟩) (Nat.le_trans hB gb2) (.string (L.f1 ++ ⟨#[ch]⟩))
      have hr := Kd.R_drew (Kd.R_alloc (Kd.R_lower (HP.out (L.f1 ++ ⟨#[ch]⟩)) hB) (.cells #[.int .u8 (ch.toNat : Int)] 5))
      refine ⟨_, rfl, ?_, below_drew (hs.alloc (Nat.le_trans hB hs.size) _)⟩
      rw [hd.out]
      simpa using hr
    · rw [if_neg (fun h => by rw [hb0] at h; exact absurd h.2 (by decide))] at hd
      rw [hb0] at hx0
      go_enter Try.func36, Try.ntmps36
      go_wp2_with (first | ((with_reducible refine gate_builtin (b := .append) (xs := #[.tmp 40, .tmp 45]) rfl ?_); at_builtin; refine Kd.R_append k49 (w0 := w) B rfl (.tmp 40) (.tmp 45) 41 49 (.agg #[(.bool false), (.string ⟨#[]⟩)]) 24 rfl Try.underlying41 info49 rfl (by decide) (by omega) (.slice (some ⟨g', 0, none⟩) out.length c) out (⟨false, ⟨#[ch]⟩⟩ : S49) [.bool false, .string ⟨#[ch]⟩] (fun _ => True) (fun _ => False) rfl (by first | rfl | (simp [Act.eval]; done)) (k49_mkM _ _ _ (⟨false, ⟨#[ch]⟩⟩ : S49)) (fun _ hk => hk.elim) (fun k hk => trivial) (Kd.R_alloc HR.out _) ((Below.refl _ _).alloc hB _) (by simp; omega) ?aL ?_; (case aL => omega); intro v5 w5 ho5 hb5 hg hat; clear hat hg))
      go_ret
      exact ⟨_, rfl, by rw [hd.out]; exact ho5, hb5⟩
  · rw [if_neg (fun h => h0 h.1)] at hd
    obtain rfl : out = [] := List.length_eq_zero_iff.1 (by omega)
    clear hz
    go_enter Try.func36, Try.ntmps36
    go_wp2_with (first | ((with_reducible refine gate_builtin (b := .append) (xs := #[.tmp 40, .tmp 45]) rfl ?_); at_builtin; refine Kd.R_append k49 (w0 := w) B rfl (.tmp 40) (.tmp 45) 41 49 (.agg #[(.bool false), (.string ⟨#[]⟩)]) 24 rfl Try.underlying41 info49 rfl (by decide) (by omega) (.slice A ([] : List S49).length c) [] (⟨false, ⟨#[ch]⟩⟩ : S49) [.bool false, .string ⟨#[ch]⟩] (fun _ => True) (fun _ => False) rfl (by first | rfl | (simp [Act.eval]; done)) (k49_mkM _ _ _ (⟨false, ⟨#[ch]⟩⟩ : S49)) (fun _ hk => hk.elim) (fun k hk => trivial) (Kd.R_alloc HR.out _) ((Below.refl _ _).alloc hB _) (by simp; omega) ?aL ?_; (case aL => simp); intro v5 w5 ho5 hb5 hg hat; clear hat hg))
    go_ret
    exact ⟨_, rfl, by rw [hd.out]; exact ho5, hb5⟩
end Go.Proofs.Ytbkgcdjbkoeejaa.Print

/- crucibleref1.variable, walked. -/
namespace Go.Proofs.Ytbkgcdjbkoeejaa.Print
open Go.RowKit Go.Lib Go.Shelf Go.Proofs.YtbkgcdjbkoeejaaW.PrintWords Go.Proofs.YtbkgcdjbkoeejaaW.PrintLast Go.Proofs.YtbkgcdjbkoeejaaW.PrintMore
set_option linter.unusedVariables false

theorem small_calls (c : Int) (w : World) : Calls Try.prog 38 #[.int .u8 c] w fun e w' => e = .returned (.bool (smallB c)) ∧ ∃ n, w' = w.drewN n :=
  (crucibleref1_small.calls c _ w (small_eq c)).mono fun _ _ ⟨he, ⟨n, hn⟩⟩ => ⟨he, n, hn⟩
theorem varB_small (c : Int) : varB c = (smallB c || c == 95) := by
  unfold varB smallB
  simp [Bool.or_assoc]

set_option maxHeartbeats 2000000 in
set_option maxRecDepth 100000 in
theorem rvariable_calls (s : ByteArray) (hs : s.size ≤ 140737488355328) (w : World) :
    Calls Try.prog 37 #[.string s] w fun e w' => e = .returned (.int .i64 (varLen s)) ∧ ∃ n, w' = w.drewN n := by
  have hv := varLen_le s
  have hgo := Lib.hid (varLen_go s)
  generalize varLen s = n at *
  go_enter Try.func37, Try.ntmps37
  go_wp2
  go_loopw [3] (fun v3 wr => ∃ k m : Nat, v3 = .int .i64 k ∧ k ≤ n ∧ wr = w.drewN m) (fun v3 _ => n - (intOf v3).toNat)
  case atStart => exact ⟨0, 0, rfl, by omega, rfl⟩
  case round =>
    obtain ⟨k, m, rfl, hk, rfl⟩ := hrel
    have hg := hgo.out k hk
    by_cases hlt : k < n
    · have hks : k < s.size := by omega
      have hkv := hg.1 hlt hks
      rw [varB_small] at hkv
      clear hg
      cases hsm : smallB s[k].toNat
      · rw [hsm] at hkv
        have hc : ((s[k].toNat : Int) == 95) = true := by simpa using hkv
        have HS := Lib.hid hsm
        clear hkv hsm
        go_wp2_with (first | (go_at_call 38; refine (small_calls _ _).mono ?_; rintro e w' ⟨rfl, ⟨nd, rfl⟩⟩; rw [HS.out]))
        exact ⟨⟨k + 1, _, by go_num, by omega, rfl⟩, by simp [intOf]; omega⟩
      · have HS := Lib.hid hsm
        clear hkv hsm
        go_wp2_with (first | (go_at_call 38; refine (small_calls _ _).mono ?_; rintro e w' ⟨rfl, ⟨nd, rfl⟩⟩; rw [HS.out]))
        exact ⟨⟨k + 1, _, by go_num, by omega, rfl⟩, by simp [intOf]; omega⟩
    · obtain rfl : k = n := by omega
      by_cases hks : k < s.size
      · have hkv := hg.2 rfl hks
        rw [varB_small, Bool.or_eq_false_iff] at hkv
        obtain ⟨hsm, hc⟩ := hkv
        have HS := Lib.hid hsm
        clear hg hsm
        go_wp2_with (first | (go_at_call 38; refine (small_calls _ _).mono ?_; rintro e w' ⟨rfl, ⟨nd, rfl⟩⟩; rw [HS.out]))
        go_ret
        exact ⟨rfl, _, rfl⟩
      · go_wp2_with fail
        go_ret
        exact ⟨rfl, _, rfl⟩
end Go.Proofs.Ytbkgcdjbkoeejaa.Print
