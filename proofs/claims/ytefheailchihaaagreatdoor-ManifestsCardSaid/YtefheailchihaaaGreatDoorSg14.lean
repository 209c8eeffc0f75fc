import Derived.Test.YtefheailchihaaaGreatDoorSg13
set_option maxHeartbeats 8000000
set_option maxRecDepth 100000
set_option linter.unusedVariables false
set_option linter.unusedSimpArgs false
section
namespace Go.Proofs.YtefheailchihaaaGreatDoor.Print
open Go.RowKit Go.Lib Go.Shelf Go.Proofs.YtefheailchihaaaGreatDoorW.PrintWords Go.Proofs.YtefheailchihaaaGreatDoorW.PrintLast Go.Proofs.YtefheailchihaaaGreatDoorW.PrintMore
attribute [local go_sem ↓] Go.wp_at_zero Go.wp_at_succ
theorem line_flat (p : Pst) (o : Opn) (t : ByteArray) : Ez p o false t = if Hn p o 0 = 0 then F8 (Gs p o) t else (Gs p o, .none, Hn p o 0) := rfl
theorem G_cells {w : World} {G : Nat} (h : w.heap[G]? = some (.cells #[.slice none 0 0, .slice none 0 0, .slice none 0 0] 26 (0, 0))) : w.cell? ⟨G, 0, none⟩ = some (.slice none 0 0) ∧ w.cell? ⟨G, 1, none⟩ = some (.slice none 0 0) ∧ w.cell? ⟨G, 2, none⟩ = some (.slice none 0 0) ∧ w.frozen? ⟨G, 0, none⟩ = false ∧ w.frozen? ⟨G, 1, none⟩ = false ∧ w.frozen? ⟨G, 2, none⟩ = false :=
 ⟨Ab h 0, Ab h 1, Ab h 2, As h 0, As h 1, As h 2⟩
theorem parse11_calls (s : ByteArray) (hs : s.size ≤ 140737488355328) (w : World) :
 Calls Tryz.prog 11 #[.string s] w fun e w' => Ans w w' e (Ge s) := by
 have hls := lines_size s
 have hln := lines_len s (by omega)
 have HL := Lib.hid (r21 s hs (w.alloc (.cells #[.slice none 0 0, .slice none 0 0, .slice none 0 0] 26)))
 obtain ⟨Z, hZ⟩ : ∃ Z, Ge s = Z := ⟨_, rfl⟩
 have hZ2 := hZ
 rw [hZ]
 unfold Ge at hZ2
 obtain ⟨⟨ls, c⟩, hlc⟩ : ∃ q, Ef s = q := ⟨_, rfl⟩
 rw [hlc] at hls hln HL hZ2
 simp only at hls hln HL hZ2
 have HZ := Lib.hid hZ2
 have HLS := Lib.hid hls
 clear hls hZ hZ2 hlc
 have HA := Aa.mk ((Below.refl w.heap.size w).alloc (Nat.le_refl _) (.cells #[.slice none 0 0, .slice none 0 0, .slice none 0 0] 26))
 have HGa := Aa.mk (Cv w (.cells #[.slice none 0 0, .slice none 0 0, .slice none 0 0] 26))
 have hsz : (w.alloc (.cells #[.slice none 0 0, .slice none 0 0, .slice none 0 0] 26)).heap.size = w.heap.size + 1 := by simp
 have HBAD : ∀ (w3 : World) (E : Int), w3.heap[w.heap.size]? = some (.cells #[.slice none 0 0, .slice none 0 0, .slice none 0 0] 26 (0, 0)) → Below w.heap.size w w3 → Ans w (((w3.setCell ⟨w.heap.size, 0, none⟩ (.slice none 0 0)).setCell ⟨w.heap.size, 1, none⟩ (.slice none 0 0)).setCell ⟨w.heap.size, 2, none⟩ (.slice none 0 0)) (.returned (.tuple #[.agg #[.slice none 0 0, .slice none 0 0, .slice none 0 0], .int .i64 E])) ([], [], [], E) := fun w3 E hg hb => ans_nil (g_below hb)
 replace HBAD := Lib.hid HBAD
 by_cases h0 : c = 0
 case neg =>
  have h0b : (c != 0) = true := bne_iff_ne.2 h0
  have hz := HZ.out
  rw [if_neg h0] at hz
  subst hz
  go_enter Tryz.func11, Tryz.ntmps11
  go_wp2_with (first | (go_at_call 21; refine HL.out.mono ?_; rintro x w1 ⟨vl, rfl, hl, hb⟩; obtain ⟨Al, cl, rfl⟩ := Kd.Bd hl; have HG1 := Aa.mk (Aj HGa.out hb); have HB1 := Aa.mk (HA.out.trans (hb.mono (by omega))); obtain ⟨g0, g1, g2, f0, f1, f2⟩ := G_cells HG1.out; clear hl hb))
  have HGN := g_nil HG1.out
  have z0 := Ab HGN 0
  have z1 := Ab HGN 1
  have z2 := Ab HGN 2
  refine bodyPost_ret (v := .tuple #[.agg #[.slice none 0 0, .slice none 0 0, .slice none 0 0], .int .i64 800]) (by simp [results, Tryz.results11, go_sem, z0, z1, z2]) rfl ?_
  exact HBAD.out w1 800 HG1.out HB1.out
 subst h0
 have hz := HZ.out
 rw [if_pos rfl] at hz
 have HZ1 := Lib.hid hz
 clear hz HZ
 go_enter Tryz.func11, Tryz.ntmps11
 go_upto_region 5 with (first | (go_at_call 21; refine HL.out.mono ?_; rintro x w1 ⟨vl, rfl, hl, hb⟩; obtain ⟨Al, cl, rfl⟩ := Kd.Bd hl; have HG1 := Aa.mk (Aj HGa.out hb); have RL1 := Aa.mk (Kd.R_reads' hl).2.2; have HB1 := Aa.mk (HA.out.trans (hb.mono (by omega))); clear hl hb HGa HA))
 have hGB : w.heap.size < w1.heap.size := Cq HG1.out
 have HM2 : Aa (RSt (w1.alloc (.cells #[.slice none 0 0, .slice none 0 0, .slice none 0 0, .slice none 0 0, .slice none 0 0, .int .i64 0, .slice none 0 0, .string ⟨#[]⟩, .slice none 0 0, .slice none 0 0, .slice none 0 0, .slice none 0 0] 68)) w1.heap.size w1.heap.size pst0 .none) := ⟨⟨_, _, _, _, _, 0, _, _, _, _, _, _, fun _ => True, Nat.le_refl _, Cv w1 _, ⟨Kd.Di _ _ _ _ _, Kd.Di _ _ _ _ _, Kd.Di _ _ _ _ _, Kd.Di _ _ _ _ _, Kd.Di _ _ _ _ _⟩, smallS_nil, rfl⟩⟩
 have HB2 := Aa.mk ((Below.refl w1.heap.size w1).alloc (Nat.le_refl _) (.cells #[.slice none 0 0, .slice none 0 0, .slice none 0 0, .slice none 0 0, .slice none 0 0, .int .i64 0, .slice none 0 0, .string ⟨#[]⟩, .slice none 0 0, .slice none 0 0, .slice none 0 0, .slice none 0 0] 68))
 obtain ⟨B, hB⟩ : ∃ B, w1.heap.size = B := ⟨_, rfl⟩
 rw [hB] at HM2 HB2 hGB ⊢
 have HBB := Lib.hid hB
 clear hB
 generalize w1.alloc (.cells #[.slice none 0 0, .slice none 0 0, .slice none 0 0, .slice none 0 0, .slice none 0 0, .int .i64 0, .slice none 0 0, .string ⟨#[]⟩, .slice none 0 0, .slice none 0 0, .slice none 0 0, .slice none 0 0] 68) = w2 at HM2 HB2 ⊢
 go_wp2_with fail
 go_loopw [7] (fun v7 wr => ∃ (k : Nat) (p : Pst) (o : Opn), v7 = .int .i64 k ∧ k ≤ ls.length ∧ Aa (Fw ls pst0 .none = Fw (ls.drop k) p o) ∧ Aa (Inv p o) ∧ Aa (GM p o) ∧ Aa (RSt wr B B p o) ∧ Aa (Below B w1 wr)) (fun v7 _ => ls.length - (intOf v7).toNat)
 case atStart => exact ⟨0, pst0, .none, rfl, Nat.zero_le _, ⟨by rw [List.drop_zero]⟩, ⟨inv0⟩, ⟨gm0⟩, ⟨HM2.out⟩, ⟨HB2.out⟩⟩
 case round =>
  obtain ⟨k, p, o, rfl, hk, HPG, HIV, HGM, HM, HB⟩ := hrel
  have hBw : B ≤ wr.heap.size := by
   have h1 := HB.out.size
   have h2 := HBB.out
   omega
  by_cases hlt : k < ls.length
  ·have RLr := Aa.mk (Kd.Bb RL1.out (by rw [HBB.out]; exact HB.out))
   obtain ⟨ad, rfl, r0, r1⟩ := at_T59 RLr.out (k : Int) (by omega) (by omega)
   have hx := HLS.out _ (List.getElem_mem hlt)
   have hrd : rd_T59 ls (k : Int) = ls[k] := by simp [rd_T59, List.getD_eq_getElem?_getD, hlt]
   rw [hrd] at r0 r1
   simp only [Int.toNat_natCast] at r0 r1
   have RX : ∀ W : World, Below B w1 W → W.cell? ⟨(ad.add (k * 2)).block, (ad.add (k * 2)).off + 1, none⟩ = some (.string ls[k].f1) := fun W hW => by
    obtain ⟨ad2, e2, -, q1⟩ := at_T59 (Kd.Bb RL1.out (by rw [HBB.out]; exact hW)) (k : Int) (by omega) (by omega)
    injection e2 with e2
    subst e2
    rw [hrd] at q1
    simp only [Int.toNat_natCast] at q1
    exact q1
   have hgo := HPG.out
   rw [List.drop_eq_getElem_cons hlt] at hgo
   rw [parseGo_cons] at hgo
   generalize ls[k] = x at *
   obtain ⟨xd, xt⟩ := x
   simp only at r0 r1 hx hgo RX
   replace RX := Lib.hid RX
   have hinv := inv_line (p := p) (o := o) (d := xd) hx HIV.out
   have hgm := gm_line (p := p) (o := o) (d := xd) (t := xt) HGM.out
   cases xd with
   | true =>
    have HLC := Lib.hid (deep22_calls B B p o xt hx wr HM.out HGM.out)
    obtain ⟨⟨P', O', E'⟩, hL⟩ : ∃ q, B7 p o xt = q := ⟨_, rfl⟩
    rw [show Ez p o true xt = B7 p o xt from rfl, hL] at hgo hinv hgm
    rw [hL] at HLC
    simp only at HLC hgo hinv hgm
    have HINV := Lib.hid hinv
    have HGMM := Lib.hid hgm
    clear hL hinv hgm
    by_cases hE : E' = 0
    ·subst hE
     rw [if_pos rfl] at hgo
     have HGO := Aa.mk hgo
     clear hgo
     go_wp2_with (first | (go_at_call 22; refine HLC.out.mono ?_; rintro y w3 ⟨rfl, hb, hm⟩; have HM3 := Aa.mk (hm rfl); have HB3 := Aa.mk (HB.out.trans hb); clear hm hb))
     exact ⟨⟨k + 1, P', O', by go_num, by omega, ⟨HGO.out⟩, ⟨HINV.out trivial⟩, ⟨HGMM.out trivial⟩, ⟨HM3.out⟩, ⟨HB3.out⟩⟩, by simp [intOf]; omega⟩
    ·rw [if_neg hE] at hgo
     have HGO := Aa.mk hgo
     clear hgo
     have hEb : (E' != 0) = true := bne_iff_ne.2 hE
     go_wp2_with (first | (go_at_call 22; refine HLC.out.mono ?_; rintro y w3 ⟨rfl, hb, hm⟩; have HB3 := Aa.mk (HB.out.trans hb); have HG3 := Aa.mk ((HB3.out.block _ hGB).trans HG1.out); obtain ⟨g0, g1, g2, f0, f1, f2⟩ := G_cells HG3.out; clear hm hb))
     have hz := HZ1.out
     rw [HGO.out] at hz
     unfold Ig at hz
     rw [if_neg hE] at hz
     subst hz
     have HGN := g_nil HG3.out
     have z0 := Ab HGN 0
     have z1 := Ab HGN 1
     have z2 := Ab HGN 2
     refine bodyPost_ret (v := .tuple #[.agg #[.slice none 0 0, .slice none 0 0, .slice none 0 0], .int .i64 E']) (by simp [results, Tryz.results11, go_sem, z0, z1, z2]) rfl ?_
     exact HBAD.out w3 E' HG3.out (HB1.out.trans (HB3.out.mono (Nat.le_of_lt hGB)))
   | false =>
    have HOC := Lib.hid (over23_calls B B p o wr HM.out HGM.out HIV.out)
    rw [line_flat] at hgo hinv hgm
    have hov := gm_over HGM.out
    have hio := inv_over HIV.out
    obtain ⟨E1, hE1⟩ : ∃ q, Hn p o 0 = q := ⟨_, rfl⟩
    rw [hE1] at HOC hgo hinv hgm hov
    obtain ⟨P1, hP1⟩ : ∃ q, Gs p o = q := ⟨_, rfl⟩
    rw [hP1] at HOC hgo hinv hgm hov hio
    clear hE1 hP1
    by_cases hE : E1 = 0
    case neg =>
     rw [if_neg hE] at hgo
     simp only at hgo
     rw [if_neg hE] at hgo
     have HGO := Aa.mk hgo
     clear hgo hinv hgm hov
     have hEb : (E1 != 0) = true := bne_iff_ne.2 hE
     have hEc : (E1 == 0) = false := beq_false_of_ne hE
     go_wp2_with (first | (go_at_call 23; refine HOC.out.mono ?_; rintro y w3 ⟨rfl, hb, hm⟩; have HB3 := Aa.mk (HB.out.trans hb); have HG3 := Aa.mk ((HB3.out.block _ hGB).trans HG1.out); obtain ⟨g0, g1, g2, f0, f1, f2⟩ := G_cells HG3.out; clear hm hb))
     have hz := HZ1.out
     rw [HGO.out] at hz
     unfold Ig at hz
     rw [if_neg hE] at hz
     subst hz
     have HGN := g_nil HG3.out
     have z0 := Ab HGN 0
     have z1 := Ab HGN 1
     have z2 := Ab HGN 2
     refine bodyPost_ret (v := .tuple #[.agg #[.slice none 0 0, .slice none 0 0, .slice none 0 0], .int .i64 E1]) (by simp [results, Tryz.results11, go_sem, z0, z1, z2]) rfl ?_
     exact HBAD.out w3 E1 HG3.out (HB1.out.trans (HB3.out.mono (Nat.le_of_lt hGB)))
    subst hE
    rw [if_pos rfl] at hgo hinv hgm
    have HLC := fun (W : World) (hm : RSt W B B P1 .none) => flat24_calls B B P1 xt hx W hm hio
    obtain ⟨⟨P', O', E'⟩, hL⟩ : ∃ q, F8 P1 xt = q := ⟨_, rfl⟩
    rw [hL] at hgo hinv hgm
    simp only [hL] at HLC
    simp only at hgo hinv hgm
    replace HLC := Lib.hid HLC
    have HINV := Lib.hid hinv
    have HGMM := Lib.hid hgm
    clear hL hinv hgm hov
    by_cases hE : E' = 0
    ·subst hE
     rw [if_pos rfl] at hgo
     have HGO := Aa.mk hgo
     clear hgo
     go_wp2_with (first | (go_at_call 23; refine HOC.out.mono ?_; rintro y w3 ⟨rfl, hb, hm⟩; have HMo := Aa.mk (hm rfl); have HBo := Aa.mk (HB.out.trans hb); have r3 := RX.out _ HBo.out; clear hm hb) | (go_at_call 24; refine (HLC.out _ HMo.out).mono ?_; rintro y w4 ⟨rfl, hb, hm⟩; have HM3 := Aa.mk (hm (by trivial)); have HB3 := Aa.mk (HBo.out.trans hb); clear hm hb))
     exact ⟨⟨k + 1, P', O', by go_num, by omega, ⟨HGO.out⟩, ⟨HINV.out trivial⟩, ⟨HGMM.out trivial⟩, ⟨HM3.out⟩, ⟨HB3.out⟩⟩, by simp [intOf]; omega⟩
    ·rw [if_neg hE] at hgo
     have HGO := Aa.mk hgo
     clear hgo
     have hEb : (E' != 0) = true := bne_iff_ne.2 hE
     go_wp2_with (first | (go_at_call 23; refine HOC.out.mono ?_; rintro y w3 ⟨rfl, hb, hm⟩; have HMo := Aa.mk (hm rfl); have HBo := Aa.mk (HB.out.trans hb); have r3 := RX.out _ HBo.out; clear hm hb) | (go_at_call 24; refine (HLC.out _ HMo.out).mono ?_; rintro y w4 ⟨rfl, hb, hm⟩; have HB3 := Aa.mk (HBo.out.trans hb); have HG3 := Aa.mk ((HB3.out.block _ hGB).trans HG1.out); obtain ⟨g0, g1, g2, f0, f1, f2⟩ := G_cells HG3.out; clear hm hb))
     have hz := HZ1.out
     rw [HGO.out] at hz
     unfold Ig at hz
     rw [if_neg hE] at hz
     subst hz
     have HGN := g_nil HG3.out
     have z0 := Ab HGN 0
     have z1 := Ab HGN 1
     have z2 := Ab HGN 2
     refine bodyPost_ret (v := .tuple #[.agg #[.slice none 0 0, .slice none 0 0, .slice none 0 0], .int .i64 E']) (by simp [results, Tryz.results11, go_sem, z0, z1, z2]) rfl ?_
     exact HBAD.out w4 E' HG3.out (HB1.out.trans (HB3.out.mono (Nat.le_of_lt hGB)))
  ·obtain rfl : k = ls.length := by omega
   have hgo := HPG.out
   rw [List.drop_length] at hgo
   have hgo2 : Fw ls pst0 .none = (p, o, 0) := hgo
   have hz := HZ1.out
   rw [hgo2] at hz
   unfold Ig at hz
   rw [if_pos rfl] at hz
   simp only at hz
   clear hgo hgo2
   have HEN := Lib.hid (over23_calls B B p o wr HM.out HGM.out HIV.out)
   obtain ⟨E', hE'⟩ : ∃ q, Hn p o 0 = q := ⟨_, rfl⟩
   obtain ⟨P', hP'⟩ : ∃ q, Gs p o = q := ⟨_, rfl⟩
   rw [hE', hP'] at HEN hz
   clear hE' hP'
   by_cases hE : E' = 0
   case neg =>
    rw [if_neg hE] at hz
    have HZ2 := Lib.hid hz
    clear hz
    have hEb : (E' != 0) = true := bne_iff_ne.2 hE
    go_wp2_with (first | (go_at_call 23; refine HEN.out.mono ?_; rintro y w3 ⟨rfl, hb, hm⟩; have HB3 := Aa.mk (HB.out.trans hb); have HG3 := Aa.mk ((HB3.out.block _ hGB).trans HG1.out); obtain ⟨g0, g1, g2, f0, f1, f2⟩ := G_cells HG3.out; clear hm hb))
    have hz := HZ2.out
    subst hz
    have HGN := g_nil HG3.out
    have z0 := Ab HGN 0
    have z1 := Ab HGN 1
    have z2 := Ab HGN 2
    refine bodyPost_ret (v := .tuple #[.agg #[.slice none 0 0, .slice none 0 0, .slice none 0 0], .int .i64 E']) (by simp [results, Tryz.results11, go_sem, z0, z1, z2]) rfl ?_
    exact HBAD.out w3 E' HG3.out (HB1.out.trans (HB3.out.mono (Nat.le_of_lt hGB)))
   subst hE
   rw [if_pos rfl] at hz
   have HZ2 := Lib.hid hz
   clear hz
   go_wp2_with (first | (go_at_call 23; refine HEN.out.mono ?_; rintro y w3 ⟨rfl, hb, hm⟩; have HB3 := Aa.mk (HB.out.trans hb); have HG3 := Aa.mk ((HB3.out.block _ hGB).trans HG1.out); obtain ⟨g0, g1, g2, f0, f1, f2⟩ := G_cells HG3.out; obtain ⟨vE, vP, vD, vR, vO, op, v6, nm, v8, v9, v10, v11, ok, -, hp3, hr3, -⟩ := hm rfl; obtain ⟨AE, cE, rfl⟩ := Kd.Bd hr3.1; obtain ⟨AP, cP, rfl⟩ := Kd.Bd hr3.2.1; obtain ⟨AD, cD, rfl⟩ := Kd.Bd hr3.2.2.1; have HP3 := Aa.mk hp3; have HR3 := Aa.mk hr3; have q0 : w3.cell? ⟨B, 0, none⟩ = some (.slice AE P'.edges.length cE) := Ab hp3 0; have q1 : w3.cell? ⟨B, 1, none⟩ = some (.slice AP P'.pools.length cP) := Ab hp3 1; have q2 : w3.cell? ⟨B, 2, none⟩ = some (.slice AD P'.defs.length cD) := Ab hp3 2; clear hp3 hr3 hb hm))
   have hz2 := HZ2.out
   subst hz2
   have HGN := g_put (a := .slice AE P'.edges.length cE) (b := .slice AP P'.pools.length cP) (c := .slice AD P'.defs.length cD) HG3.out
   have HBN := g_below (a := .slice AE P'.edges.length cE) (b := .slice AP P'.pools.length cP) (c := .slice AD P'.defs.length cD) (HB1.out.trans (HB3.out.mono (Nat.le_of_lt hGB)))
   have hkk := Kept.then_ (Kept.then_ (Bm w3 w.heap.size 0 (.slice AE P'.edges.length cE)) (Bm _ w.heap.size 1 (.slice AP P'.pools.length cP)) (fun k hk => .inl hk)) (Bm _ w.heap.size 2 (.slice AD P'.defs.length cD)) (fun k hk => .inl hk)
   have hS : ∀ (l : List Nat), 26 ∉ l → ∀ k, k = w.heap.size → ∃ cells q, w3.heap[k]? = some (.cells cells q (0, 0)) ∧ q ∉ l := fun l hl k hk => by subst hk; exact ⟨_, 26, HG3.out, hl⟩
   have n1 := Bf HR3.out.1 hkk (hS _ (by decide))
   have n2 := Bf HR3.out.2.1 hkk (hS _ (by decide))
   have n3 := Bf HR3.out.2.2.1 hkk (hS _ (by decide))
   clear hkk hS
   generalize ((w3.setCell ⟨w.heap.size, 0, none⟩ (.slice AE P'.edges.length cE)).setCell ⟨w.heap.size, 1, none⟩ (.slice AP P'.pools.length cP)).setCell ⟨w.heap.size, 2, none⟩ (.slice AD P'.defs.length cD) = w9 at HGN HBN n1 n2 n3 ⊢
   have z0 := Ab HGN 0
   have z1 := Ab HGN 1
   have z2 := Ab HGN 2
   refine bodyPost_ret (v := .tuple #[.agg #[.slice AE P'.edges.length cE, .slice AP P'.pools.length cP, .slice AD P'.defs.length cD], .int .i64 0]) (by simp [results, Tryz.results11, go_sem, z0, z1, z2]) rfl ?_
   have hle := Nat.le_of_lt hGB
   exact ⟨_, _, _, rfl, Kd.Dv (Kd.De (R_not n1 n2 (by decide)) (fun k hk => ⟨hk.2, hk.1.1⟩)) hle, Kd.Dv (Kd.De (R_not (R_not n2 n1 (by decide)) n3 (by decide)) (fun k hk => ⟨hk.1.2, hk.2⟩)) hle, Kd.Dv (Kd.De (R_not (R_not n3 n1 (by decide)) n2 (by decide)) (fun k hk => ⟨hk.1.2, hk.2⟩)) hle, HBN⟩
def wantE : List S42 := [⟨[⟨#[97, 46, 111]⟩], [⟨#[97, 46, 99]⟩], [⟨#[97, 46, 104]⟩], [], ⟨#[99, 99, 32, 45, 111, 50, 32, 97, 46, 99, 32, 45, 111, 32, 97, 46, 111, 32, 45, 103]⟩, true, ⟨#[116, 119, 111]⟩⟩, ⟨[⟨#[98, 46, 111]⟩], [⟨#[98, 46, 99]⟩], [], [⟨#[97, 46, 111]⟩], ⟨#[99, 99, 32, 45, 111, 50, 32, 98, 46, 99, 32, 45, 111, 32, 98, 46, 111, 32]⟩, true, ⟨#[116, 119, 111]⟩⟩]
def wantP : List S44 := [⟨⟨#[116, 119, 111]⟩, 2⟩]
def wantD : List ByteArray := [⟨#[98, 46, 111]⟩]
def badR : ByteArray := ⟨#[114, 117, 108, 101, 32, 99, 99, 10]⟩
def badB : ByteArray := ⟨#[98, 117, 105, 108, 100, 32, 97, 32, 58, 32, 99, 99, 32, 98, 10]⟩
theorem parse_text : Ge textB = (wantE, wantP, wantD, 0) := by kernel_rfl
theorem parse_badR : Ge badR = ([], [], [], 800) := by kernel_rfl
theorem parse_badB : Ge badB = ([], [], [], 800) := by kernel_rfl
theorem C_one {α : Type} {d : Kd α} {w : World} {g t : Nat} {cells : Array Value} {x : α} {cs : List Value} (h : w.heap[g]? = some (.cells cells t (0, 0))) (hK : d.K w x cs) (hc : cells.toList = cs) : d.C w (some ⟨g, 0, none⟩) 1 [x] := by
 refine ⟨rfl, by omega, fun _ => ⟨_, rfl, fun j p hj => ?_⟩⟩
 cases j with
 | zero =>
  simp only [List.getElem?_cons_zero, Option.some.injEq] at hj
  subst hj
  refine ⟨cs, d.K_len hK, hK, fun i u hi => ?_⟩
  have h1 := Ab h i
  have h2 : (⟨g, 0, none⟩ : Addr).add (0 * d.sz + i) = ⟨g, i, none⟩ := by simp [Addr.add]; try omega
  rw [h2, h1, ← hi, ← hc, Array.getElem?_toList]
 | succ j => simp at hj
theorem C_two {α : Type} {d : Kd α} {w : World} {g t : Nat} {cells : Array Value} {x y : α} {c1 c2 : List Value} (h : w.heap[g]? = some (.cells cells t (0, 0))) (hK1 : d.K w x c1) (hK2 : d.K w y c2) (hc : cells.toList = c1 ++ c2) : d.C w (some ⟨g, 0, none⟩) 2 [x, y] := by
 refine ⟨rfl, by omega, fun _ => ⟨_, rfl, fun j p hj => ?_⟩⟩
 have l1 := d.K_len hK1
 have l2 := d.K_len hK2
 match j, hj with
 | 0, hj =>
  simp only [List.getElem?_cons_zero, Option.some.injEq] at hj
  subst hj
  refine ⟨c1, l1, hK1, fun i u hi => ?_⟩
  have h1 := Ab h i
  have h2 : (⟨g, 0, none⟩ : Addr).add (0 * d.sz + i) = ⟨g, i, none⟩ := by simp [Addr.add]; try omega
  have h3 : i < c1.length := (List.getElem?_eq_some_iff.1 hi).1
  rw [h2, h1, ← Array.getElem?_toList, hc, List.getElem?_append_left h3]
  exact hi
 | 1, hj =>
  simp only [List.getElem?_cons_succ, List.getElem?_cons_zero, Option.some.injEq] at hj
  subst hj
  refine ⟨c2, l2, hK2, fun i u hi => ?_⟩
  have h1 := Ab h (d.sz + i)
  have h2 : (⟨g, 0, none⟩ : Addr).add (1 * d.sz + i) = ⟨g, d.sz + i, none⟩ := by simp [Addr.add]; try omega
  rw [h2, h1, ← Array.getElem?_toList, hc, List.getElem?_append_right (by omega)]
  rw [show d.sz + i - c1.length = i from by omega]
  exact hi
 | j + 2, hj => simp at hj
theorem awake_calls (w : World) : Calls Tryz.prog 15 #[] w fun e w' => e = .returned (.bool true) ∧ Below w.heap.size w w' := by
 have HT := Lib.hid (fun W => Il.calls textB W rfl)
 have H1 := Lib.hid (fun W => El.calls textB wantE wantP wantD 0 W (by unfold El.f; rw [if_pos (by decide), parse_text]))
 have H2 := Lib.hid (fun W => El.calls badR [] [] [] 800 W (by unfold El.f; rw [if_pos (by decide), parse_badR]))
 have H3 := Lib.hid (fun W => El.calls badB [] [] [] 800 W (by unfold El.f; rw [if_pos (by decide), parse_badB]))
 obtain ⟨T, hT⟩ : ∃ T, textB = T := ⟨_, rfl⟩
 obtain ⟨wE, hE⟩ : ∃ q, wantE = q := ⟨_, rfl⟩
 obtain ⟨wP, hP⟩ : ∃ q, wantP = q := ⟨_, rfl⟩
 obtain ⟨wD, hD⟩ : ∃ q, wantD = q := ⟨_, rfl⟩
 rw [hT] at HT H1
 rw [hE, hP, hD] at H1
 have HE := Lib.hid hE
 have HP := Lib.hid hP
 have HD := Lib.hid hD
 clear hT hE hP hD
 go_enter Tryz.func15, Tryz.ntmps15
 go_upto_region 5 with (first | (go_at_call 16; refine (HT.out _).mono ?_; rintro x w1 ⟨rfl, hd⟩; have HB1 := Aa.mk hd.below; clear hd) | (go_at_call_of 10 (Value.string T); refine (H1.out _).mono ?_; rintro x w2 ⟨v0, v1, v2, rfl, r0, r1, r2, hb⟩; obtain ⟨A0, c0, rfl, l0, C0⟩ := Kd.Dl r0; obtain ⟨A1, c1, rfl, l1, C1⟩ := Kd.Dl r1; obtain ⟨A2, c2, rfl, l2, C2⟩ := Kd.Dl r2; have HB2 := Aa.mk (HB1.out.trans (hb.mono HB1.out.size)); have HC0 := Aa.mk C0; have HC1 := Aa.mk C1; have HC2 := Aa.mk C2; clear r0 r1 r2 C0 C1 C2 hb) | (go_at_call_of 10 (Value.string ⟨#[114, 117, 108, 101, 32, 99, 99, 10]⟩); refine (H2.out _).mono ?_; rintro x w3 ⟨u0, u1, u2, rfl, r0, r1, r2, hb⟩; obtain ⟨D0, d0, rfl⟩ := Kd.Bd r0; obtain ⟨D1, d1, rfl⟩ := Kd.Bd r1; obtain ⟨D2, d2, rfl⟩ := Kd.Bd r2; have hal := (Below.refl w2.heap.size w2).alloc (Nat.le_refl _) (.cells #[.slice A0 wE.length c0, .slice A1 wP.length c1, .slice A2 wD.length c2] 26); have HB3 := Aa.mk (HB2.out.trans ((hal.mono HB2.out.size).trans (hb.mono (Nat.le_trans HB2.out.size hal.size)))); have BT3 := Aa.mk (Aj (Cv w2 (.cells #[.slice A0 wE.length c0, .slice A1 wP.length c1, .slice A2 wD.length c2] 26)) hb); have HC03 := Aa.mk (Kd.Bb (Kd.Bb HC0.out hal) hb); have HC13 := Aa.mk (Kd.Bb (Kd.Bb HC1.out hal) hb); have HC23 := Aa.mk (Kd.Bb (Kd.Bb HC2.out hal) hb); clear r0 r1 r2 hal hb HC0 HC1 HC2) | (go_at_call_of 10 (Value.string ⟨#[98, 117, 105, 108, 100, 32, 97, 32, 58, 32, 99, 99, 32, 98, 10]⟩); refine (H3.out _).mono ?_; rintro x w4 ⟨u0, u1, u2, rfl, r0, r1, r2, hb⟩; obtain ⟨F0, f0, rfl⟩ := Kd.Bd r0; obtain ⟨F1, f1, rfl⟩ := Kd.Bd r1; obtain ⟨F2, f2, rfl⟩ := Kd.Bd r2; have hal := (Below.refl w3.heap.size w3).alloc (Nat.le_refl _) (.cells #[.slice D0 0 d0, .slice D1 0 d1, .slice D2 0 d2] 26); have HB4 := Aa.mk (HB3.out.trans ((hal.mono HB3.out.size).trans (hb.mono (Nat.le_trans HB3.out.size hal.size)))); have BT4 := Aa.mk (Aj (Aj BT3.out hal) hb); have HC04 := Aa.mk (Kd.Bb (Kd.Bb HC03.out hal) hb); have HC14 := Aa.mk (Kd.Bb (Kd.Bb HC13.out hal) hb); have HC24 := Aa.mk (Kd.Bb (Kd.Bb HC23.out hal) hb); clear r0 r1 r2 hal hb HC03 HC13 HC23 BT3))
 obtain ⟨b, hb⟩ : ∃ b, w4.heap.size = b := ⟨_, rfl⟩
 rw [hb]
 have hb4 : w4.heap.size = b := hb
 obtain ⟨u0, hu⟩ : ∃ q, w4.alloc (.cells #[.slice F0 0 f0, .slice F1 0 f1, .slice F2 0 f2] 26) = q := ⟨_, rfl⟩
 rw [hu]
 have s0 : u0.heap.size = b + 1 := by rw [← hu]; simp [hb]
 have hl : Below w4.heap.size w4 u0 := by rw [← hu]; exact (Below.refl _ _).alloc (Nat.le_refl _) _
 replace HB4 := Aa.mk (HB4.out.trans (hl.mono HB4.out.size))
 replace BT4 := Aa.mk (Aj BT4.out hl)
 replace HC04 := Aa.mk (Kd.Bb HC04.out hl)
 replace HC14 := Aa.mk (Kd.Bb HC14.out hl)
 replace HC24 := Aa.mk (Kd.Bb HC24.out hl)
 clear hu hl
 obtain ⟨u1, hu⟩ : ∃ q, u0.alloc (.cells #[.string ⟨#[97, 46, 111]⟩] 9) = q := ⟨_, rfl⟩
 rw [hu]
 have k1 : Aa (u1.heap[b + 1]? = some (.cells #[.string ⟨#[97, 46, 111]⟩] 9)) := ⟨by rw [← hu, ← s0]; exact Cv _ _⟩
 have s1 : u1.heap.size = b + 1 + 1 := by rw [← hu]; simp [s0]
 have hl : Below u0.heap.size u0 u1 := by rw [← hu]; exact (Below.refl _ _).alloc (Nat.le_refl _) _
 replace HB4 := Aa.mk (HB4.out.trans (hl.mono HB4.out.size))
 replace BT4 := Aa.mk (Aj BT4.out hl)
 replace HC04 := Aa.mk (Kd.Bb HC04.out hl)
 replace HC14 := Aa.mk (Kd.Bb HC14.out hl)
 replace HC24 := Aa.mk (Kd.Bb HC24.out hl)
 clear hu hl
 obtain ⟨u2, hu⟩ : ∃ q, u1.alloc (.cells #[.string ⟨#[97, 46, 99]⟩] 9) = q := ⟨_, rfl⟩
 rw [hu]
 have k2 : Aa (u2.heap[b + 1 + 1]? = some (.cells #[.string ⟨#[97, 46, 99]⟩] 9)) := ⟨by rw [← hu, ← s1]; exact Cv _ _⟩
 have s2 : u2.heap.size = b + 1 + 1 + 1 := by rw [← hu]; simp [s1]
 have hl : Below u1.heap.size u1 u2 := by rw [← hu]; exact (Below.refl _ _).alloc (Nat.le_refl _) _
 replace k1 := Aa.mk (Aj k1.out hl)
 replace HB4 := Aa.mk (HB4.out.trans (hl.mono HB4.out.size))
 replace BT4 := Aa.mk (Aj BT4.out hl)
 replace HC04 := Aa.mk (Kd.Bb HC04.out hl)
 replace HC14 := Aa.mk (Kd.Bb HC14.out hl)
 replace HC24 := Aa.mk (Kd.Bb HC24.out hl)
 clear hu hl
 obtain ⟨u3, hu⟩ : ∃ q, u2.alloc (.cells #[.string ⟨#[97, 46, 104]⟩] 9) = q := ⟨_, rfl⟩
 rw [hu]
 have k3 : Aa (u3.heap[b + 1 + 1 + 1]? = some (.cells #[.string ⟨#[97, 46, 104]⟩] 9)) := ⟨by rw [← hu, ← s2]; exact Cv _ _⟩
 have s3 : u3.heap.size = b + 1 + 1 + 1 + 1 := by rw [← hu]; simp [s2]
 have hl : Below u2.heap.size u2 u3 := by rw [← hu]; exact (Below.refl _ _).alloc (Nat.le_refl _) _
 replace k1 := Aa.mk (Aj k1.out hl)
 replace k2 := Aa.mk (Aj k2.out hl)
 replace HB4 := Aa.mk (HB4.out.trans (hl.mono HB4.out.size))
 replace BT4 := Aa.mk (Aj BT4.out hl)
 replace HC04 := Aa.mk (Kd.Bb HC04.out hl)
 replace HC14 := Aa.mk (Kd.Bb HC14.out hl)
 replace HC24 := Aa.mk (Kd.Bb HC24.out hl)
 clear hu hl
 obtain ⟨u4, hu⟩ : ∃ q, u3.alloc (.cells #[.string ⟨#[98, 46, 111]⟩] 9) = q := ⟨_, rfl⟩
 rw [hu]
 have k4 : Aa (u4.heap[b + 1 + 1 + 1 + 1]? = some (.cells #[.string ⟨#[98, 46, 111]⟩] 9)) := ⟨by rw [← hu, ← s3]; exact Cv _ _⟩
 have s4 : u4.heap.size = b + 1 + 1 + 1 + 1 + 1 := by rw [← hu]; simp [s3]
 have hl : Below u3.heap.size u3 u4 := by rw [← hu]; exact (Below.refl _ _).alloc (Nat.le_refl _) _
 replace k1 := Aa.mk (Aj k1.out hl)
 replace k2 := Aa.mk (Aj k2.out hl)
 replace k3 := Aa.mk (Aj k3.out hl)
 replace HB4 := Aa.mk (HB4.out.trans (hl.mono HB4.out.size))
 replace BT4 := Aa.mk (Aj BT4.out hl)
 replace HC04 := Aa.mk (Kd.Bb HC04.out hl)
 replace HC14 := Aa.mk (Kd.Bb HC14.out hl)
 replace HC24 := Aa.mk (Kd.Bb HC24.out hl)
 clear hu hl
 obtain ⟨u5, hu⟩ : ∃ q, u4.alloc (.cells #[.string ⟨#[98, 46, 99]⟩] 9) = q := ⟨_, rfl⟩
 rw [hu]
 have k5 : Aa (u5.heap[b + 1 + 1 + 1 + 1 + 1]? = some (.cells #[.string ⟨#[98, 46, 99]⟩] 9)) := ⟨by rw [← hu, ← s4]; exact Cv _ _⟩
 have s5 : u5.heap.size = b + 1 + 1 + 1 + 1 + 1 + 1 := by rw [← hu]; simp [s4]
 have hl : Below u4.heap.size u4 u5 := by rw [← hu]; exact (Below.refl _ _).alloc (Nat.le_refl _) _
 replace k1 := Aa.mk (Aj k1.out hl)
 replace k2 := Aa.mk (Aj k2.out hl)
 replace k3 := Aa.mk (Aj k3.out hl)
 replace k4 := Aa.mk (Aj k4.out hl)
 replace HB4 := Aa.mk (HB4.out.trans (hl.mono HB4.out.size))
 replace BT4 := Aa.mk (Aj BT4.out hl)
 replace HC04 := Aa.mk (Kd.Bb HC04.out hl)
 replace HC14 := Aa.mk (Kd.Bb HC14.out hl)
 replace HC24 := Aa.mk (Kd.Bb HC24.out hl)
 clear hu hl
 obtain ⟨u6, hu⟩ : ∃ q, u5.alloc (.cells #[.string ⟨#[97, 46, 111]⟩] 9) = q := ⟨_, rfl⟩
 rw [hu]
 have k6 : Aa (u6.heap[b + 1 + 1 + 1 + 1 + 1 + 1]? = some (.cells #[.string ⟨#[97, 46, 111]⟩] 9)) := ⟨by rw [← hu, ← s5]; exact Cv _ _⟩
 have s6 : u6.heap.size = b + 1 + 1 + 1 + 1 + 1 + 1 + 1 := by rw [← hu]; simp [s5]
 have hl : Below u5.heap.size u5 u6 := by rw [← hu]; exact (Below.refl _ _).alloc (Nat.le_refl _) _
 replace k1 := Aa.mk (Aj k1.out hl)
 replace k2 := Aa.mk (Aj k2.out hl)
 replace k3 := Aa.mk (Aj k3.out hl)
 replace k4 := Aa.mk (Aj k4.out hl)
 replace k5 := Aa.mk (Aj k5.out hl)
 replace HB4 := Aa.mk (HB4.out.trans (hl.mono HB4.out.size))
 replace BT4 := Aa.mk (Aj BT4.out hl)
 replace HC04 := Aa.mk (Kd.Bb HC04.out hl)
 replace HC14 := Aa.mk (Kd.Bb HC14.out hl)
 replace HC24 := Aa.mk (Kd.Bb HC24.out hl)
 clear hu hl
 obtain ⟨u7, hu⟩ : ∃ q, u6.alloc (.cells #[.slice (some ⟨b + 1, 0, none⟩) 1 1, .slice (some ⟨b + 1 + 1, 0, none⟩) 1 1, .slice (some ⟨b + 1 + 1 + 1, 0, none⟩) 1 1, .slice none 0 0, .string ⟨#[99, 99, 32, 45, 111, 50, 32, 97, 46, 99, 32, 45, 111, 32, 97, 46, 111, 32, 45, 103]⟩, .bool true, .string ⟨#[116, 119, 111]⟩, .slice (some ⟨b + 1 + 1 + 1 + 1, 0, none⟩) 1 1, .slice (some ⟨b + 1 + 1 + 1 + 1 + 1, 0, none⟩) 1 1, .slice none 0 0, .slice (some ⟨b + 1 + 1 + 1 + 1 + 1 + 1, 0, none⟩) 1 1, .string ⟨#[99, 99, 32, 45, 111, 50, 32, 98, 46, 99, 32, 45, 111, 32, 98, 46, 111, 32]⟩, .bool true, .string ⟨#[116, 119, 111]⟩] 42) = q := ⟨_, rfl⟩
 rw [hu]
 have k7 : Aa (u7.heap[b + 1 + 1 + 1 + 1 + 1 + 1 + 1]? = some (.cells #[.slice (some ⟨b + 1, 0, none⟩) 1 1, .slice (some ⟨b + 1 + 1, 0, none⟩) 1 1, .slice (some ⟨b + 1 + 1 + 1, 0, none⟩) 1 1, .slice none 0 0, .string ⟨#[99, 99, 32, 45, 111, 50, 32, 97, 46, 99, 32, 45, 111, 32, 97, 46, 111, 32, 45, 103]⟩, .bool true, .string ⟨#[116, 119, 111]⟩, .slice (some ⟨b + 1 + 1 + 1 + 1, 0, none⟩) 1 1, .slice (some ⟨b + 1 + 1 + 1 + 1 + 1, 0, none⟩) 1 1, .slice none 0 0, .slice (some ⟨b + 1 + 1 + 1 + 1 + 1 + 1, 0, none⟩) 1 1, .string ⟨#[99, 99, 32, 45, 111, 50, 32, 98, 46, 99, 32, 45, 111, 32, 98, 46, 111, 32]⟩, .bool true, .string ⟨#[116, 119, 111]⟩] 42)) := ⟨by rw [← hu, ← s6]; exact Cv _ _⟩
 have s7 : u7.heap.size = b + 1 + 1 + 1 + 1 + 1 + 1 + 1 + 1 := by rw [← hu]; simp [s6]
 have hl : Below u6.heap.size u6 u7 := by rw [← hu]; exact (Below.refl _ _).alloc (Nat.le_refl _) _
 replace k1 := Aa.mk (Aj k1.out hl)
 replace k2 := Aa.mk (Aj k2.out hl)
 replace k3 := Aa.mk (Aj k3.out hl)
 replace k4 := Aa.mk (Aj k4.out hl)
 replace k5 := Aa.mk (Aj k5.out hl)
 replace k6 := Aa.mk (Aj k6.out hl)
 replace HB4 := Aa.mk (HB4.out.trans (hl.mono HB4.out.size))
 replace BT4 := Aa.mk (Aj BT4.out hl)
 replace HC04 := Aa.mk (Kd.Bb HC04.out hl)
 replace HC14 := Aa.mk (Kd.Bb HC14.out hl)
 replace HC24 := Aa.mk (Kd.Bb HC24.out hl)
 clear hu hl
 obtain ⟨u8, hu⟩ : ∃ q, u7.alloc (.cells #[.string ⟨#[116, 119, 111]⟩, .int .i64 2] 44) = q := ⟨_, rfl⟩
 rw [hu]
 have k8 : Aa (u8.heap[b + 1 + 1 + 1 + 1 + 1 + 1 + 1 + 1]? = some (.cells #[.string ⟨#[116, 119, 111]⟩, .int .i64 2] 44)) := ⟨by rw [← hu, ← s7]; exact Cv _ _⟩
 have s8 : u8.heap.size = b + 1 + 1 + 1 + 1 + 1 + 1 + 1 + 1 + 1 := by rw [← hu]; simp [s7]
 have hl : Below u7.heap.size u7 u8 := by rw [← hu]; exact (Below.refl _ _).alloc (Nat.le_refl _) _
 replace k1 := Aa.mk (Aj k1.out hl)
 replace k2 := Aa.mk (Aj k2.out hl)
 replace k3 := Aa.mk (Aj k3.out hl)
 replace k4 := Aa.mk (Aj k4.out hl)
 replace k5 := Aa.mk (Aj k5.out hl)
 replace k6 := Aa.mk (Aj k6.out hl)
 replace k7 := Aa.mk (Aj k7.out hl)
 replace HB4 := Aa.mk (HB4.out.trans (hl.mono HB4.out.size))
 replace BT4 := Aa.mk (Aj BT4.out hl)
 replace HC04 := Aa.mk (Kd.Bb HC04.out hl)
 replace HC14 := Aa.mk (Kd.Bb HC14.out hl)
 replace HC24 := Aa.mk (Kd.Bb HC24.out hl)
 clear hu hl
 obtain ⟨u9, hu⟩ : ∃ q, u8.alloc (.cells #[.string ⟨#[98, 46, 111]⟩] 9) = q := ⟨_, rfl⟩
 rw [hu]
 have k9 : Aa (u9.heap[b + 1 + 1 + 1 + 1 + 1 + 1 + 1 + 1 + 1]? = some (.cells #[.string ⟨#[98, 46, 111]⟩] 9)) := ⟨by rw [← hu, ← s8]; exact Cv _ _⟩
 have s9 : u9.heap.size = b + 1 + 1 + 1 + 1 + 1 + 1 + 1 + 1 + 1 + 1 := by rw [← hu]; simp [s8]
 have hl : Below u8.heap.size u8 u9 := by rw [← hu]; exact (Below.refl _ _).alloc (Nat.le_refl _) _
 replace k1 := Aa.mk (Aj k1.out hl)
 replace k2 := Aa.mk (Aj k2.out hl)
 replace k3 := Aa.mk (Aj k3.out hl)
 replace k4 := Aa.mk (Aj k4.out hl)
 replace k5 := Aa.mk (Aj k5.out hl)
 replace k6 := Aa.mk (Aj k6.out hl)
 replace k7 := Aa.mk (Aj k7.out hl)
 replace k8 := Aa.mk (Aj k8.out hl)
 replace HB4 := Aa.mk (HB4.out.trans (hl.mono HB4.out.size))
 replace BT4 := Aa.mk (Aj BT4.out hl)
 replace HC04 := Aa.mk (Kd.Bb HC04.out hl)
 replace HC14 := Aa.mk (Kd.Bb HC14.out hl)
 replace HC24 := Aa.mk (Kd.Bb HC24.out hl)
 clear hu hl
 obtain ⟨u10, hu⟩ : ∃ q, u9.alloc (.cells #[.slice (some ⟨b + 1 + 1 + 1 + 1 + 1 + 1 + 1, 0, none⟩) 2 2, .slice (some ⟨b + 1 + 1 + 1 + 1 + 1 + 1 + 1 + 1, 0, none⟩) 1 1, .slice (some ⟨b + 1 + 1 + 1 + 1 + 1 + 1 + 1 + 1 + 1, 0, none⟩) 1 1] 26) = q := ⟨_, rfl⟩
 rw [hu]
 have k10 : Aa (u10.heap[b + 1 + 1 + 1 + 1 + 1 + 1 + 1 + 1 + 1 + 1]? = some (.cells #[.slice (some ⟨b + 1 + 1 + 1 + 1 + 1 + 1 + 1, 0, none⟩) 2 2, .slice (some ⟨b + 1 + 1 + 1 + 1 + 1 + 1 + 1 + 1, 0, none⟩) 1 1, .slice (some ⟨b + 1 + 1 + 1 + 1 + 1 + 1 + 1 + 1 + 1, 0, none⟩) 1 1] 26)) := ⟨by rw [← hu, ← s9]; exact Cv _ _⟩
 have s10 : u10.heap.size = b + 1 + 1 + 1 + 1 + 1 + 1 + 1 + 1 + 1 + 1 + 1 := by rw [← hu]; simp [s9]
 have hl : Below u9.heap.size u9 u10 := by rw [← hu]; exact (Below.refl _ _).alloc (Nat.le_refl _) _
 replace k1 := Aa.mk (Aj k1.out hl)
 replace k2 := Aa.mk (Aj k2.out hl)
 replace k3 := Aa.mk (Aj k3.out hl)
 replace k4 := Aa.mk (Aj k4.out hl)
 replace k5 := Aa.mk (Aj k5.out hl)
 replace k6 := Aa.mk (Aj k6.out hl)
 replace k7 := Aa.mk (Aj k7.out hl)
 replace k8 := Aa.mk (Aj k8.out hl)
 replace k9 := Aa.mk (Aj k9.out hl)
 replace HB4 := Aa.mk (HB4.out.trans (hl.mono HB4.out.size))
 replace BT4 := Aa.mk (Aj BT4.out hl)
 replace HC04 := Aa.mk (Kd.Bb HC04.out hl)
 replace HC14 := Aa.mk (Kd.Bb HC14.out hl)
 replace HC24 := Aa.mk (Kd.Bb HC24.out hl)
 clear hu hl
 have p1 : Kd.string.C u10 (some ⟨b + 1, 0, none⟩) 1 [⟨#[97, 46, 111]⟩] := C_one k1.out rfl rfl
 have p2 : Kd.string.C u10 (some ⟨b + 1 + 1, 0, none⟩) 1 [⟨#[97, 46, 99]⟩] := C_one k2.out rfl rfl
 have p3 : Kd.string.C u10 (some ⟨b + 1 + 1 + 1, 0, none⟩) 1 [⟨#[97, 46, 104]⟩] := C_one k3.out rfl rfl
 have p4 : Kd.string.C u10 (some ⟨b + 1 + 1 + 1 + 1, 0, none⟩) 1 [⟨#[98, 46, 111]⟩] := C_one k4.out rfl rfl
 have p5 : Kd.string.C u10 (some ⟨b + 1 + 1 + 1 + 1 + 1, 0, none⟩) 1 [⟨#[98, 46, 99]⟩] := C_one k5.out rfl rfl
 have p6 : Kd.string.C u10 (some ⟨b + 1 + 1 + 1 + 1 + 1 + 1, 0, none⟩) 1 [⟨#[97, 46, 111]⟩] := C_one k6.out rfl rfl
 have p0 : Kd.string.C u10 none 0 [] := ⟨rfl, by omega, fun h => absurd h (by decide)⟩
 have PE : Kd.C k42 u10 (some ⟨b + 1 + 1 + 1 + 1 + 1 + 1 + 1, 0, none⟩) wantE.length wantE := C_two k7.out (k42_mk u10 wantE[0] (A0 := some ⟨b + 1, 0, none⟩) (c0 := 1) (by decide) p1 (A1 := some ⟨b + 1 + 1, 0, none⟩) (c1 := 1) (by decide) p2 (A2 := some ⟨b + 1 + 1 + 1, 0, none⟩) (c2 := 1) (by decide) p3 (A3 := none) (c3 := 0) (by decide) p0) (k42_mk u10 wantE[1] (A0 := some ⟨b + 1 + 1 + 1 + 1, 0, none⟩) (c0 := 1) (by decide) p4 (A1 := some ⟨b + 1 + 1 + 1 + 1 + 1, 0, none⟩) (c1 := 1) (by decide) p5 (A2 := none) (c2 := 0) (by decide) p0 (A3 := some ⟨b + 1 + 1 + 1 + 1 + 1 + 1, 0, none⟩) (c3 := 1) (by decide) p6) rfl
 have PP : Kd.C k44 u10 (some ⟨b + 1 + 1 + 1 + 1 + 1 + 1 + 1 + 1, 0, none⟩) wantP.length wantP := C_one k8.out (k44_mk u10 wantP[0]) rfl
 have PD : Kd.C Kd.string u10 (some ⟨b + 1 + 1 + 1 + 1 + 1 + 1 + 1 + 1 + 1, 0, none⟩) wantD.length wantD := C_one k9.out rfl rfl
 rw [HE.out] at PE
 rw [HP.out] at PP
 rw [HD.out] at PD
 have q1 : wE.length = 2 := by rw [← HE.out]; rfl
 have q2 : wP.length = 1 := by rw [← HP.out]; rfl
 have q3 : wD.length = 1 := by rw [← HD.out]; rfl
 have key : ∀ n1 n2 n3 : Nat, n1 = wE.length → n2 = wP.length → n3 = wD.length → Calls Tryz.prog 12 #[.agg #[.slice A0 wE.length c0, .slice A1 wP.length c1, .slice A2 wD.length c2], .agg #[.slice (some ⟨b + 1 + 1 + 1 + 1 + 1 + 1 + 1, 0, none⟩) n1 2, .slice (some ⟨b + 1 + 1 + 1 + 1 + 1 + 1 + 1 + 1, 0, none⟩) n2 1, .slice (some ⟨b + 1 + 1 + 1 + 1 + 1 + 1 + 1 + 1 + 1, 0, none⟩) n3 1]] u10 fun e w' => e = .returned (.bool true) ∧ Below u10.heap.size u10 w' := fun n1 n2 n3 h1 h2 h3 => by
  subst h1 h2 h3
  exact same12 wE wP wD (by rw [← HE.out]; decide) (by omega) (by omega) A0 A1 A2 _ _ _ c0 c1 c2 2 1 1 u10 HC04.out ⟨HC14.out, l1⟩ ⟨HC24.out, l2⟩ PE ⟨PP, by omega⟩ ⟨PD, by omega⟩
 have HSG := Lib.hid (key 2 1 1 q1.symm q2.symm q3.symm)
 clear key
 have z0 := Ab BT4.out 0
 have z1 := Ab BT4.out 1
 have z2 := Ab BT4.out 2
 have y0 := Ab k10.out 0
 have y1 := Ab k10.out 1
 have y2 := Ab k10.out 2
 clear p0 p1 p2 p3 p4 p5 p6 PE PP PD k1 k2 k3 k4 k5 k6 k7 k8 k9 k10 BT4 HC04 HC14 HC24 q1 q2 q3
 go_wp2_with (first | (go_at_call 12; refine HSG.out.mono ?_; rintro x w5 ⟨rfl, hb5⟩; have HB5 := Aa.mk (HB4.out.trans (hb5.mono HB4.out.size)); clear hb5) | (go_at_call 13; refine (Hm.calls _ _ _ rfl).mono ?_; rintro x w6 ⟨rfl, hd⟩; replace HB5 := Aa.mk (HB5.out.trans (hd.below.mono HB5.out.size)); clear hd))
 go_ret
 exact ⟨rfl, HB5.out⟩
end Go.Proofs.YtefheailchihaaaGreatDoor.Print
end
section
namespace Go.Proofs.YtefheailchihaaaGreatDoor.Print
open Go.RowKit Go.Lib Go.Shelf Go.Proofs.YtefheailchihaaaGreatDoorW.PrintWords Go.Proofs.YtefheailchihaaaGreatDoorW.PrintLast Go.Proofs.YtefheailchihaaaGreatDoorW.PrintMore
def E3 (e : Int) : Prop := e = 0 ∨ e = 800 ∨ e = 801
theorem G9 {e : Int} (h : E3 e) (b : Bool) : E3 (B9 e b) := by
 unfold B9
 split
 ·exact .inr (.inl rfl)
 ·exact h
theorem e3_room {e : Int} (h : E3 e) (b : Bool) : E3 (Gr e b) := by
 unfold Gr
 split
 ·exact .inr (.inr rfl)
 ·exact h
theorem e3_took {e : Int} (h : E3 e) (c : Int) : E3 (Db e c) := G9 (e3_room h _) _
theorem e3_clean : ∀ (xs : List ByteArray) (e : Int), E3 e → E3 (Dm e xs)
 | [], e, h => h
 | x :: xs, e, h => e3_clean xs _ (e3_took h _)
theorem Gv : E3 0 := .inl rfl
theorem e3_over (p : Pst) (o : Opn) : E3 (Hn p o 0) := by
 cases o with
 | none => exact Gv
 | rule => exact G9 Gv _
 | pool => exact G9 Gv _
 | build outs ins imp ord r own => exact G9 (e3_took (e3_took (e3_took Gv _) _) _) _
theorem e3_deep (p : Pst) (o : Opn) (k v : ByteArray) : E3 (deepR p o k v).2.2 := by
 cases o with
 | none => exact Gv
 | rule => exact G9 Gv _
 | pool => exact G9 Gv _
 | build outs ins imp ord r own => exact e3_took (e3_took Gv _) _
theorem e3_one (s : ByteArray) : E3 (oneW 0 s).2 := G9 Gv _
theorem e3_build (p : Pst) (s : ByteArray) : E3 (Hv p 0 s) := by
 have h1 : E3 (Ip p 0 (Cr s)) := G9 (e3_took Gv _) _
 unfold Hv Io
 split
 ·exact e3_room (e3_clean _ _ (e3_clean _ _ (e3_clean _ _ (e3_clean _ _ h1)))) _
 ·exact h1
theorem e3_flat (p : Pst) (t : ByteArray) : E3 (F8 p t).2.2 := by
 unfold F8
 simp only
 split
 ·exact e3_room (G9 (e3_one _) _) _
 split
 ·exact e3_room (G9 (e3_one _) _) _
 split
 ·exact e3_build p _
 split
 ·exact e3_room (e3_clean _ _ (G9 Gv _)) _
 ·unfold Ft
  split
  ·exact e3_took (e3_took Gv _) _
  ·exact G9 Gv _
theorem e3_line (p : Pst) (o : Opn) (d : Bool) (t : ByteArray) : E3 (Ez p o d t).2.2 := by
 unfold Ez
 split
 ·unfold B7
  split
  ·exact e3_deep _ _ _ _
  ·exact G9 (G9 Gv _) _
 ·split
  ·exact e3_flat _ _
  ·exact e3_over _ _
theorem e3_go : ∀ (l : List S59) (p : Pst) (o : Opn), E3 (Fw l p o).2.2
 | [], p, o => Gv
 | x :: l, p, o => by
  have e1 : Fw (x :: l) p o = if (Ez p o x.f0 x.f1).2.2 = 0 then Fw l (Ez p o x.f0 x.f1).1 (Ez p o x.f0 x.f1).2.1 else Ez p o x.f0 x.f1 := rfl
  rw [e1]
  split
  ·exact e3_go l _ _
  ·exact e3_line _ _ _ _
theorem parse_errs (s : ByteArray) : (Ge s).2.2.2 = 0 ∨ (Ge s = ([], [], [], 800) ∨ Ge s = ([], [], [], 801)) := by
 have key : ∀ e : Int, E3 e → ¬ e = 0 → (([], [], [], e) : List S42 × List S44 × List ByteArray × Int) = ([], [], [], 800) ∨ (([], [], [], e) : List S42 × List S44 × List ByteArray × Int) = ([], [], [], 801) := by
  rintro e (h | h | h) h0
  ·exact absurd h h0
  ·rw [h]; exact .inl rfl
  ·rw [h]; exact .inr rfl
 unfold Ge
 split
 ·unfold Ig
  split
  ·split
   ·exact .inl rfl
   ·rename_i h
    exact .inr (key _ (e3_over _ _) h)
  ·rename_i h
   exact .inr (key _ (e3_go _ _ _) h)
 ·exact .inr (.inl rfl)
end Go.Proofs.YtefheailchihaaaGreatDoor.Print
namespace Go.Proofs.YtefheailchihaaaGreatDoor.Print
open Go.RowKit
end Go.Proofs.YtefheailchihaaaGreatDoor.Print
end
section
namespace Go.Proofs.YtefheailchihaaaGreatDoor.Print
open Go.RowKit Go.Lib Go.Shelf Go.Proofs.YtefheailchihaaaGreatDoorW.PrintWords Go.Proofs.YtefheailchihaaaGreatDoorW.PrintLast Go.Proofs.YtefheailchihaaaGreatDoorW.PrintMore
attribute [local go_sem ↓] Go.wp_at_zero Go.wp_at_succ
theorem gsz_nil : GSz [] [] [] := ⟨by decide, by decide, by decide, fun x h => by simp at h, fun x h => by simp at h, fun x h => by simp at h, fun x h => by simp at h, fun x h => by simp at h, fun x h => by simp at h⟩
theorem H8 {l : List ByteArray} (h : Paths l) : l.length ≤ 16 ∧ ∀ x ∈ l, x.size ≤ 16 := ⟨by have := h.2; omega, fun x hx => pathOk_size (h.1 x hx)⟩
theorem gsz_parse (s : ByteArray) : GSz (Ge s).1 (Ge s).2.1 (Ge s).2.2.1 := by
 rcases parse_errs s with h | h | h
 ·obtain ⟨p, hg, he⟩ := gm_parse h
  rw [he]
  refine ⟨hg.elen, by have := hg.plen; show p.pools.length ≤ 16; omega, (H8 hg.defs).1, (H8 hg.defs).2, fun e hm => H8 (hg.edges e hm).p0, fun e hm => H8 (hg.edges e hm).p1, fun e hm => H8 (hg.edges e hm).p2, fun e hm => H8 (hg.edges e hm).p3, fun e hm => ?_⟩
  have q := (hg.edges e hm).plain
  unfold Do at q
  simp only [Bool.and_eq_true, decide_eq_true_eq] at q
  have := q.2
  omega
 ·rw [h]; exact gsz_nil
 ·rw [h]; exact gsz_nil
theorem Manifests_walk (w : World) (s : ByteArray) (hs : s.size ≤ 140737488351232) : Calls Tryz.prog 3 #[.string s] w fun e w' => e = .returned (.bool true) ∧ Below w.heap.size w w' := by
 have hz := gsz_parse s
 have H10 := parse_calls s (by omega) w
 have H11 := fun W => parse11_calls s (by omega) W
 obtain ⟨⟨E, P, D, c⟩, hP⟩ : ∃ q, Ge s = q := ⟨_, rfl⟩
 simp only [hP] at hz H10 H11
 have HZ := Aa.mk hz
 replace H10 := Lib.hid H10
 replace H11 := Lib.hid H11
 have H13 := Lib.hid (fun W => (Hm.calls c c W rfl).mono (fun e w' h => (⟨h.1, h.2.below⟩ : e = .returned (.int .i64 c) ∧ Below W.heap.size W w')))
 have hcc : (c != c) = false := bne_self_eq_false c
 clear hz hP
 go_enter Tryz.func3, Tryz.ntmps3
 go_upto_region 3 with (first | (go_at_call 10; refine H10.out.mono ?_; rintro x w1 ⟨v0, v1, v2, rfl, r0, r1, r2, hb1⟩; obtain ⟨A0, c0, rfl⟩ := Kd.Bd r0; obtain ⟨A1, c1, rfl⟩ := Kd.Bd r1; obtain ⟨A2, c2, rfl⟩ := Kd.Bd r2; have HB1 := Aa.mk hb1; have R0 := Aa.mk r0; have R1 := Aa.mk r1; have R2 := Aa.mk r2; clear r0 r1 r2 hb1) | (go_at_call 11; refine (H11.out _).mono ?_; rintro x w2 ⟨u0, u1, u2, rfl, r0, r1, r2, hb2⟩; obtain ⟨B0, d0, rfl⟩ := Kd.Bd r0; obtain ⟨B1, d1, rfl⟩ := Kd.Bd r1; obtain ⟨B2, d2, rfl⟩ := Kd.Bd r2; have HB2 := Aa.mk hb2; have Q0 := Aa.mk r0; have Q1 := Aa.mk r1; have Q2 := Aa.mk r2; clear r0 r1 r2 hb2))
 have hba := (Below.refl w1.heap.size w1).alloc (Nat.le_refl _) (.cells #[.slice A0 E.length c0, .slice A1 P.length c1, .slice A2 D.length c2] 26)
 have hbb := (Below.refl w2.heap.size w2).alloc (Nat.le_refl _) (.cells #[.slice B0 E.length d0, .slice B1 P.length d1, .slice B2 D.length d2] 26)
 have hb3 : Below w1.heap.size w1 (w2.alloc (.cells #[.slice B0 E.length d0, .slice B1 P.length d1, .slice B2 D.length d2] 26)) := (hba.trans (HB2.out.mono hba.size)).trans (hbb.mono (hba.trans (HB2.out.mono hba.size)).size)
 have hb4 := HB2.out.trans (hbb.mono HB2.out.size)
 have HX := Aa.mk (Aj (Cv w1 (.cells #[.slice A0 E.length c0, .slice A1 P.length c1, .slice A2 D.length c2] 26)) hb4)
 have HY := Aa.mk (Cv w2 (.cells #[.slice B0 E.length d0, .slice B1 P.length d1, .slice B2 D.length d2] 26))
 have HB3 := Aa.mk (HB1.out.trans (hb3.mono HB1.out.size))
 have HR0 := Aa.mk (Kd.Bj R0.out hb3)
 have HR1 := Aa.mk (Kd.Bj R1.out hb3)
 have HR2 := Aa.mk (Kd.Bj R2.out hb3)
 have HQ0 := Aa.mk (Kd.Bj Q0.out hbb)
 have HQ1 := Aa.mk (Kd.Bj Q1.out hbb)
 have HQ2 := Aa.mk (Kd.Bj Q2.out hbb)
 clear hba hbb hb3 hb4 R0 R1 R2 Q0 Q1 Q2 HB1 HB2
 obtain ⟨X, hX⟩ : ∃ X, w1.heap.size = X := ⟨_, rfl⟩
 obtain ⟨Y, hY⟩ : ∃ Y, w2.heap.size = Y := ⟨_, rfl⟩
 rw [hX] at HX ⊢
 rw [hY] at HY ⊢
 clear hX hY
 generalize w2.alloc (.cells #[.slice B0 E.length d0, .slice B1 P.length d1, .slice B2 D.length d2] 26) = w3 at HX HY HB3 HR0 HR1 HR2 HQ0 HQ1 HQ2 ⊢
 have x0 : w3.cell? ⟨X, 0, none⟩ = some (.slice A0 E.length c0) := Ab HX.out 0
 have x1 : w3.cell? ⟨X, 1, none⟩ = some (.slice A1 P.length c1) := Ab HX.out 1
 have x2 : w3.cell? ⟨X, 2, none⟩ = some (.slice A2 D.length c2) := Ab HX.out 2
 have y0 : w3.cell? ⟨Y, 0, none⟩ = some (.slice B0 E.length d0) := Ab HY.out 0
 have y1 : w3.cell? ⟨Y, 1, none⟩ = some (.slice B1 P.length d1) := Ab HY.out 1
 have y2 : w3.cell? ⟨Y, 2, none⟩ = some (.slice B2 D.length d2) := Ab HY.out 2
 have H12 := Lib.hid (same12 E P D (fun e he => ⟨by have := (HZ.out.e0 e he).1; omega, by have := (HZ.out.e1 e he).1; omega, by have := (HZ.out.e2 e he).1; omega, by have := (HZ.out.e3 e he).1; omega⟩) (by have := HZ.out.plen; omega) (by have := HZ.out.dlen; omega) A0 A1 A2 B0 B1 B2 c0 c1 c2 d0 d1 d2 w3 (Kd.R_reads' HR0.out).2.2 ⟨(Kd.R_reads' HR1.out).2.2, (Kd.R_reads' HR1.out).2.1⟩ ⟨(Kd.R_reads' HR2.out).2.2, (Kd.R_reads' HR2.out).2.1⟩ (Kd.R_reads' HQ0.out).2.2 ⟨(Kd.R_reads' HQ1.out).2.2, (Kd.R_reads' HQ1.out).2.1⟩ ⟨(Kd.R_reads' HQ2.out).2.2, (Kd.R_reads' HQ2.out).2.1⟩)
 have H14 := Lib.hid (fun (W : World) (hb : Below w3.heap.size w3 W) => spoil14 w _ _ _ _ _ _ E P D W (HB3.out.trans (hb.mono HB3.out.size)) (Kd.Bj HR0.out hb) (Kd.Bj HR1.out hb) (Kd.Bj HR2.out hb) HZ.out)
 go_wp2_with (first | (go_at_call 12; refine H12.out.mono ?_; rintro x w4 ⟨rfl, hb⟩; have HB4 := Aa.mk hb; clear hb) | (go_at_call 13; refine (H13.out _).mono ?_; rintro x w5 ⟨rfl, hb⟩; have HB5 := Aa.mk (HB4.out.trans (hb.mono HB4.out.size)); have z0 := Be HB5.out x0; have z1 := Be HB5.out x1; have z2 := Be HB5.out x2; clear hb) | (go_at_call 14; refine (H14.out _ HB5.out).mono ?_; rintro x w6 ⟨rfl, hb⟩; have HB6 := Aa.mk hb; clear hb) | (go_at_call 15; refine (awake_calls _).mono ?_; rintro x w7 ⟨rfl, hb⟩; have HB7 := Aa.mk (HB6.out.trans (hb.mono HB6.out.size)); clear hb))
 go_ret
 exact ⟨rfl, HB7.out⟩
end Go.Proofs.YtefheailchihaaaGreatDoor.Print
end
