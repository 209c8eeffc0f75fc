/- The law Scopes, walked. -/
import Derived.Test.YtchkgljhklfhnaaHScopes
import Derived.Test.YtchkgljhklfhnaaOpens
namespace Go.Proofs.Ytchkgljhklfhnaa.Print
open Go.RowKit Go.Lib Go.Shelf Go.Proofs.YtchkgljhklfhnaaW.PrintWords Go.Proofs.YtchkgljhklfhnaaW.PrintLast Go.Proofs.YtchkgljhklfhnaaW.PrintMore
set_option linter.unusedVariables false

theorem awake4 (k : Nat) (hk : 8 ≤ k) : cruciblelaw4_awake.f k = some true := by
  have h : cruciblelaw4_awake.f 8 = some true := by decide +kernel
  exact at_rounds (g := fun k => cruciblelaw4_awake.f k) (fun k => cruciblelaw4_awake.mono k) hk h
theorem texts30 {l : List S42} (h : Small30 l) : textsOk 140737488351232 l := fun k hk => by
  have := h.2 l[k] (List.getElem_mem hk)
  rw [rd_get l k hk]
  exact this
theorem set_texts (D : Nat) (l : List S42) (s t : ByteArray) (h : textsOk D l) (hs : s.size ≤ D) (ht : t.size ≤ D) : textsOk D (scopeSet l s t).1 ∧ (scopeSet l s t).1.length ≤ 16 := by
  have hnil : textsOk D [] := fun k hk => by simp at hk
  unfold scopeSet
  split
  · rename_i hok
    rw [Bool.and_eq_true, Bool.and_eq_true] at hok
    by_cases h0 : (setIn l s t).2 = 0
    · obtain ⟨h1, h2, h3, h4, h5⟩ := set_ok l s t hok.1 hok.2.1 hok.2.2 h0
      exact ⟨h5 D h hs ht, may_len h1⟩
    · have : (setIn l s t).1 = [] := by
        unfold setIn at h0 ⊢
        split at h0
        · exact absurd rfl h0
        · rename_i h1
          rw [if_neg h1]
          split at h0
          · rename_i h2; rw [if_pos h2]
          · exact absurd rfl h0
      rw [this]
      exact ⟨hnil, by simp⟩
  · exact ⟨hnil, by simp⟩
theorem spoilB_go : ∀ (k i : Nat) (l : List S42), i ≤ l.length → l.length ≤ 2048 → l.length - i < k → (∀ j, i ≤ j → j < l.length → (rd_T42 l (j : Int)).f1.size ≤ 140737488355328) → ∃ r, cruciblelaw0_SpoilBinds.l0 k l i = some r := by
  intro k
  induction k with
  | zero => intro i l _ _ h; omega
  | succ k ih =>
    intro i l hi hl hk hz
    by_cases h : i < l.length
    · have hzi := hz i (by omega) h
      obtain ⟨r, hr⟩ := ih (i + 1) (l.set i ⟨(rd_T42 l i).f0, (rd_T42 l i).f1 ++ ⟨#[63]⟩⟩) (by rw [List.length_set]; omega) (by rw [List.length_set]; omega) (by rw [List.length_set]; omega) (fun j hj hjl => by
        rw [List.length_set] at hjl
        have : rd_T42 (l.set i ⟨(rd_T42 l i).f0, (rd_T42 l i).f1 ++ ⟨#[63]⟩⟩) j = rd_T42 l j := by
          simp only [rd_T42, List.getD_eq_getElem?_getD, Int.toNat_natCast]
          rw [List.getElem?_set_ne (by omega)]
        rw [this]
        exact hz j (by omega) hjl)
      refine ⟨r, ?_⟩
      simp only [cruciblelaw0_SpoilBinds.l0]
      rw [if_pos (by omega), if_pos (by omega), if_pos (by omega), wrap_succ (n := l.length) (by omega) (by omega) (by omega)]
      exact hr
    · refine ⟨l, ?_⟩
      simp only [cruciblelaw0_SpoilBinds.l0]
      rw [if_neg (by omega)]

set_option maxHeartbeats 4000000 in
set_option maxRecDepth 100000 in
theorem Scopes_walk (w : World) (A : Option Addr) (c : Nat) (l : List S42) (hr : Kd.C k42 w A l.length l) (hc : l.length ≤ c) (hs : Small30 l) (a1 : ByteArray) (h1 : a1.size ≤ 140737488351232) (a2 : ByteArray) (h2 : a2.size ≤ 140737488351232) :
    Calls Try.prog 7 #[.slice A l.length c, .string a1, .string a2] w fun e w' => e = .returned (.bool true) ∧ Below w.heap.size w w' := by
  have hD := texts30 hs
  have hL := long_of hD (by omega)
  have hn : l.length ≤ 140737488355328 := by have := hs.1; omega
  have hlong : l.length + 2 < 4398046511104 := by have := hs.1; omega
  obtain ⟨K, hK⟩ : ∃ K : Nat, enough 140737488351232 l + l.length + 3000 ≤ K := ⟨_, Nat.le_refl _⟩
  have hset : scope_Set.f l a1 a2 = some (scopeSet l a1 a2) := by unfold scope_Set.f; rw [if_pos ⟨hL, by omega⟩]
  have hget : scope_Get.f l a1 = some (scopeGet l a1) := by unfold scope_Get.f; rw [if_pos hL]
  have hmay : scope_May.f l = some (scopeMay l) := by unfold scope_May.f; rw [if_pos hL]
  have rset := refSet 140737488351232 (by omega) l hn hD a1 a2 h1 h2 K (by omega)
  have rget := refGet 140737488351232 (by omega) l hn hD a1 K (by omega)
  have rmay := refScopeMay 140737488351232 (by omega) l hn hD K (by omega)
  have hself := sameBinds_eq l l hn K (by omega)
  rw [sameBinds_self] at hself
  obtain ⟨ht1, ht2⟩ := set_texts 140737488351232 l a1 a2 hD h1 h2
  obtain ⟨⟨R, e⟩, hRe⟩ : ∃ p, scopeSet l a1 a2 = p := ⟨_, rfl⟩
  rw [hRe] at hset rset ht1 ht2
  clear hRe
  replace ht2 : R.length ≤ 16 := ht2
  replace ht1 : textsOk 140737488351232 R := ht1
  obtain ⟨sp, hsp⟩ := spoilB_go K 0 R (by omega) (by omega) (by omega) (fun j _ hj => by have := (ht1 j hj).2; omega)
  have hRR := sameBinds_eq R R (by omega) K (by omega)
  rw [sameBinds_self] at hRR
  obtain ⟨G, hG⟩ : ∃ G, scopeGet l a1 = G := ⟨_, rfl⟩
  obtain ⟨M, hM⟩ : ∃ M, scopeMay l = M := ⟨_, rfl⟩
  rw [hG] at hget rget
  rw [hM] at hmay rmay
  have HR := Aside0.mk hr
  have HS := Lib.hid hset
  have HG := Lib.hid hget
  have HM := Lib.hid hmay
  have RS := Lib.hid rset
  have RG := Lib.hid rget
  have RM := Lib.hid rmay
  have HSELF := Lib.hid hself
  have HRR := Lib.hid hRR
  have HSP := Lib.hid hsp
  have HK := Lib.hid hK
  clear hr hset hget hmay rset rget rmay hself hRR hsp hG hM ht1 ht2 hL hD hs h1 h2 hK
  go_enter Try.func7, Try.ntmps7
  go_wp2_with fail
  refine (lend_calls A c l w HR.out hc hlong).mono ?_
  rintro x w1 ⟨A1, c1, rfl, hfull, hb1⟩
  have hc1 : l.length + 2 ≤ c1 := by have := (Kd.R_reads' hfull).2.1; simpa using this
  have hCf : Kd.C k42 w1 A1 (l.length + 2) (l ++ [markB, markB]) := by have := (Kd.R_reads' hfull).2.2; simpa using this
  have hC1 : Kd.C k42 w1 A1 l.length l := by
    have h_ := Kd.C_take (m := l.length) (show Kd.C k42 w1 A1 (l ++ [markB, markB]).length (l ++ [markB, markB]) by simpa using hCf) (by simp)
    rw [List.take_left] at h_
    exact h_
  have HCF := Aside0.mk hCf
  have HC1 := Aside0.mk hC1
  have HB1 := Aside0.mk hb1
  clear hfull hCf hC1 hb1
  go_wp2_with fail
  refine (scope_Set.calls A1 c1 l a1 a2 R e w1 HC1.out (by omega) HS.out).mono ?_
  rintro x w2 ⟨v2, rfl, hR2, hb2⟩
  have HR2 := Aside0.mk hR2
  have HB2 := Aside0.mk hb2
  clear hR2 hb2
  go_wp2_with fail
  have HW2 := Aside0.mk (below_step HB1.out HB2.out)
  refine (crucibleref1_Set.calls K A c l a1 a2 R e w2 (Kd.C_below HR.out HW2.out) hc RS.out).mono ?_
  rintro x w3 ⟨v3, rfl, hR3, hb3⟩
  have HR3 := Aside0.mk hR3
  have HR23 := Aside0.mk (Kd.R_below HR2.out hb3)
  have HW3 := Aside0.mk (below_step HW2.out hb3)
  have HV3 := Aside0.mk (below_step HB2.out hb3)
  obtain ⟨Av, cv, ev⟩ := Kd.R_slice HR2.out
  subst ev
  obtain ⟨Au, cu, eu⟩ := Kd.R_slice HR3.out
  subst eu
  clear hR3 hb3 HR2 HB2 HW2
  go_wp2_with fail
  refine (cruciblelaw0_SameBinds.calls K _ _ R _ _ R true w3 (Kd.R_reads' HR23.out).2.2 (Kd.R_reads' HR23.out).2.1 (Kd.R_reads' HR3.out).2.2 (Kd.R_reads' HR3.out).2.1 HRR.out).mono ?_
  rintro x w4 ⟨rfl, d4⟩
  have HD4 := Aside0.mk d4.below
  clear d4
  go_wp2_with fail
  refine (cruciblelaw0_Num.calls e e w4 rfl).mono ?_
  rintro x w5 ⟨rfl, d5⟩
  have HD5 := Aside0.mk (below_step HD4.out d5.below)
  clear d5 HD4
  go_wp2_with fail
  refine (scope_Get.calls A1 c1 l a1 G w5 (Kd.C_below HC1.out (below_step HV3.out HD5.out)) (by omega) HG.out).mono ?_
  rintro x w6 ⟨rfl, b6⟩
  have HD6 := Aside0.mk (below_step HD5.out b6)
  clear b6 HD5
  go_wp2_with fail
  refine (crucibleref1_GetVar.calls K A c l a1 G w6 (Kd.C_below HR.out (below_step HW3.out HD6.out)) hc RG.out).mono ?_
  rintro x w7 ⟨rfl, d7⟩
  have HD7 := Aside0.mk (below_step HD6.out d7.below)
  clear d7 HD6
  go_wp2_with fail
  refine (scope_May.calls A1 c1 l M w7 (Kd.C_below HC1.out (below_step HV3.out HD7.out)) (by omega) HM.out).mono ?_
  rintro x w8 ⟨rfl, b8⟩
  have HD8 := Aside0.mk (below_step HD7.out b8)
  clear b8 HD7
  go_wp2_with fail
  refine (crucibleref1_ScopeMay.calls K A c l M w8 (Kd.C_below HR.out (below_step HW3.out HD8.out)) hc RM.out).mono ?_
  rintro x w9 ⟨rfl, d9⟩
  have HD9 := Aside0.mk (below_step HD8.out d9.below)
  clear d9 HD8
  have HV9 := Aside0.mk (below_step HV3.out HD9.out)
  have HR9 := Aside0.mk (Kd.R_below HR23.out HD9.out)
  have HW9 := Aside0.mk (below_step HW3.out HD9.out)
  go_wp2_with fail
  refine (cruciblelaw0_SpoilBinds.calls K (fun _ => True) _ R sp w1 w9 HV9.out HR9.out HSP.out).mono ?_
  rintro x w10 ⟨rfl, -, hb10, -⟩
  have HV10 := Aside0.mk hb10
  have HW10 := Aside0.mk (below_step HB1.out hb10)
  clear hb10
  go_wp2_with fail
  refine (kept_calls A1 c1 l A c w10 (Kd.C_below HCF.out HV10.out) hc1 (Kd.C_below HR.out HW10.out) hc (by omega) K HSELF.out).mono ?_
  rintro x w11 ⟨rfl, d11⟩
  have HW11 := Aside0.mk (below_step HW10.out d11.below)
  clear d11
  go_wp2_with fail
  refine (cruciblelaw4_awake.calls K true w11 (awake4 K (by have := HK.out; omega))).mono ?_
  rintro x w12 ⟨rfl, b12⟩
  have HW12 := Aside0.mk (below_step HW11.out b12)
  clear b12
  go_wp2_with fail
  go_ret
  exact ⟨rfl, HW12.out⟩
end Go.Proofs.Ytchkgljhklfhnaa.Print
