import Derived.WalkSpells
import Derived.Test.YtefheailchihaaaGreatDoorSg7
set_option maxHeartbeats 8000000
set_option maxRecDepth 100000
set_option linter.unusedVariables false
set_option linter.unusedSimpArgs false
section
namespace Go.Proofs.YtefheailchihaaaGreatDoor.Print
open Go.RowKit Go.Lib Go.Shelf Go.Proofs.YtefheailchihaaaGreatDoorW.PrintWords Go.Proofs.YtefheailchihaaaGreatDoorW.PrintLast Go.Proofs.YtefheailchihaaaGreatDoorW.PrintMore
theorem cloneBinds_calls (A0 : Option Addr) (c0 : Nat) (l : List S174) (w : World) (hr : Kd.C k174 w A0 l.length l) (hl : l.length < 4398046511104) :
 Calls Tryz.prog 152 #[.slice A0 l.length c0] w fun e w' => ∃ v : Value, e = .returned v ∧ Kd.R k174 174 w' w.heap.size (fun _ => True) v l ∧ Below w.heap.size w w' := by
 have HR := Aa.mk hr
 have HB := Aa.mk (Below.refl w.heap.size w)
 have h0 : A0 = none → l = [] := by
  intro h
  rcases Nat.eq_zero_or_pos l.length with h1 | h1
  ·exact List.length_eq_zero_iff.1 h1
  ·obtain ⟨ad, e⟩ := C_addr hr h1
   rw [h] at e
   exact absurd e (by simp)
 clear hr
 have qs := fun (w : World) (a : Option Addr) (n c : Nat) => Lib.run_eql_slice_nil (P := Tryz.prog) w 53 174 a n c 0 0 Tryz.underlying53
 cases A0 with
 | none =>
  obtain rfl := h0 rfl
  go_enter Tryz.func152, Tryz.ntmps152
  go_wp2
  go_ret
  exact ⟨_, rfl, Kd.Di _ _ _ _ _, Below.refl _ _⟩
 | some ad =>
  clear h0
  go_enter Tryz.func152, Tryz.ntmps152
  go_wp2_with (first | ((with_reducible refine gate_dst (N := 5) rfl ?_); refine Kd.R_lit k174 _ 174 ?hg (N := 5) ?hd (xs := ([] : List (S174))) (inner := []) (ok := fun _ => True) (okp := fun _ => True) ?hr ?hp (fun _ hk => hk) trivial (Below.refl _ _) (Nat.le_refl _) (by simp) ?_; (case hd => rfl); (case hg => rfl); (case hr => first | (go_simp; done) | (go_simp; rfl)); (case hp => exact (Reps.none _ _)); intro v1 w1 ho1 hb1 hg_ hnew_; clear hg_ hnew_) | ((with_reducible refine Cz (b := .append) (xs := #[.tmp 5, .tmp 6]) rfl ?_); at_builtin; refine Kd.R_append_rows k174 (w0 := w) w.heap.size rfl (.tmp 5) (.tmp 6) 53 174 (.agg #[(.string ⟨#[]⟩), (.string ⟨#[]⟩)]) 32 rfl Tryz.underlying53 info174 rfl (by decide) (by omega) v1 [] l _ _ _ (fun _ => True) (fun _ => False) rfl rfl ho1 (Kd.Bb HR.out hb1) (fun _ _ h => h) (fun _ h => h.elim) (fun _ _ => trivial) hb1 hb1.size ?aL ?_; (case aL => simp only [List.length_nil]; omega); intro v2 w2 ho2 hb2 hg hat; clear hg hat))
  go_ret
  exact ⟨v2, rfl, by simpa using ho2, hb2⟩
def setIn (l : List S174) (s t : ByteArray) : List S174 × Int :=
 if 0 ≤ Ea l s then (l.set (Ea l s).toNat ⟨(Bg l (Ea l s)).f0, t⟩, 0)
 else if (l.length : Int) = 16 then ([], 401) else (l ++ [⟨s, t⟩], 0)
def Cn (l : List S174) (s t : ByteArray) : List S174 × Int :=
 if (C5 l && (Ce s && Do t 256)) = true then setIn l s t else ([], 400)
def scope_Set.f (l0 : List S174) (a1 a2 : ByteArray) : Option (List S174 × Int) :=
 if Ei l0 = true ∧ a2.size ≤ 9223372036854775807 then some (Cn l0 a1 a2) else none
theorem setIn_calls (A0 : Option Addr) (c0 : Nat) (l : List S174) (s t : ByteArray) (w : World) (hr : Kd.C k174 w A0 l.length l) (hL : Ei l = true) (ht : t.size ≤ 9223372036854775807)
 (hM : C5 l = true) (hN : Ce s = true) (hT : Do t 256 = true) :
 Calls Tryz.prog 128 #[.slice A0 l.length c0, .string s, .string t] w fun e w' => ∃ v0_ : Value, e = .returned (.tuple #[v0_, .int .i64 (setIn l s t).2]) ∧ Kd.R k174 174 w' w.heap.size (fun _ => True) v0_ (setIn l s t).1 ∧ Below w.heap.size w w' := by
 have HR := Aa.mk hr
 have hlen := may_len hM
 have hF := findS_lt l s
 have HD : Hid (setIn l s t = if 0 ≤ Ea l s then (l.set (Ea l s).toNat ⟨(Bg l (Ea l s)).f0, t⟩, 0)
  else if (l.length : Int) = 16 then ([], 401) else (l ++ [⟨s, t⟩], 0)) := rfl
 have HL := Lib.hid hL
 have HM := Lib.hid hM
 have HN := Lib.hid hN
 have HT := Lib.hid hT
 obtain ⟨F, hFd⟩ : ∃ F, Ea l s = F := ⟨_, rfl⟩
 have HF := Lib.hid hFd
 rw [hFd] at hF HD
 clear hr hL hM hN hT hFd
 go_enter Tryz.func128, Tryz.ntmps128
 go_wp2_with fail
 refine (Es _ _ _ _ HR.out HL.out).mono ?_
 rintro e w1 ⟨rfl, hb1⟩
 rw [HM.out]
 go_wp2_with fail
 refine (Gl _ _).mono ?_
 rintro e w2 ⟨rfl, hb2⟩
 rw [HN.out]
 replace hb2 := bel hb1 hb2
 clear hb1
 go_wp2_with fail
 refine (H7 _ _ _ ht).mono ?_
 rintro e w3 ⟨rfl, rfl⟩
 rw [HT.out]
 go_wp2_with fail
 refine (cloneBinds_calls _ _ _ _ (Kd.Bb HR.out hb2) (by omega)).mono ?_
 rintro e w3 ⟨v, rfl, ho, hb3⟩
 replace ho := Kd.Dv ho hb2.size
 replace hb3 := bel hb2 hb3
 clear hb2
 obtain ⟨A, c, rfl, hlc, hC⟩ := Kd.Dl ho
 have HC := Aa.mk hC
 have HO := Aa.mk ho
 clear hC ho
 go_wp2_with fail
 refine (find_calls _ _ _ _ _ HC.out).mono ?_
 rintro e w4 ⟨rfl, hb4⟩
 rw [HF.out]
 replace HO := Aa.mk (Kd.Bj HO.out hb4)
 replace hb4 := bel hb3 hb4
 clear hb3
 by_cases hf : 0 ≤ F
 ·rw [if_pos hf] at HD
  obtain ⟨g, cap, hv, gb, gl, cells, hcells⟩ := Kd.Gy HO.out (by omega)
  injection hv with ha _ hc
  subst ha hc
  obtain ⟨ce, hcl, hM, hcc, hfr⟩ := Kd.R_elem HO.out z174 F hf hF
  obtain rfl := k174_openM hM
  have HP := Kd.R_seg HO.out F hf hF (seg := [.string t]) (j := 1) hcl hcc (show 2 ≤ 2 from by decide) (x' := (⟨(Bg l F).f0, t⟩ : S174)) (k174_mkM _ _ _ _) (fun _ hk => hk)
  have hx1 : w4.cell? ⟨g, F.toNat * 2 + 1, none⟩ = some (.string (Bg l F).f1) := hcc 1 _ rfl
  have hf1 : w4.frozen? ⟨g, F.toNat * 2 + 1, none⟩ = false := hfr 1
  clear hcl hcc hfr hM hcells
  go_wp2_with fail
  go_ret2
  exact ⟨_, by rw [HD.out]; rfl, by rw [HD.out]; exact HP.1, C7 hb4 gb⟩
 ·rw [if_neg hf] at HD
  by_cases h16 : l.length = 16
  ·rw [if_pos (by omega)] at HD
   have hd : ((l.length : Int) == 16) = true := beq_iff_eq.2 (by omega)
   go_wp2_with fail
   go_ret2
   exact ⟨_, by rw [HD.out]; rfl, by rw [HD.out]; exact Kd.Di _ _ _ _ _, hb4⟩
  ·rw [if_neg (by omega)] at HD
   have hd : ((l.length : Int) == 16) = false := beq_eq_false_iff_ne.2 (by omega)
   go_wp2_with (first | ((with_reducible refine Cz (b := .append) (xs := #[.tmp 28, .tmp 32]) rfl ?_); at_builtin; refine Kd.Ep k174 (w0 := w) w.heap.size rfl (.tmp 28) (.tmp 32) 53 174 (.agg #[(.string ⟨#[]⟩), (.string ⟨#[]⟩)]) 32 rfl Tryz.underlying53 info174 rfl (by decide) (by omega) (.slice A l.length c) l (⟨s, t⟩ : S174) [.string s, .string t] (fun _ => True) (fun _ => False) rfl rfl (k174_mkM _ _ _ (⟨s, t⟩ : S174)) (fun _ hk => hk.elim) (fun _ _ => trivial) HO.out hb4 hb4.size (by omega) ?_; intro v5 w5 ho5 hb5 hg hat; clear hg hat))
   go_ret2
   exact ⟨v5, by rw [HD.out]; rfl, by rw [HD.out]; exact ho5, hb5⟩
theorem setNo_calls (A0 : Option Addr) (c0 : Nat) (l : List S174) (s t : ByteArray) (w : World) (hr : Kd.C k174 w A0 l.length l) (hL : Ei l = true) (ht : t.size ≤ 9223372036854775807)
 (hM : (C5 l && (Ce s && Do t 256)) = false) :
 Calls Tryz.prog 128 #[.slice A0 l.length c0, .string s, .string t] w fun e w' => ∃ v0_ : Value, e = .returned (.tuple #[v0_, .int .i64 400]) ∧ Kd.R k174 174 w' w.heap.size (fun _ => True) v0_ [] ∧ Below w.heap.size w w' := by
 have HR := Aa.mk hr
 have HL := Lib.hid hL
 obtain ⟨M, hMd⟩ : ∃ M, C5 l = M := ⟨_, rfl⟩
 obtain ⟨N, hNd⟩ : ∃ N, Ce s = N := ⟨_, rfl⟩
 obtain ⟨T, hTd⟩ : ∃ T, Do t 256 = T := ⟨_, rfl⟩
 rw [hMd, hNd, hTd] at hM
 have HM := Lib.hid hMd
 have HN := Lib.hid hNd
 have HT := Lib.hid hTd
 clear hr hL hMd hNd hTd
 go_enter Tryz.func128, Tryz.ntmps128
 go_wp2_with fail
 refine (Es _ _ _ _ HR.out HL.out).mono ?_
 rintro e w1 ⟨rfl, hb1⟩
 rw [HM.out]
 cases M
 ·clear hM
  go_wp2_with fail
  go_ret2
  exact ⟨_, rfl, Kd.Di _ _ _ _ _, hb1⟩
 ·go_wp2_with fail
  refine (Gl _ _).mono ?_
  rintro e w2 ⟨rfl, hb2⟩
  rw [HN.out]
  replace hb2 := bel hb1 hb2
  clear hb1
  cases N
  ·clear hM
   go_wp2_with fail
   go_ret2
   exact ⟨_, rfl, Kd.Di _ _ _ _ _, hb2⟩
  ·cases T
   ·clear hM
    go_wp2_with fail
    refine (H7 _ _ _ ht).mono ?_
    rintro e w3 ⟨rfl, rfl⟩
    rw [HT.out]
    go_wp2_with fail
    go_ret2
    exact ⟨_, rfl, Kd.Di _ _ _ _ _, hb2⟩
   ·exact absurd hM (by decide)
theorem scope_Set.calls (A0 : Option Addr) (c0 : Nat) (l0 : List S174) (a1 a2 : ByteArray) (r1 : List S174) (r2 : Int) (w : World) (hr0 : Kd.C k174 w A0 l0.length l0) (_hc0 : l0.length ≤ c0) (h : scope_Set.f l0 a1 a2 = some (r1, r2)) :
 Calls Tryz.prog 128 #[.slice A0 l0.length c0, .string a1, .string a2] w fun e w' => ∃ v0_ : Value, e = .returned (.tuple #[v0_, .int .i64 r2]) ∧ Kd.R k174 174 w' w.heap.size (fun _ => True) v0_ r1 ∧ Below w.heap.size w w' := by
 unfold scope_Set.f at h
 by_cases hL : Ei l0 = true ∧ a2.size ≤ 9223372036854775807
 ·rw [if_pos hL] at h
  have h1 := Option.some.inj h
  unfold Cn at h1
  by_cases hM : (C5 l0 && (Ce a1 && Do a2 256)) = true
  ·rw [if_pos hM] at h1
   rw [Bool.and_eq_true, Bool.and_eq_true] at hM
   have := setIn_calls A0 c0 l0 a1 a2 w hr0 hL.1 hL.2 hM.1 hM.2.1 hM.2.2
   rw [h1] at this
   exact this
  ·rw [if_neg hM] at h1
   obtain ⟨rfl, rfl⟩ := Prod.mk.inj h1
   exact setNo_calls A0 c0 l0 a1 a2 w hr0 hL.1 hL.2 (by simpa using hM)
 ·rw [if_neg hL] at h
  exact absurd h (by simp)
end Go.Proofs.YtefheailchihaaaGreatDoor.Print
end
