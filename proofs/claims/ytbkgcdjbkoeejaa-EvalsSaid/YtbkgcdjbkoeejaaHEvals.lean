/- The law Evals: the document's answer, plain; the walk. -/
import Derived.Test.YtbkgcdjbkoeejaaQEvalLaws
import Derived.Test.YtbkgcdjbkoeejaaHScopes
import Derived.Test.YtbkgcdjbkoeejaaPCrucibleref1Eval
import Derived.Test.YtbkgcdjbkoeejaaOpens
namespace Go.Proofs.Ytbkgcdjbkoeejaa.Print
open Go.RowKit Go.Lib Go.Shelf Go.Proofs.YtbkgcdjbkoeejaaW.PrintWords Go.Proofs.YtbkgcdjbkoeejaaW.PrintLast Go.Proofs.YtbkgcdjbkoeejaaW.PrintMore
set_option linter.unusedVariables false

theorem bytes_snoc (x : List UInt8) (t : ByteArray) : (⟨x.toArray⟩ : ByteArray) ++ t = ⟨(x ++ t.data.toList).toArray⟩ := by
  apply ByteArray.ext
  rw [ByteArray.data_append]
  apply Array.toList_inj.1
  simp
theorem ref_rounds (D : Nat) (hD : D ≤ 140737488355328) (l1 l2 : List S34) (h1 : l1.length ≤ 140737488355328) (h2 : l2.length ≤ 140737488355328) (t1 : textsOk D l1) (t2 : textsOk D l2) (m1 : scopeMay l1 = true) (m2 : scopeMay l2 = true)
    (ps : List S49) (hf : Few 2048 0 ps) (d : Nat) : ∀ (k i : Nat), i + d = ps.length → d + enough D l1 + enough D l2 + 50 ≤ k →
    crucibleref1_Eval.l0 k l1 l2 ps ⟨(evalOut l1 l2 (ps.take i)).toArray⟩ (i : Int) = some (if (evalOut l1 l2 ps).length ≤ 256 then (⟨(evalOut l1 l2 ps).toArray⟩, 0) else (⟨#[]⟩, 501)) := by
  induction d with
  | zero =>
    intro k i hi hk
    obtain ⟨k, rfl⟩ : ∃ m, k = m + 1 := ⟨k - 1, by omega⟩
    obtain rfl : i = ps.length := by omega
    rw [crucibleref1_Eval.l0, if_neg (by omega), List.take_length, size_list]
    by_cases h : (evalOut l1 l2 ps).length ≤ 256
    · rw [if_neg (by omega), if_pos h]
    · rw [if_pos (by omega), if_neg h]
  | succ d ih =>
    intro k i hi hk
    obtain ⟨k, rfl⟩ : ∃ m, k = m + 1 := ⟨k - 1, by omega⟩
    have hlt : i < ps.length := by omega
    have hk1 : enough D l1 + 40 ≤ k := by omega
    have hk2 : enough D l2 + 40 ≤ k := by omega
    have hpl : ps.length ≤ 2048 := by have := hf.1; omega
    have hlen := out_len m1 m2 hf i (by omega)
    have hsn := out_snoc l1 l2 ps i hlt
    have hz : (rd_T49 ps (i : Int)).f1.size ≤ 2048 := by
      have e : rd_T49 ps ((i : Nat) : Int) = ps[i] := by simp [rd_T49, hlt]
      rw [e]
      have := hf.2 ps[i] (List.getElem_mem hlt)
      omega
    have hi2 := ih k (i + 1) (by omega) (by omega)
    rw [hsn] at hi2
    have q0 : (i : Int) < (ps.length : Int) := by omega
    have q1 : 0 ≤ (i : Int) := by omega
    have hw : wrap64 ((i : Int) + 1) = ((i + 1 : Nat) : Int) := by
      rw [wrap_succ (n := ps.length) (by omega) (by omega) (by omega)]
      omega
    rw [crucibleref1_Eval.l0, if_pos q0, if_pos q1, hw]
    clear hw
    have g1 := get_small m1 (rd_T49 ps (i : Int)).f1
    have g2 := get_small m2 (rd_T49 ps (i : Int)).f1
    by_cases hb : (rd_T49 ps (i : Int)).f0 = true
    · rw [if_pos hb, refGet D hD l1 h1 t1 _ k hk1]
      simp only [Option.bind_some]
      have hv : pieceVal l1 l2 (rd_T49 ps (i : Int)) = orB (scopeGet l1 (rd_T49 ps (i : Int)).f1) (scopeGet l2 (rd_T49 ps (i : Int)).f1) := by unfold pieceVal; rw [if_pos hb]
      rw [hv] at hi2
      by_cases h0 : (scopeGet l1 (rd_T49 ps (i : Int)).f1).toList = []
      · have ho : orB (scopeGet l1 (rd_T49 ps (i : Int)).f1) (scopeGet l2 (rd_T49 ps (i : Int)).f1) = scopeGet l2 (rd_T49 ps (i : Int)).f1 := by
          unfold orB; rw [if_neg (fun h => size_some h h0)]
        rw [ho, ← bytes_snoc] at hi2
        rw [if_pos h0, refGet D hD l2 h2 t2 _ k hk2]
        simp only [Option.bind_some]
        rw [if_pos (by rw [size_list]; omega)]
        exact hi2
      · have ho : orB (scopeGet l1 (rd_T49 ps (i : Int)).f1) (scopeGet l2 (rd_T49 ps (i : Int)).f1) = scopeGet l1 (rd_T49 ps (i : Int)).f1 := by
          unfold orB
          rw [if_pos]
          rcases Nat.lt_or_ge (scopeGet l1 (rd_T49 ps (i : Int)).f1).size 1 with h | h
          · exact absurd (size_nil (by omega)) h0
          · exact h
        rw [ho, ← bytes_snoc] at hi2
        rw [if_neg h0, if_pos (by rw [size_list]; omega)]
        exact hi2
    · have hv : pieceVal l1 l2 (rd_T49 ps (i : Int)) = (rd_T49 ps (i : Int)).f1 := by unfold pieceVal; rw [if_neg hb]
      rw [hv, ← bytes_snoc] at hi2
      rw [if_neg hb, if_pos (by rw [size_list]; omega)]
      exact hi2
theorem refEval (D : Nat) (hD : D ≤ 140737488355328) (s : ByteArray) (hs : s.size ≤ 140737488351232) (l1 l2 : List S34) (h1 : l1.length ≤ 140737488355328) (h2 : l2.length ≤ 140737488355328) (t1 : textsOk D l1) (t2 : textsOk D l2) (k : Nat) (hk : 2048 + enough D l1 + enough D l2 + 60 ≤ k) :
    crucibleref1_Eval.f k s l1 l2 = some (evalOf s l1 l2) := by
  obtain ⟨k, rfl⟩ : ∃ m, k = m + 1 := ⟨k - 1, by omega⟩
  have hc : crucibleref1_Cut.f s = some (cutOf s) := by unfold crucibleref1_Cut.f; rw [if_pos (by omega), cutOf_eq]
  have hf := few_cut s
  unfold crucibleref1_Eval.f
  rw [hc]
  simp only [Option.bind_some]
  have hno : crucibleref1_Eval.j0 (k + 1) l1 l2 (cutOf s).1 true = some (⟨#[]⟩, 500) := by rw [crucibleref1_Eval.j0, if_pos rfl]
  by_cases h0 : (cutOf s).2 = 0
  · rw [if_pos h0, refScopeMay D hD l1 h1 t1 (k + 1) (by omega)]
    simp only [Option.bind_some]
    cases m1 : scopeMay l1
    · rw [if_neg (by decide), hno]
      unfold evalOf
      rw [if_neg (by rw [m1]; simp)]
    · rw [if_pos rfl, refScopeMay D hD l2 h2 t2 (k + 1) (by omega)]
      simp only [Option.bind_some]
      cases m2 : scopeMay l2
      · rw [show (!false) = true from rfl, hno]
        unfold evalOf
        rw [if_neg (by rw [m2]; simp)]
      · rw [show (!true) = false from rfl, crucibleref1_Eval.j0, if_neg (by decide)]
        have hpl : (cutOf s).1.length ≤ 2048 := by have := hf.1; omega
        have := ref_rounds D hD l1 l2 h1 h2 t1 t2 m1 m2 (cutOf s).1 hf (cutOf s).1.length k 0 (by omega) (by omega)
        unfold evalOf
        rw [if_pos ⟨h0, m1, m2⟩]
        exact this
  · rw [if_neg h0, hno]
    unfold evalOf
    rw [if_neg (fun h => h0 h.1)]

theorem texts22e {l : List S34} (h : Small22 l) : textsOk 140737488351232 l := fun k hk => by
  have := h.2 l[k] (List.getElem_mem hk)
  rw [rd_get l k hk]
  exact this

set_option maxHeartbeats 4000000 in
set_option maxRecDepth 100000 in
theorem Evals_walk (w : World) (a0 : ByteArray) (h0 : a0.size ≤ 140737488351232) (A1 : Option Addr) (c1 : Nat) (l1 : List S34) (hr1 : Kd.C k34 w A1 l1.length l1) (hc1 : l1.length ≤ c1) (hs1 : Small22 l1)
    (A2 : Option Addr) (c2 : Nat) (l2 : List S34) (hr2 : Kd.C k34 w A2 l2.length l2) (hc2 : l2.length ≤ c2) (hs2 : Small22 l2) :
    Calls Try.prog 3 #[.string a0, .slice A1 l1.length c1, .slice A2 l2.length c2] w fun e w' => e = .returned (.bool true) ∧ Below w.heap.size w w' := by
  have hD1 := texts22e hs1
  have hD2 := texts22e hs2
  have hL1 := long_of hD1 (by omega)
  have hL2 := long_of hD2 (by omega)
  have hn1 : l1.length ≤ 140737488355328 := by have := hs1.1; omega
  have hn2 : l2.length ≤ 140737488355328 := by have := hs2.1; omega
  have hlong1 : l1.length + 2 < 4398046511104 := by have := hs1.1; omega
  have hlong2 : l2.length + 2 < 4398046511104 := by have := hs2.1; omega
  obtain ⟨K, hK⟩ : ∃ K : Nat, enough 140737488351232 l1 + enough 140737488351232 l2 + l1.length + l2.length + 3000 ≤ K := ⟨_, Nat.le_refl _⟩
  have heval := eval_f (s := a0) (l1 := l1) (l2 := l2) (by omega) hL1 hL2
  have reval := refEval 140737488351232 (by omega) a0 h0 l1 l2 hn1 hn2 hD1 hD2 K (by omega)
  have hself1 := sameBinds_eq l1 l1 hn1 K (by omega)
  rw [sameBinds_self] at hself1
  have hself2 := sameBinds_eq l2 l2 hn2 K (by omega)
  rw [sameBinds_self] at hself2
  obtain ⟨⟨X, e⟩, hX⟩ : ∃ p, evalOf a0 l1 l2 = p := ⟨_, rfl⟩
  rw [hX] at heval reval
  clear hX
  have HR1 := Aside0.mk hr1
  have HR2 := Aside0.mk hr2
  have HE := Lib.hid heval
  have RE := Lib.hid reval
  have HS1 := Lib.hid hself1
  have HS2 := Lib.hid hself2
  have HK := Lib.hid hK
  clear hr1 hr2 heval reval hself1 hself2 hL1 hL2 hD1 hD2 hs1 hs2 hK
  go_enter Try.func3, Try.ntmps3
  go_wp2_with fail
  refine (lend_calls A1 c1 l1 w HR1.out hc1 hlong1).mono ?_
  rintro x w1 ⟨B1, d1, rfl, hfull, hb1⟩
  have hd1 : l1.length + 2 ≤ d1 := by have := (Kd.R_reads' hfull).2.1; simpa using this
  have hCf : Kd.C k34 w1 B1 (l1.length + 2) (l1 ++ [markB, markB]) := by have := (Kd.R_reads' hfull).2.2; simpa using this
  have hC1 : Kd.C k34 w1 B1 l1.length l1 := by
    have h_ := Kd.C_take (m := l1.length) (show Kd.C k34 w1 B1 (l1 ++ [markB, markB]).length (l1 ++ [markB, markB]) by simpa using hCf) (by simp)
    rw [List.take_left] at h_
    exact h_
  have HCF1 := Aside0.mk hCf
  have HC1 := Aside0.mk hC1
  have HB1 := Aside0.mk hb1
  clear hfull hCf hC1 hb1
  go_wp2_with fail
  refine (lend_calls A2 c2 l2 w1 (Kd.C_below HR2.out HB1.out) hc2 hlong2).mono ?_
  rintro x w2 ⟨B2, d2, rfl, hfull, hb2⟩
  have hd2 : l2.length + 2 ≤ d2 := by have := (Kd.R_reads' hfull).2.1; simpa using this
  have hCf : Kd.C k34 w2 B2 (l2.length + 2) (l2 ++ [markB, markB]) := by have := (Kd.R_reads' hfull).2.2; simpa using this
  have hC2 : Kd.C k34 w2 B2 l2.length l2 := by
    have h_ := Kd.C_take (m := l2.length) (show Kd.C k34 w2 B2 (l2 ++ [markB, markB]).length (l2 ++ [markB, markB]) by simpa using hCf) (by simp)
    rw [List.take_left] at h_
    exact h_
  have HCF2 := Aside0.mk hCf
  have HC2 := Aside0.mk hC2
  have HCF12 := Aside0.mk (Kd.C_below HCF1.out hb2)
  have HC12 := Aside0.mk (Kd.C_below HC1.out hb2)
  have HW2 := Aside0.mk (below_step HB1.out hb2)
  clear hfull hCf hC2 hb2 HCF1 HC1 HB1
  go_wp2_with fail
  refine (eval_Of.calls a0 B1 d1 l1 B2 d2 l2 X e w2 HC12.out (by omega) HC2.out (by omega) HE.out).mono ?_
  rintro x w3 ⟨rfl, hb3⟩
  have HV3 := Aside0.mk hb3
  have HW3 := Aside0.mk (below_step HW2.out hb3)
  clear hb3
  go_wp2_with fail
  refine (crucibleref1_Eval.calls K a0 A1 c1 l1 A2 c2 l2 X e w3 (Kd.C_below HR1.out HW3.out) hc1 (Kd.C_below HR2.out HW3.out) hc2 RE.out).mono ?_
  rintro x w4 ⟨rfl, hb4⟩
  have HV4 := Aside0.mk (below_step HV3.out hb4)
  have HW4 := Aside0.mk (below_step HW3.out hb4)
  clear hb4
  go_wp2_with fail
  refine (cruciblelaw0_Num.calls e e w4 rfl).mono ?_
  rintro x w5 ⟨rfl, d5⟩
  have HV5 := Aside0.mk (below_step HV4.out d5.below)
  have HW5 := Aside0.mk (below_step HW4.out d5.below)
  clear d5
  go_wp2_with fail
  refine (kept_calls B1 d1 l1 A1 c1 w5 (Kd.C_below HCF12.out HV5.out) hd1 (Kd.C_below HR1.out HW5.out) hc1 (by omega) K HS1.out).mono ?_
  rintro x w6 ⟨rfl, d6⟩
  have HV6 := Aside0.mk (below_step HV5.out d6.below)
  have HW6 := Aside0.mk (below_step HW5.out d6.below)
  clear d6
  go_wp2_with fail
  refine (kept_calls B2 d2 l2 A2 c2 w6 (Kd.C_below HCF2.out HV6.out) hd2 (Kd.C_below HR2.out HW6.out) hc2 (by omega) K HS2.out).mono ?_
  rintro x w7 ⟨rfl, d7⟩
  have HW7 := Aside0.mk (below_step HW6.out d7.below)
  clear d7
  go_wp2_with fail
  refine (cruciblelaw5_awake.calls K true w7 (awake5 K (by have := HK.out; omega))).mono ?_
  rintro x w8 ⟨rfl, b8⟩
  have HW8 := Aside0.mk (below_step HW7.out b8)
  clear b8
  go_wp2_with fail
  go_ret
  exact ⟨rfl, HW8.out⟩
end Go.Proofs.Ytbkgcdjbkoeejaa.Print
