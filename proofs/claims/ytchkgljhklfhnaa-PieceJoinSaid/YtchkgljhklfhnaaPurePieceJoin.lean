/- Texts and variables put together are cut into these. -/
import Derived.Test.YtchkgljhklfhnaaQCutLaws
import Derived.Test.YtchkgljhklfhnaaPCruciblelaw3PieceJoin
namespace Go.Proofs.Ytchkgljhklfhnaa.Pure
open Go.RowKit Go.Lib Go.Proofs.Ytchkgljhklfhnaa.Print Go.Proofs.YtchkgljhklfhnaaW.PrintWords Go.Proofs.YtchkgljhklfhnaaW.PrintLast

theorem all_one (c : UInt8) (hc : c ≠ 36) (u : ByteArray) (out : List S57) : refAll (⟨#[c]⟩ ++ u) out = refAll u (addText out ⟨#[c]⟩) := by
  have hs : ((⟨#[c]⟩ : ByteArray) ++ u).size = 1 + u.size := by rw [ByteArray.size_append]; rfl
  have h1 : (⟨#[c]⟩ : ByteArray).size = 1 := rfl
  have h0 : ((⟨#[c]⟩ : ByteArray) ++ u)[0]'(by omega) = c := by rw [app_get _ u 0 (by omega)]; rfl
  rw [e_text _ out (by omega) (by rw [h0]; exact hc), h0, app_ext _ u 1 (by omega)]
  have : (⟨#[c]⟩ : ByteArray).extract 1 (⟨#[c]⟩ : ByteArray).size = ByteArray.empty := ByteArray.ext (by simp [h1])
  rw [this, ByteArray.empty_append]
def dd : ByteArray := ⟨#[36, 36]⟩
theorem all_dd (u : ByteArray) (out : List S57) : refAll (dd ++ u) out = refAll u (addText out ⟨#[36]⟩) := by
  have hs : (dd ++ u).size = 2 + u.size := by rw [ByteArray.size_append]; rfl
  have h0 : (dd ++ u)[0]'(by omega) = 36 := by rw [app_get dd u 0 (by decide)]; rfl
  have h1 : (dd ++ u)[1]'(by omega) = 36 := by rw [app_get dd u 1 (by decide)]; rfl
  rw [e_sign _ out (by omega) h0 (by rw [h1]; decide +kernel), app_ext dd u 2 (by decide), h1]
  rw [show dd.extract 2 dd.size = ByteArray.empty from by decide, ByteArray.empty_append]
theorem ext_all (s : ByteArray) : s.extract s.size s.size = ByteArray.empty := ByteArray.ext (by simp)
def ob : ByteArray := ⟨#[36, 123]⟩
def cb : ByteArray := ⟨#[125]⟩
theorem all_var (v : ByteArray) (h1 : 1 ≤ v.size) (h16 : v.size ≤ 16) (hv : varLen v = v.size) (u : ByteArray) (out : List S57) : refAll (((ob ++ v) ++ cb) ++ u) out = refAll u (out ++ [⟨true, v⟩]) := by
  have hos : ob.size = 2 := rfl
  have hcs : cb.size = 1 := rfl
  have hps : ((ob ++ v) ++ cb).size = v.size + 3 := by rw [ByteArray.size_append, ByteArray.size_append]; omega
  have hss : (((ob ++ v) ++ cb) ++ u).size = v.size + 3 + u.size := by rw [ByteArray.size_append]; omega
  have hcu : (cb ++ u).size = 1 + u.size := by rw [ByteArray.size_append]; omega
  have e : ((ob ++ v) ++ cb) ++ u = ob ++ (v ++ (cb ++ u)) := by simp [ByteArray.append_assoc]
  have hc0 : (cb ++ u)[0]'(by omega) = 125 := by rw [app_get cb u 0 (by decide)]; rfl
  have x1 : (ob ++ (v ++ (cb ++ u))).extract 1 (ob ++ (v ++ (cb ++ u))).size = (⟨#[123]⟩ : ByteArray) ++ (v ++ (cb ++ u)) := by
    rw [app_ext ob _ 1 (by decide), show ob.extract 1 ob.size = (⟨#[123]⟩ : ByteArray) from by decide]
  have hlen : (ob ++ (v ++ (cb ++ u))).size = v.size + 3 + u.size := by rw [← e]; exact hss
  have g0 : (ob ++ (v ++ (cb ++ u)))[0]'(by omega) = 36 := by rw [app_get ob _ 0 (by decide)]; rfl
  have g1 : (ob ++ (v ++ (cb ++ u)))[1]'(by omega) = 123 := by rw [app_get ob _ 1 (by decide)]; rfl
  have hb : hasP ((⟨#[123]⟩ : ByteArray) ++ (v ++ (cb ++ u))) ⟨#[123]⟩ = true := by rw [hasP_app _ _ _ (by decide)]; decide
  have hz : braceOf ((⟨#[123]⟩ : ByteArray) ++ (v ++ (cb ++ u))) = v ++ (cb ++ u) := by
    unfold braceOf
    rw [if_pos hb, app_ext _ _ 1 (by decide), show (⟨#[123]⟩ : ByteArray).extract 1 (⟨#[123]⟩ : ByteArray).size = ByteArray.empty from by decide, ByteArray.empty_append]
  have hl : varLen (v ++ (cb ++ u)) = v.size := by rw [varLen_app v (cb ++ u) (by omega) (by rw [hc0]; decide), hv]
  have hr : restOf (v ++ (cb ++ u)) = cb ++ u := by
    unfold restOf
    rw [hl, app_ext v _ _ (Nat.le_refl _), ext_all, ByteArray.empty_append]
  have hw : wordOf (v ++ (cb ++ u)) = v := by
    unfold wordOf
    rw [hl, app_first v _ _ (Nat.le_refl _)]
    exact ByteArray.extract_zero_size
  have hok : okVar ((⟨#[123]⟩ : ByteArray) ++ (v ++ (cb ++ u))) = true := by
    unfold okVar
    rw [hz, hl, hr, hb, hasP_app cb u _ (by decide)]
    simp only [Bool.and_eq_true, Bool.or_eq_true, decide_eq_true_eq]
    exact ⟨h1, h16, Or.inr (by decide)⟩
  have hve : varEnd ((⟨#[123]⟩ : ByteArray) ++ (v ++ (cb ++ u))) = v.size + 2 := by
    unfold varEnd
    rw [hz, hl, if_pos hb]
  rw [e, e_var _ out (by omega) g0 (by rw [g1]; decide +kernel) (by rw [x1]; exact hok), x1, hve, hz, hw, ← e, app_ext _ u _ (by omega), show 1 + (v.size + 2) = ((ob ++ v) ++ cb).size by omega, ext_all, ByteArray.empty_append]

def Inv (i : Nat) (s : ByteArray) (out : List S57) : Prop := s.size ≤ 6 * i ∧ plainL s.data.toList = true ∧ (∀ u, refAll (s ++ u) [] = refAll u out) ∧ out.length ≤ i ∧ ∀ x ∈ out, x.f1.size ≤ 6 * i
theorem inv_zero : Inv 0 ⟨#[]⟩ [] := ⟨by decide, by decide, fun u => by rw [show (⟨#[]⟩ : ByteArray) = ByteArray.empty from rfl, ByteArray.empty_append], by decide, fun x hx => by simp at hx⟩
theorem inv_var {i : Nat} {s : ByteArray} {out : List S57} (h : Inv i s out) (v : ByteArray) (h1 : 1 ≤ v.size) (h3 : v.size ≤ 3) (hv : varLen v = v.size) (hp : plainL v.data.toList = true) : Inv (i + 1) (((s ++ ob) ++ v) ++ cb) (out ++ [⟨true, v⟩]) := by
  obtain ⟨a, b, c, d, e⟩ := h
  refine ⟨?_, ?_, fun u => ?_, by simp; omega, fun x hx => ?_⟩
  · rw [ByteArray.size_append, ByteArray.size_append, ByteArray.size_append]
    have : ob.size = 2 := rfl
    have : cb.size = 1 := rfl
    omega
  · rw [plain_app, plain_app, plain_app, b, hp]; decide
  · have : ((s ++ ob) ++ v) ++ cb ++ u = s ++ (((ob ++ v) ++ cb) ++ u) := by simp [ByteArray.append_assoc]
    rw [this, c, all_var v h1 (by omega) hv]
  · rcases List.mem_append.1 hx with hx | hx
    · have := e x hx; omega
    · simp at hx; subst hx; show v.size ≤ _; omega
theorem inv_text {i : Nat} {s : ByteArray} {out : List S57} (h : Inv i s out) (t tok : ByteArray) (ht : t.size = 1) (hk : tok.size ≤ 2) (hp : plainL tok.data.toList = true) (hall : ∀ u out, refAll (tok ++ u) out = refAll u (addText out t)) : Inv (i + 1) (s ++ tok) (addText out t) := by
  obtain ⟨a, b, c, d, e⟩ := h
  have hf : Few (6 * i + 1) 1 out := ⟨by omega, fun x hx => by have := e x hx; omega⟩
  refine ⟨?_, ?_, fun u => ?_, ?_, fun x hx => ?_⟩
  · rw [ByteArray.size_append]; omega
  · rw [plain_app, b, hp]; rfl
  · rw [ByteArray.append_assoc, c, hall]
  · unfold addText
    split
    · rw [List.length_set]; omega
    · simp; omega
  · have := (few_text t hf (by omega) (by omega : t.size + 0 ≤ 1)).2 x hx
    omega
theorem addSel (out : List S57) (t : ByteArray) (G : List S57 → Option Bool) (hl : out.length ≤ 100) (hz : ∀ x ∈ out, x.f1.size ≤ 1000) (ht : t.size = 1) :
    (if (out.length : Int) > 0 then (if 0 ≤ (wrap64 ((out.length : Int) - 1)) then (if (wrap64 ((out.length : Int) - 1)) < (out.length : Int) then (if ((rd_T57 out (wrap64 ((out.length : Int) - 1))).f0 = true) then (if out.length < 5864062014805 then G (out ++ [(⟨false, t⟩ : S57)]) else (none)) else (if ((rd_T57 out (wrap64 ((out.length : Int) - 1))).f1).size + t.size ≤ 9223372036854775807 then G (out.set ((wrap64 ((out.length : Int) - 1)) : Int).toNat (⟨(rd_T57 out (wrap64 ((out.length : Int) - 1))).f0, ((rd_T57 out (wrap64 ((out.length : Int) - 1))).f1) ++ t⟩ : S57)) else (none))) else (none)) else (none)) else (if out.length < 5864062014805 then G (out ++ [(⟨false, t⟩ : S57)]) else (none))) = G (addText out t) := by
  unfold addText
  by_cases h : 0 < out.length
  · have hw : wrap64 ((out.length : Int) - 1) = ((out.length - 1 : Nat) : Int) := by unfold wrap64; omega
    rw [if_pos (by omega), hw, if_pos (by omega), if_pos (by omega)]
    have hm := hz _ (rd57_mem out (out.length - 1) (by omega))
    cases hb : (rd_T57 out ((out.length - 1 : Nat) : Int)).f0
    · rw [if_neg (by decide), if_pos (by omega), if_pos ⟨h, rfl⟩, Int.toNat_natCast]
    · rw [if_pos rfl, if_pos (by omega), if_neg (fun e => absurd e.2 (by decide))]
  · rw [if_neg (by omega), if_pos (by omega), if_neg (fun e => h e.1)]

def vs3 : List ByteArray := [(⟨#[97]⟩ : ByteArray), (⟨#[105, 110]⟩ : ByteArray), (⟨#[120, 95, 49]⟩ : ByteArray)]
def ts5 : List ByteArray := [(⟨#[113]⟩ : ByteArray), (⟨#[36]⟩ : ByteArray), (⟨#[32]⟩ : ByteArray), (⟨#[58]⟩ : ByteArray), (⟨#[125]⟩ : ByteArray)]
theorem vs_ok : ∀ j : Fin 3, 1 ≤ (rdOf ByteArray.empty vs3 ((j.val : Nat) : Int)).size ∧ (rdOf ByteArray.empty vs3 ((j.val : Nat) : Int)).size ≤ 3 ∧ varLen (rdOf ByteArray.empty vs3 ((j.val : Nat) : Int)) = (rdOf ByteArray.empty vs3 ((j.val : Nat) : Int)).size ∧ plainL (rdOf ByteArray.empty vs3 ((j.val : Nat) : Int)).data.toList = true := by decide +kernel
theorem ts_ok : ∀ j : Fin 5, ∃ c : UInt8, rdOf ByteArray.empty ts5 ((j.val : Nat) : Int) = ⟨#[c]⟩ ∧ plainL [c] = true := by
  intro j
  rcases j with ⟨_ | _ | _ | _ | _ | n, h⟩
  · exact ⟨113, rfl, by decide⟩
  · exact ⟨36, rfl, by decide⟩
  · exact ⟨32, rfl, by decide⟩
  · exact ⟨58, rfl, by decide⟩
  · exact ⟨125, rfl, by decide⟩
  · omega
theorem place (m : Int) (n : Nat) (hn : 0 < n) (hn2 : n ≤ 10) : ∃ j : Nat, j < n ∧ wrap64 (Int.tmod (IntKind.u64.wrap m / 2) n) = j := by
  have h0 : 0 ≤ IntKind.u64.wrap m := by rw [IntKind.wrap_u64]; omega
  have h1 : 0 ≤ IntKind.u64.wrap m / 2 := by omega
  rw [Int.tmod_eq_emod_of_nonneg h1]
  have a := Int.emod_nonneg (IntKind.u64.wrap m / 2) (show (n : Int) ≠ 0 by omega)
  have b := Int.emod_lt_of_pos (IntKind.u64.wrap m / 2) (show (0 : Int) < n by omega)
  refine ⟨((IntKind.u64.wrap m / 2) % n).toNat, by omega, ?_⟩
  unfold wrap64
  omega

theorem join_end (k : Nat) (x0 : List Int) (s : ByteArray) (out : List S57) (i : Nat) (h : Inv i s out) (hi : i ≤ 20) (hk : 200 ≤ k) : cruciblelaw3_PieceJoin.j1 (k + 1) x0 s out i false = some true := by
  obtain ⟨a, b, c, d, e⟩ := h
  have hp : plainB s 2048 = true := by
    unfold plainB
    rw [b]
    simp
    omega
  have hr : refOf s = (out, 0) := by
    have := c ByteArray.empty
    rw [ByteArray.append_empty, e_end ByteArray.empty out rfl] at this
    rw [refOf_all s hp, this]
  simp only [cruciblelaw3_PieceJoin.j1]
  rw [if_neg (by decide), cut_some s (by omega), hr]
  simp only [Option.bind_some, num_eq]
  rw [if_pos trivial, samePieces_self out (by omega) k (by omega)]
  rfl
theorem join_go (x0 : List Int) : ∀ (d k i : Nat) (s : ByteArray) (out : List S57), Inv i s out → i ≤ 20 → 20 - i ≤ d → 2 * d + 300 ≤ k → cruciblelaw3_PieceJoin.l0 k x0 s out i = some true := by
  intro d
  induction d with
  | zero =>
    intro k i s out h hi hd hk
    obtain ⟨k, rfl⟩ : ∃ z, k = z + 2 := ⟨k - 2, by omega⟩
    simp only [cruciblelaw3_PieceJoin.l0]
    rw [show decide ((i : Int) < 20) = false by simp; omega]
    split <;> exact join_end k x0 s out i h hi (by omega)
  | succ d ih =>
    intro k i s out h hi hd hk
    obtain ⟨k, rfl⟩ : ∃ z, k = z + 2 := ⟨k - 2, by omega⟩
    simp only [cruciblelaw3_PieceJoin.l0]
    by_cases hl : (i : Int) < x0.length
    · rw [if_pos hl]
      by_cases h20 : i < 20
      · rw [show decide ((i : Int) < 20) = true by simp; omega]
        have hw : wrap64 ((i : Int) + 1) = ((i + 1 : Nat) : Int) := by unfold wrap64; omega
        have hol : out.length ≤ 100 := by have := h.2.2.2.1; omega
        have hoz : ∀ x ∈ out, x.f1.size ≤ 1000 := fun x hxm => by have := h.2.2.2.2 x hxm; omega
        have hsz := h.1
        simp only [cruciblelaw3_PieceJoin.j1]
        rw [if_pos trivial, if_pos (by omega), if_pos hl, hw]
        by_cases hb : Go.bits .and .i64 (rd x0 i) 1 = 0
        · rw [if_pos hb, Option.bind_some]
          obtain ⟨j, hj, hje⟩ := place (rd x0 i) 3 (by omega) (by omega)
          obtain ⟨v1, v2, v3, v4⟩ := vs_ok ⟨j, hj⟩
          simp only [] at v1 v2 v3 v4
          rw [show (3 : Int) = ((3 : Nat) : Int) from rfl, hje, if_pos (by omega), if_pos (by show (j : Int) < 3; omega)]
          have hc := inv_var h _ v1 v2 v3 v4
          unfold vs3 at hc v2
          generalize rdOf ByteArray.empty _ (j : Int) = v at *
          rw [if_pos (by omega), if_pos (by rw [ByteArray.size_append, show (⟨#[36, 123]⟩ : ByteArray).size = 2 from rfl]; omega), if_pos (by rw [ByteArray.size_append, ByteArray.size_append, show (⟨#[36, 123]⟩ : ByteArray).size = 2 from rfl]; omega), if_pos (by omega)]
          exact ih k (i + 1) _ _ hc (by omega) (by omega) (by omega)
        · rw [if_neg hb, Option.bind_some]
          obtain ⟨j, hj, hje⟩ := place (rd x0 i) 5 (by omega) (by omega)
          obtain ⟨c, hc, hpc⟩ := ts_ok ⟨j, hj⟩
          simp only [] at hc
          unfold ts5 at hc
          rw [show (5 : Int) = ((5 : Nat) : Int) from rfl, hje, if_pos (by omega), if_pos (by show (j : Int) < 5; omega), hc]
          by_cases h36 : c = 36
          · subst h36
            rw [if_pos (by rw [Lib.toList_data]), if_pos (by omega)]
            refine (addSel out _ (fun o => cruciblelaw3_PieceJoin.l0 k x0 (s ++ (⟨#[36, 36]⟩ : ByteArray)) o ((i + 1 : Nat) : Int)) hol hoz rfl).trans ?_
            exact ih k (i + 1) _ _ (inv_text h ⟨#[36]⟩ dd rfl (by decide) (by decide) all_dd) (by omega) (by omega) (by omega)
          · rw [if_neg (fun e => h36 (by have : (⟨#[c]⟩ : ByteArray).toList = [c] := by rw [Lib.toList_data]
                                         rw [this] at e; simpa using e)), if_pos (by show s.size + 1 ≤ _; omega)]
            refine (addSel out _ (fun o => cruciblelaw3_PieceJoin.l0 k x0 (s ++ (⟨#[c]⟩ : ByteArray)) o ((i + 1 : Nat) : Int)) hol hoz rfl).trans ?_
            exact ih k (i + 1) _ _ (inv_text h ⟨#[c]⟩ ⟨#[c]⟩ rfl (by show 1 ≤ 2; omega) hpc (fun u out => all_one c h36 u out)) (by omega) (by omega) (by omega)
      · rw [show decide ((i : Int) < 20) = false by simp; omega]
        exact join_end k x0 s out i h hi (by omega)
    · rw [if_neg hl]
      exact join_end k x0 s out i h hi (by omega)

theorem PieceJoin : cruciblelaw3_PieceJoin.Pure := by
  intro l _ _ _
  obtain ⟨k, hk⟩ : ∃ k, 400 ≤ k := ⟨_, Nat.le_refl _⟩
  refine ⟨k, ?_⟩
  unfold cruciblelaw3_PieceJoin.f
  rw [awake3 k (by omega), Option.bind_some, if_pos rfl]
  exact join_go l 20 k 0 _ _ inv_zero (by omega) (by omega) (by omega)
end Go.Proofs.Ytchkgljhklfhnaa.Pure
