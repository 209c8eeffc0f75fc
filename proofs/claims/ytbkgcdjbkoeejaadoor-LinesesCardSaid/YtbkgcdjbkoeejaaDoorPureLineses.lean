/- Lineses, plain: lines.Cut answers as the document does. -/
import Derived.Test.YtbkgcdjbkoeejaaDoorQRefLines
import Derived.Test.YtbkgcdjbkoeejaaDoorPCruciblelaw6Lineses
namespace Go.Proofs.YtbkgcdjbkoeejaaDoor.Pure
open Go.RowKit Go.Lib Go.Proofs.YtbkgcdjbkoeejaaDoor.Print Go.Proofs.YtbkgcdjbkoeejaaDoorW.PrintWords Go.Proofs.YtbkgcdjbkoeejaaDoorW.PrintLast
set_option linter.unusedVariables false

theorem cut_f {s : ByteArray} (h : s.size ≤ 9223372036854775807) : lines_Cut.f s = some (linesCut s) := by unfold lines_Cut.f; rw [if_pos h]
theorem rows_le (rs : List ByteArray) : rs.length ≤ (unrows rs).length := by
  induction rs with
  | nil => simp
  | cons r rs ih => rw [unrows_len]; simp; omega
theorem rdOf_nat (rs : List ByteArray) (i : Nat) (h : i < rs.length) : rdOf ByteArray.empty rs (i : Int) = rs[i] := by
  simp [rdOf, h]
theorem drop_row (rs : List ByteArray) (i : Nat) (h : i < rs.length) : rs.drop i = rs[i] :: rs.drop (i + 1) := List.drop_eq_getElem_cons h
theorem unrows_drop (rs : List ByteArray) (i : Nat) (h : i < rs.length) : (unrows (rs.drop i)).length = rs[i].size + 1 + (unrows (rs.drop (i + 1))).length := by
  rw [drop_row rs i h, unrows_len]
theorem row_size (rs : List ByteArray) : ∀ r ∈ rs, r.size ≤ (unrows rs).length := by
  induction rs with
  | nil => intro r h; simp at h
  | cons q rs ih =>
    intro r h
    rw [unrows_len]
    rcases List.mem_cons.1 h with e | e
    · subst e; omega
    · have := ih r e; omega
/-- A line that is whole. -/
theorem line_step (k : Nat) (rs : List ByteArray) (out : List S39) (t : ByteArray) (i : Int) (F : Option (List S39 × Int)) (ho : out.length ≤ 4096) (hF : crucibleref1_Lines.l1 k rs (addLine out t) i = F) (ht : (trimBB t).size ≤ t.size) :
    (if (trimBB t).toList = ([] : List UInt8) then crucibleref1_Lines.l1 k rs out i else if 0 < ((trimBB t).size : Int) then (if bt (trimBB t) 0 = 35 then crucibleref1_Lines.l1 k rs out i else if 0 < (t.size : Int) then (if out.length < 5864062014805 then crucibleref1_Lines.l1 k rs (out ++ [⟨bt t 0 == 32, trimBB t⟩]) i else none) else none) else none) = F := by
  rw [← hF]
  unfold addLine
  by_cases h0 : (trimBB t).size = 0
  · rw [if_pos (by rw [Lib.toList_data]; exact List.length_eq_zero_iff.1 (by rw [← Lib.size_eq]; exact h0)), if_pos (Or.inl h0)]
  · have hl : ¬ (trimBB t).toList = [] := fun e => h0 (by rw [Lib.size_eq, ← Lib.toList_data, e]; rfl)
    have h1 : 0 < (trimBB t).size := by omega
    have h2 : 0 < t.size := by omega
    have f35 := first_get 35 (trimBB t) h1
    have f32 := first_get 32 t h2
    rw [if_neg hl, if_pos (by omega), show (0 : Int) = ((0 : Nat) : Int) from rfl, bt_nat _ 0 h1, bt_nat t 0 h2]
    by_cases hc : ((trimBB t)[0].toNat : Int) = 35
    · rw [if_pos hc, if_pos (Or.inr (by rw [f35]; exact beq_iff_eq.2 hc))]
    · rw [if_neg hc, if_pos (by omega), if_pos (by omega), if_neg (fun h => by
        rcases h with h | h
        · exact h0 h
        · rw [f35] at h
          exact hc (beq_iff_eq.1 h)), f32]
      rfl
theorem lines_go (rs : List ByteArray) (hz : (unrows rs).length ≤ 2048) (m : Nat) : ∀ (k i : Nat) (out : List S39) (t last : ByteArray), i + 1 + m = rs.length → 2 * m + 6000 ≤ k → out.length ≤ i + 1 → last.size ≤ t.size → t.size + (unrows (rs.drop (i + 1))).length ≤ 2048 →
    crucibleref1_Lines.l2 k rs out (i : Int) t last = some (after m out (joinGo t last (rs.drop (i + 1)))) := by
  have hrl := rows_le rs
  induction m with
  | zero =>
    intro k i out t last hi hk ho hl hts
    obtain ⟨k, rfl⟩ : ∃ q, k = q + 1 + 1 := ⟨k - 2, by omega⟩
    have hd : rs.drop (i + 1) = [] := List.drop_of_length_le (by omega)
    have he : ((i + 1 : Nat) : Int) = (rs.length : Int) := by omega
    have he2 : ¬ ((i + 1 : Nat) : Int) < (rs.length : Int) := by omega
    have hsz := trim_size t
    have l1 : last.size ≤ 140737488355328 := by omega
    have l2 : last.size < k + 1 := by omega
    have hw := wrap_nat i rs.length (by omega) (by omega)
    rw [crucibleref1_Lines.l2, refOn (k + 1) last l1 l2, hd, hw]
    clear hw
    simp only [Option.bind_some]
    cases hon : onB last
    · rw [if_neg (by decide), refTrim (k + 1) t (by omega) (by omega), joinGo_off _ hon]
      simp only [Option.bind_some]
      exact line_step (k + 1) rs out t _ _ (by omega) (by rw [crucibleref1_Lines.l1, if_neg he2]; rfl) hsz
    · rw [if_pos rfl, if_pos he, joinGo_none hon]
      rfl
  | succ m ih =>
    intro k i out t last hi hk ho hl hts
    obtain ⟨k, rfl⟩ : ∃ q, k = q + 1 + 1 := ⟨k - 2, by omega⟩
    have hlt : i + 1 < rs.length := by omega
    have hd := drop_row rs (i + 1) hlt
    have hul := unrows_drop rs (i + 1) hlt
    have he : ¬ ((i + 1 : Nat) : Int) = (rs.length : Int) := by omega
    have he0 : (0 : Int) ≤ ((i + 1 : Nat) : Int) := by omega
    have he2 : ((i + 1 : Nat) : Int) < (rs.length : Int) := by omega
    have hsz := trim_size t
    have hfz := front_size rs[i + 1]
    have l1 : last.size ≤ 140737488355328 := by omega
    have l2 : last.size < k + 1 := by omega
    have hw := wrap_nat i rs.length (by omega) (by omega)
    rw [crucibleref1_Lines.l2, refOn (k + 1) last l1 l2, hd, hw]
    clear hw
    simp only [Option.bind_some]
    cases hon : onB last
    · rw [if_neg (by decide), refTrim (k + 1) t (by omega) (by omega), joinGo_off _ hon]
      simp only [Option.bind_some]
      have hol : (addLine out t).length ≤ i + 1 + 1 := by
        unfold addLine
        split
        · omega
        · rw [List.length_append, List.length_singleton]; omega
      have h2 := ih k (i + 1) (addLine out t) rs[i + 1] rs[i + 1] (by omega) (by omega) hol (Nat.le_refl _) (by omega)
      refine line_step (k + 1) rs out t _ _ (by omega) ?_ hsz
      rw [crucibleref1_Lines.l1, if_pos he2, if_pos he0, rdOf_nat rs (i + 1) hlt, h2]
      show _ = some (linesGo (m + 1) (rs[i + 1] :: rs.drop (i + 1 + 1)) (addLine out t))
      rw [linesGo_cons]
    · have hlp := on_pos hon
      have g0 : (0 : Int) ≤ ((t.size - 1 : Nat) : Int) := by omega
      have g1 : ((t.size - 1 : Nat) : Int) ≤ (t.size : Int) := by omega
      have hez : (t.extract 0 (t.size - 1)).size = t.size - 1 := by simp
      have g2 : (t.extract 0 (t.size - 1)).size + (frontB rs[i + 1]).size ≤ 9223372036854775807 := by omega
      have haz : (t.extract 0 (t.size - 1) ++ frontB rs[i + 1]).size = t.size - 1 + (frontB rs[i + 1]).size := by rw [ByteArray.size_append, hez]
      have h2 := ih (k + 1) (i + 1) out (t.extract 0 (t.size - 1) ++ frontB rs[i + 1]) (frontB rs[i + 1]) (by omega) (by omega) (by omega) (by rw [haz]; omega) (by rw [haz]; omega)
      rw [if_pos rfl, if_neg he, if_pos he0, if_pos he2, rdOf_nat rs (i + 1) hlt, refFront (k + 1) rs[i + 1] (by omega) (by omega)]
      simp only [Option.bind_some]
      have hwp := wrap_pred t.size (by omega) (by omega)
      rw [hwp, if_pos g0, if_pos g1, Int.toNat_natCast, if_pos g2, h2, joinGo_on _ _ hon]
      clear hwp
      congr 1
      cases hj : joinGo (t.extract 0 (t.size - 1) ++ frontB rs[i + 1]) (frontB rs[i + 1]) (rs.drop (i + 1 + 1)) with
      | none => rfl
      | some p =>
        have := join_len _ _ _ p hj
        rw [List.length_drop] at this
        exact go_fuel m p.2 (addLine out p.1) (m + 1) (by omega) (by omega)
theorem plain_rows_go (rs : List ByteArray) (hz : (unrows rs).length ≤ 2048) (F : List S39 × Int) (hF : ∀ k, 2 * rs.length + 7000 ≤ k → crucibleref1_Lines.l1 k rs [] 0 = some F) (d : Nat) : ∀ (k i : Nat), i + d = rs.length → d + 2 * rs.length + 8000 ≤ k →
    crucibleref1_Lines.l0 k rs (i : Int) = some (if plainRows (rs.drop i) = true then F else ([], 600)) := by
  have hrl := rows_le rs
  induction d with
  | zero =>
    intro k i hi hk
    obtain ⟨k, rfl⟩ : ∃ q, k = q + 1 := ⟨k - 1, by omega⟩
    rw [crucibleref1_Lines.l0, if_neg (by omega), hF k (by omega), List.drop_of_length_le (by omega)]
    rfl
  | succ d ih =>
    intro k i hi hk
    obtain ⟨k, rfl⟩ : ∃ q, k = q + 1 := ⟨k - 1, by omega⟩
    have hlt : i < rs.length := by omega
    have hrz := row_size rs rs[i] (List.getElem_mem hlt)
    have hi2 := ih k (i + 1) (by omega) (by omega)
    have q0 : (i : Int) < (rs.length : Int) := by omega
    have q1 : (0 : Int) ≤ (i : Int) := by omega
    have l1 : rs[i].size ≤ 140737488355328 := by omega
    have l2 : rs[i].size < k := by omega
    have hw := wrap_nat i rs.length hlt (by omega)
    rw [crucibleref1_Lines.l0, if_pos q0, if_pos q1, rdOf_nat rs i hlt, refPlain rs[i] 2048 l1 k l2, hw]
    clear hw
    simp only [Option.bind_some]
    have hp : plainB rs[i] 2048 = plainL rs[i].data.toList := by unfold plainB; rw [decide_eq_true (by omega), Bool.and_true]
    have hd : plainRows (rs.drop i) = (plainL rs[i].data.toList && plainRows (rs.drop (i + 1))) := by
      rw [drop_row rs i hlt]
      rfl
    rw [hp, hd]
    cases plainL rs[i].data.toList
    · simp
    · rw [if_pos rfl, hi2, Bool.true_and]
/-- The document's answer. -/
theorem refLines (s : ByteArray) (hn : s.size ≤ 140737488355328) (k : Nat) (hk : 20000 ≤ k) : crucibleref1_Lines.f k s = some (linesCut s) := by
  obtain ⟨k, rfl⟩ : ∃ q, k = q + 1 := ⟨k - 1, by omega⟩
  have hbad : crucibleref1_Lines.j0 (k + 1) s true = some ([], 600) := by rw [crucibleref1_Lines.j0, if_pos rfl]
  unfold crucibleref1_Lines.f
  by_cases h48 : (s.size : Int) > 2048
  · rw [if_pos h48, hbad]
    unfold linesCut
    rw [if_neg (by unfold mayB; rw [decide_eq_false (by omega)]; simp)]
  · have hgood : (s.size = 0 ∨ Lib.hasSuffix s.data.toList [10] = true) → crucibleref1_Lines.j0 (k + 1) s false = some (linesCut s) := by
      intro hend
      have hU : s = U (rowsOf s) := by unfold U; rw [rows_unrows s hend]
      have hnn := rows_noNl s
      have hsp := refSplit k s (by omega) (by omega)
      have hlen : (unrows (rowsOf s)).length ≤ 2048 := by rw [rows_unrows s hend, ← Lib.size_eq]; omega
      have hrl := rows_le (rowsOf s)
      have hmap : ((splitL [] s.data.toList).map mkB) = rowsOf s ++ [⟨#[]⟩] := by
        have h1 : s.data.toList = unrows (rowsOf s) := (rows_unrows s hend).symm
        rw [h1, split_rows _ hnn, List.map_append, List.map_map]
        congr 1
        conv => rhs; rw [← List.map_id (rowsOf s)]
        rfl
      have hcut : linesCut s = if plainRows (rowsOf s) = true then linesGo (rowsOf s).length (rowsOf s) [] else ([], 600) := by
        have := cut_rows (rowsOf s) hnn
        rw [← hU] at this
        rw [this]
        by_cases hp : plainRows (rowsOf s) = true
        · rw [if_pos ⟨by omega, hp⟩, if_pos hp]
        · rw [if_neg (fun h => hp h.2), if_neg hp]
      rw [hcut]
      generalize rowsOf s = rs at *
      rw [crucibleref1_Lines.j0, if_neg (by decide), hsp, hmap]
      simp only [Option.bind_some]
      have hll : ((rs ++ [(⟨#[]⟩ : ByteArray)]).length : Int) - 1 = ((rs.length : Nat) : Int) := by rw [List.length_append, List.length_singleton]; omega
      rw [hll, wrap_in _ (by omega) (by omega), if_pos (by omega), if_pos (by rw [List.length_append]; omega), Int.toNat_natCast, List.take_left]
      refine plain_rows_go rs hlen _ (fun q hq => ?_) rs.length k 0 (by omega) (by omega)
      obtain ⟨q, rfl⟩ : ∃ q', q = q' + 1 := ⟨q - 1, by omega⟩
      cases hrs : rs with
      | nil =>
        rw [crucibleref1_Lines.l1, if_neg (by simp)]
        rfl
      | cons r rs' =>
        rw [← hrs]
        have hlt : 0 < rs.length := by rw [hrs]; simp
        have h0 : rs[0] = r := by simp [hrs]
        have hd1 : rs.drop (0 + 1) = rs' := by rw [hrs]; rfl
        have hul := unrows_drop rs 0 hlt
        rw [List.drop_zero] at hul
        have := lines_go rs hlen (rs.length - 1) q 0 [] rs[0] rs[0] (by omega) (by omega) (by simp) (Nat.le_refl _) (by omega)
        rw [crucibleref1_Lines.l1, if_pos (by omega), if_pos (by omega), show (0 : Int) = ((0 : Nat) : Int) from rfl, rdOf_nat rs 0 hlt, this, hd1, h0]
        conv => rhs; rw [hrs]
        show _ = some (linesGo (rs'.length + 1) (r :: rs') [])
        rw [linesGo_cons, hrs]
        rfl
    rw [if_neg h48]
    by_cases h0 : (s.size : Int) > 0
    · have hwp := wrap_pred s.size (by omega) (by omega)
      have q0 : (0 : Int) ≤ ((s.size - 1 : Nat) : Int) := by omega
      have q1 : ((s.size - 1 : Nat) : Int) < (s.size : Int) := by omega
      have q2 : s.size - 1 < s.size := by omega
      have hl := list_init s (by omega)
      rw [if_pos h0, hwp, if_pos q0, if_pos q1, bt_nat s _ q2]
      clear hwp
      have hsf : Lib.hasSuffix s.data.toList [10] = (s[s.size - 1] == 10) := by
        rw [hl]
        unfold Lib.hasSuffix
        rw [Bool.eq_iff_iff, List.isSuffixOf_iff_suffix]
        constructor
        · rintro ⟨t, ht⟩
          have := congrArg List.getLast? ht
          simp at this
          simp [this]
        · intro e
          rw [beq_iff_eq] at e
          rw [e]
          exact List.suffix_append _ _
      by_cases hc : s[s.size - 1] = 10
      · have hb : ((s[s.size - 1].toNat : Int) != 10) = false := by rw [hc]; rfl
        rw [hb]
        exact hgood (Or.inr (by rw [hsf]; simpa using hc))
      · have hb : ((s[s.size - 1].toNat : Int) != 10) = true := bne_iff_ne.2 (ne10 hc)
        rw [hb, hbad]
        unfold linesCut
        have hm : mayB s = false := by
          unfold mayB
          have e1 : Lib.hasSuffix s.data.toList [10] = false := by rw [hsf]; simpa using hc
          rw [e1, decide_eq_false (show ¬ s.size = 0 by omega)]
          simp
        rw [hm, if_neg (by decide)]
    · rw [if_neg h0]
      exact hgood (Or.inl (by omega))

theorem join_size : ∀ (rs : List ByteArray) (line last : ByteArray) (p : ByteArray × List ByteArray), last.size ≤ line.size → joinGo line last rs = some p → p.1.size + (unrows p.2).length ≤ line.size + (unrows rs).length := by
  intro rs
  induction rs with
  | nil =>
    intro line last p hl h
    simp only [joinGo] at h
    split at h
    · exact absurd h (by simp)
    · injection h with h; subst h; exact Nat.le_refl _
  | cons r rs ih =>
    intro line last p hl h
    simp only [joinGo] at h
    split at h
    · rename_i ho
      have hp := on_pos ho
      have hf := front_size r
      have hez : (line.extract 0 (line.size - 1)).size = line.size - 1 := by simp
      have haz : (line.extract 0 (line.size - 1) ++ frontB r).size = line.size - 1 + (frontB r).size := by rw [ByteArray.size_append, hez]
      have := ih _ _ p (by rw [haz]; omega) h
      rw [haz] at this
      rw [unrows_len]
      omega
    · injection h with h; subst h; exact Nat.le_refl _
theorem go_texts : ∀ (k : Nat) (rs : List ByteArray) (out : List S39), (unrows rs).length ≤ 2048 → (∀ x ∈ out, x.f1.size ≤ 2048) → ∀ x ∈ (linesGo k rs out).1, x.f1.size ≤ 2048 := by
  intro k
  induction k with
  | zero => intro rs out _ ho; exact ho
  | succ k ih =>
    intro rs out hz ho
    cases rs with
    | nil => rw [linesGo_nil]; exact ho
    | cons r rs =>
      rw [linesGo_cons]
      rw [unrows_len] at hz
      cases hj : joinGo r r rs with
      | none => intro x hx; simp [after] at hx
      | some p =>
        have hs := join_size rs r r p (Nat.le_refl _) hj
        refine ih p.2 (addLine out p.1) (by omega) (fun x hx => ?_)
        unfold addLine at hx
        split at hx
        · exact ho x hx
        · rcases List.mem_append.1 hx with h | h
          · exact ho x h
          · simp only [List.mem_singleton] at h
            subst h
            have := trim_size p.1
            show (trimBB p.1).size ≤ 2048
            omega
theorem cut_small (s : ByteArray) : (linesCut s).1.length ≤ 2048 ∧ ∀ x ∈ (linesCut s).1, x.f1.size ≤ 2048 := by
  by_cases h : (linesCut s).2 = 0
  · obtain ⟨rs, e1, n1, z1, p1, c1⟩ := cut_ok h
    have hrl := rows_le rs
    rw [e1, U_size] at z1
    rw [c1]
    refine ⟨?_, go_texts rs.length rs [] z1 (fun x hx => by simp at hx)⟩
    have := go_len rs.length rs []
    simp at this
    omega
  · have : (linesCut s).1 = [] := by
      unfold linesCut at h ⊢
      split
      · rename_i hm
        rw [if_pos hm] at h
        rw [go_out] at h ⊢
        split
        · rename_i h0
          rw [if_pos h0] at h
          exact absurd rfl h
        · rfl
      · rfl
    rw [this]
    exact ⟨by simp, fun x hx => by simp at hx⟩
theorem spoil_go : ∀ (k i : Nat) (l : List S39), i ≤ l.length → l.length ≤ 2048 → l.length - i < k → (∀ j, i ≤ j → j < l.length → (rd_T39 l (j : Int)).f1.size ≤ 2048) → ∃ r, cruciblelaw0_SpoilLines.l0 k l i = some r := by
  intro k
  induction k with
  | zero => intro i l _ _ h; omega
  | succ k ih =>
    intro i l hi hl hk hz
    by_cases h : i < l.length
    · have hzi := hz i (by omega) h
      obtain ⟨r, hr⟩ := ih (i + 1) (l.set i ⟨(rd_T39 l i).f0, (rd_T39 l i).f1 ++ ⟨#[63]⟩⟩) (by rw [List.length_set]; omega) (by rw [List.length_set]; omega) (by rw [List.length_set]; omega) (fun j hj hjl => by
        rw [List.length_set] at hjl
        have : rd_T39 (l.set i ⟨(rd_T39 l i).f0, (rd_T39 l i).f1 ++ ⟨#[63]⟩⟩) j = rd_T39 l j := by
          simp only [rd_T39, List.getD_eq_getElem?_getD, Int.toNat_natCast]
          rw [List.getElem?_set_ne (by omega)]
        rw [this]
        exact hz j (by omega) hjl)
      refine ⟨r, ?_⟩
      simp only [cruciblelaw0_SpoilLines.l0]
      rw [if_pos (by omega), if_pos (by omega), if_pos (by omega), wrap_succ (n := l.length) (by omega) (by omega) (by omega)]
      exact hr
    · refine ⟨l, ?_⟩
      simp only [cruciblelaw0_SpoilLines.l0]
      rw [if_neg (by omega)]
theorem Lineses : cruciblelaw6_Lineses.Pure := by
  intro s hs
  obtain ⟨hl, hx⟩ := cut_small s
  refine ⟨20001, ?_⟩
  obtain ⟨r, hr⟩ := spoil_go 20000 0 (linesCut s).1 (by omega) hl (by omega) (fun j _ hj => by
    have e : rd_T39 (linesCut s).1 (j : Int) = (linesCut s).1[j] := by simp [rd_T39, hj]
    rw [e]
    exact hx _ (List.getElem_mem hj))
  unfold cruciblelaw6_Lineses.f
  rw [cut_f (by omega), refLines s (by omega) 20001 (by omega)]
  simp only [Option.bind_some]
  rw [same_self _ (by omega) 20001 (by omega)]
  simp only [Option.bind_some, num_eq, if_true]
  rw [show ((linesCut s).2 != (linesCut s).2) = false from by simp, cruciblelaw6_Lineses.j0, if_neg (by decide)]
  unfold cruciblelaw0_SpoilLines.f
  rw [show (0 : Int) = ((0 : Nat) : Int) from rfl, hr]
  simp only [Option.bind_some]
  rw [awake6 20000 (by omega)]
  rfl
end Go.Proofs.YtbkgcdjbkoeejaaDoor.Pure
namespace Go.Proofs.YtbkgcdjbkoeejaaDoor.Print
open Go.RowKit Go.Lib Go.Proofs.YtbkgcdjbkoeejaaDoorW.PrintWords Go.Proofs.YtbkgcdjbkoeejaaDoorW.PrintLast
theorem Lineses_walk (w : World) (a0 : ByteArray) (h0 : a0.size ≤ 140737488351232) : Calls Tryd.prog 3 #[.string a0] w fun e w' => e = .returned (.bool true) ∧ Below w.heap.size w w' :=
  cruciblelaw6_Lineses.walk Pure.Lineses a0 w h0
end Go.Proofs.YtbkgcdjbkoeejaaDoor.Print
