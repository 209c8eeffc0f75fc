/- The contract of lines.Cut: a text's lines, of every text of a length that Go has. -/
import Derived.Test.YtbkgcdjbkoeejaaDoorHStr
namespace Go.Proofs.YtbkgcdjbkoeejaaDoor.Print
open Go.RowKit Go.Lib Go.Shelf Go.Proofs.YtbkgcdjbkoeejaaDoorW.PrintWords Go.Proofs.YtbkgcdjbkoeejaaDoorW.PrintLast Go.Proofs.YtbkgcdjbkoeejaaDoorW.PrintMore
set_option linter.unusedVariables false

/-! plain: rows, and lines out of rows -/
def frontB (t : ByteArray) : ByteArray := ⟨(Lib.trimLeftB t.data.toList 32).toArray⟩
def trimBB (t : ByteArray) : ByteArray := ⟨(Lib.trimB t.data.toList 32).toArray⟩
def joinGo : ByteArray → ByteArray → List ByteArray → Option (ByteArray × List ByteArray)
  | line, last, [] => if onB last = true then none else some (line, [])
  | line, last, r :: rs => if onB last = true then joinGo (line.extract 0 (line.size - 1) ++ frontB r) (frontB r) rs else some (line, r :: rs)
def firstIs (c : UInt8) (s : ByteArray) : Bool := s.data.toList.head? == some c
def addLine (out : List S39) (line : ByteArray) : List S39 :=
  if (trimBB line).size = 0 ∨ firstIs 35 (trimBB line) = true then out else out ++ [⟨firstIs 32 line, trimBB line⟩]
def linesGo : Nat → List ByteArray → List S39 → List S39 × Int
  | 0, _, out => (out, 0)
  | _ + 1, [], out => (out, 0)
  | k + 1, r :: rs, out => match joinGo r r rs with
    | none => ([], 600)
    | some p => linesGo k p.2 (addLine out p.1)
def splitL : List UInt8 → List UInt8 → List (List UInt8)
  | cur, [] => [cur]
  | cur, c :: l => if c = 10 then cur :: splitL [] l else splitL (cur ++ [c]) l
def rowsOf (s : ByteArray) : List ByteArray := (splitL [] s.data.toList).dropLast.map fun l => ⟨l.toArray⟩
def linesCut (s : ByteArray) : List S39 × Int := if mayB s = true then linesGo (rowsOf s).length (rowsOf s) [] else ([], 600)
def lines_Cut.f (a0 : ByteArray) : Option (List S39 × Int) := if a0.size ≤ 9223372036854775807 then some (linesCut a0) else none

def unrows (rs : List ByteArray) : List UInt8 := rs.flatMap fun r => r.data.toList ++ [10]
def NoNl (rs : List ByteArray) : Prop := ∀ r ∈ rs, (10 : UInt8) ∉ r.data.toList
theorem unrows_cons (r : ByteArray) (rs : List ByteArray) : unrows (r :: rs) = r.data.toList ++ (10 :: unrows rs) := by simp [unrows]
theorem unrows_nil {rs : List ByteArray} : unrows rs = [] ↔ rs = [] := by
  cases rs with
  | nil => simp [unrows]
  | cons r rs => simp [unrows]
theorem index_row (a b : List UInt8) (h : (10 : UInt8) ∉ a) : Lib.indexByte (a ++ 10 :: b) 10 = (a.length : Nat) := by
  induction a with
  | nil => simp [Lib.indexByte]
  | cons c a ih =>
    have hc : ¬ c = 10 := fun e => h (by simp [e])
    have := ih (fun hm => h (List.mem_cons_of_mem _ hm))
    show (if (c == 10) = true then (0 : Int) else if Lib.indexByte (a ++ 10 :: b) 10 == -1 then -1 else Lib.indexByte (a ++ 10 :: b) 10 + 1) = _
    rw [this, if_neg (by simpa using hc)]
    rw [if_neg (by simp; try omega)]
    simp
theorem cut_row (r : ByteArray) (rs : List ByteArray) (h : (10 : UInt8) ∉ r.data.toList) : cutStep ⟨(unrows (r :: rs)).toArray⟩ = (r, ⟨(unrows rs).toArray⟩, true) := by
  have hi : cutAt ⟨(unrows (r :: rs)).toArray⟩ = (r.size : Nat) := by
    unfold cutAt
    rw [unrows_cons, Lib.size_eq]
    exact index_row _ _ h
  unfold cutStep
  rw [hi, if_pos (by omega), Int.toNat_natCast]
  have e1 : (⟨(unrows (r :: rs)).toArray⟩ : ByteArray).extract 0 r.size = r := by
    apply ByteArray.ext
    apply Array.toList_inj.1
    rw [Lib.extract_data, unrows_cons]
    show ((r.data.toList ++ 10 :: unrows rs).drop 0).take (r.size - 0) = r.data.toList
    rw [List.drop_zero, Nat.sub_zero, Lib.size_eq, List.take_left]
  have e2 : (⟨(unrows (r :: rs)).toArray⟩ : ByteArray).extract (r.size + 1) (⟨(unrows (r :: rs)).toArray⟩ : ByteArray).size = ⟨(unrows rs).toArray⟩ := by
    apply ByteArray.ext
    apply Array.toList_inj.1
    rw [Lib.extract_to_end, unrows_cons]
    show List.drop (r.size + 1) (r.data.toList ++ 10 :: unrows rs) = unrows rs
    rw [Lib.size_eq, List.drop_append]
    simp
  rw [e1, e2]
theorem split_unrows (l : List UInt8) : ∀ cur, (∃ x, (splitL cur l).dropLast.flatMap (fun r => r ++ [10]) ++ x = cur ++ l ∧ (splitL cur l).getLast? = some x) := by
  induction l with
  | nil => intro cur; exact ⟨cur, by simp [splitL], by simp [splitL]⟩
  | cons c l ih =>
    intro cur
    simp only [splitL]
    split
    · rename_i hc
      subst hc
      obtain ⟨x, h1, h2⟩ := ih []
      have hne : splitL [] l ≠ [] := fun e => by rw [e] at h2; simp at h2
      refine ⟨x, ?_, ?_⟩
      · rw [List.dropLast_cons_of_ne_nil hne, List.flatMap_cons, List.append_assoc, h1]
        simp
      · rw [List.getLast?_cons, h2]
        rfl
    · obtain ⟨x, h1, h2⟩ := ih (cur ++ [c])
      exact ⟨x, by rw [h1]; simp, h2⟩
theorem split_noNl (l : List UInt8) : ∀ cur, (10 : UInt8) ∉ cur → ∀ r ∈ splitL cur l, (10 : UInt8) ∉ r := by
  induction l with
  | nil => intro cur h r hr; simp [splitL] at hr; subst hr; exact h
  | cons c l ih =>
    intro cur h r hr
    simp only [splitL] at hr
    split at hr
    · rcases List.mem_cons.1 hr with e | e
      · subst e; exact h
      · exact ih [] (by simp) r e
    · rename_i hc
      exact ih (cur ++ [c]) (by simp [h]; exact fun e => hc e.symm) r hr
theorem rows_noNl (s : ByteArray) : NoNl (rowsOf s) := by
  intro r hr
  unfold rowsOf at hr
  obtain ⟨l, hl, rfl⟩ := List.mem_map.1 hr
  exact split_noNl s.data.toList [] (by simp) l (List.dropLast_subset _ hl)
/-- A text that ends as it may is its rows, each with its end. -/
theorem rows_unrows (s : ByteArray) (h : s.size = 0 ∨ Lib.hasSuffix s.data.toList [10] = true) : unrows (rowsOf s) = s.data.toList := by
  obtain ⟨x, h1, h2⟩ := split_unrows s.data.toList []
  have e : unrows (rowsOf s) = (splitL [] s.data.toList).dropLast.flatMap (fun r => r ++ [10]) := by
    unfold unrows rowsOf
    rw [List.flatMap_map]
  rw [List.nil_append] at h1
  have hx : (10 : UInt8) ∉ x := by
    have hm : x ∈ splitL [] s.data.toList := List.mem_of_getLast? h2
    exact split_noNl s.data.toList [] (by simp) x hm
  have : x = [] := by
    rcases h with h | h
    · have hs : s.data.toList = [] := List.length_eq_zero_iff.1 (by rw [← Lib.size_eq]; exact h)
      rw [hs] at h1
      exact (List.append_eq_nil_iff.1 h1).2
    · rw [← h1] at h
      unfold Lib.hasSuffix at h
      rw [List.isSuffixOf_iff_suffix] at h
      rcases List.eq_nil_or_concat x with e | ⟨y, c, e⟩
      · exact e
      · rw [List.concat_eq_append] at e
        rw [e, ← List.append_assoc] at h
        obtain ⟨t, ht⟩ := h
        have := congrArg List.getLast? ht
        simp at this
        exact absurd (by rw [e]; simp [this]) hx
  rw [this, List.append_nil] at h1
  rw [e, h1]
theorem front_size (t : ByteArray) : (frontB t).size ≤ t.size := by
  unfold frontB Lib.trimLeftB
  have := (List.dropWhile_sublist (l := t.data.toList) (fun c => c == (32 : UInt8))).length_le
  have e := Lib.size_eq t
  have e2 : (⟨(t.data.toList.dropWhile fun c => c == (32 : UInt8)).toArray⟩ : ByteArray).size = (t.data.toList.dropWhile fun c => c == (32 : UInt8)).length := by simp [ByteArray.size]
  omega

/-! the walk -/
def U (rs : List ByteArray) : ByteArray := ⟨(unrows rs).toArray⟩
theorem U_size (rs : List ByteArray) : (U rs).size = (unrows rs).length := by simp [U, ByteArray.size]
theorem cut_U (r : ByteArray) (rs : List ByteArray) (h : (10 : UInt8) ∉ r.data.toList) : cutStep (U (r :: rs)) = (r, U rs, true) := cut_row r rs h
theorem unrows_len (r : ByteArray) (rs : List ByteArray) : (unrows (r :: rs)).length = r.size + 1 + (unrows rs).length := by
  rw [unrows_cons, List.length_append, List.length_cons, Lib.size_eq]; omega
theorem on_pos {s : ByteArray} (h : onB s = true) : 1 ≤ s.size := by
  have := tail_trim s.data.toList
  have e := Lib.size_eq s
  unfold onB at h
  have h2 : tailN s.data.toList % 2 = 1 := by simpa using h
  omega
theorem joinGo_off {line last : ByteArray} (qs : List ByteArray) (h : onB last = false) : joinGo line last qs = some (line, qs) := by
  cases qs <;> simp [joinGo, h]
theorem joinGo_none {line last : ByteArray} (h : onB last = true) : joinGo line last [] = none := by simp [joinGo, h]
theorem joinGo_on {line last : ByteArray} (q : ByteArray) (qs : List ByteArray) (h : onB last = true) : joinGo line last (q :: qs) = joinGo (line.extract 0 (line.size - 1) ++ frontB q) (frontB q) qs := by simp [joinGo, h]
theorem linesGo_nil (k : Nat) (out : List S39) : linesGo k [] out = (out, 0) := by cases k <;> rfl
def after (k : Nat) (out : List S39) : Option (ByteArray × List ByteArray) → List S39 × Int
  | none => ([], 600)
  | some p => linesGo k p.2 (addLine out p.1)
theorem linesGo_cons (k : Nat) (r : ByteArray) (rs : List ByteArray) (out : List S39) : linesGo (k + 1) (r :: rs) out = after k out (joinGo r r rs) := by
  simp only [linesGo, after]
  first | done | (cases joinGo r r rs <;> rfl)
def szOf : Value → Nat
  | .string s => s.size
  | _ => 1048577
def Rel (w : World) (F : List S39 × Int) (v0 v4 : Value) (wr : World) : Prop :=
  ∃ (k : Nat) (rs : List ByteArray) (out : List S39), v0 = .string (U rs) ∧ NoNl rs ∧ rs.length ≤ k ∧ (unrows rs).length ≤ 2048 ∧ out.length + rs.length ≤ 2049 ∧ Kd.R k39 39 wr w.heap.size (fun _ => True) v4 out ∧ Below w.heap.size w wr ∧ linesGo k rs out = F
def RelIn (wo : World) (J : Option (ByteArray × List ByteArray)) (rs : List ByteArray) (v5 v6 v8 : Value) (wq : World) : Prop :=
  ∃ (line last : ByteArray) (qs : List ByteArray), v5 = .string line ∧ v6 = .string (U qs) ∧ v8 = .string last ∧ NoNl qs ∧ qs.length ≤ rs.length ∧ (unrows qs).length ≤ (unrows rs).length ∧ last.size ≤ line.size ∧ line.size + (unrows qs).length ≤ 2048 ∧ joinGo line last qs = J ∧ Drawn0 wo wq

theorem trim_size (t : ByteArray) : (trimBB t).size ≤ t.size := by
  have h1 := (List.dropWhile_sublist (l := Lib.trimRightB t.data.toList 32) (fun c => c == (32 : UInt8))).length_le
  have h2 := (List.dropWhile_sublist (l := t.data.toList.reverse) (fun c => c == (32 : UInt8))).length_le
  have e := Lib.size_eq t
  have e2 : (trimBB t).size = ((Lib.trimRightB t.data.toList 32).dropWhile fun c => c == (32 : UInt8)).length := by simp [trimBB, Lib.trimB, Lib.trimLeftB, ByteArray.size]
  have e3 : (Lib.trimRightB t.data.toList 32).length = (t.data.toList.reverse.dropWhile fun c => c == (32 : UInt8)).length := by simp [Lib.trimRightB]
  rw [List.length_reverse] at h2
  omega
theorem first_get (c : UInt8) (s : ByteArray) (h : 0 < s.size) : firstIs c s = ((s[0].toNat : Int) == (c.toNat : Int)) := by
  have hd := drop_cons s 0 h
  rw [List.drop_zero] at hd
  unfold firstIs
  rw [hd, List.head?_cons, Bool.eq_iff_iff]
  simp only [beq_iff_eq, Option.some.injEq]
  constructor
  · intro e; rw [e]
  · intro e; exact UInt8.toNat_inj.1 (by omega)

set_option maxHeartbeats 8000000 in
set_option maxRecDepth 100000 in
theorem lines_calls (s : ByteArray) (hs : s.size ≤ 9223372036854775807) (w : World) :
    Calls Tryd.prog 8 #[.string s] w fun e w' => ∃ v : Value, e = .returned (.tuple #[v, .int .i64 (linesCut s).2]) ∧ Kd.R k39 39 w' w.heap.size (fun _ => True) v (linesCut s).1 ∧ Below w.heap.size w w' := by
  have HD : Hid (linesCut s = if mayB s = true then linesGo (rowsOf s).length (rowsOf s) [] else ([], 600)) := rfl
  cases hm : mayB s
  · rw [hm, if_neg (by decide)] at HD
    have HM := Lib.hid hm
    clear hm
    go_enter Tryd.func8, Tryd.ntmps8
    go_wp2_with fail
    refine (may_calls s hs _).mono ?_
    rw [HM.out]
    rintro e w1 ⟨rfl, hb1⟩
    go_wp2_with fail
    go_ret2
    rw [HD.out]
    exact ⟨_, rfl, Kd.R_nil _ _ _ _ _, hb1⟩
  · rw [hm, if_pos rfl] at HD
    have hmm := hm
    unfold mayB at hmm
    simp only [Bool.and_eq_true, Bool.or_eq_true, decide_eq_true_eq] at hmm
    obtain ⟨h48, -, hend⟩ := hmm
    have hun := rows_unrows s hend
    have hU : s = U (rowsOf s) := by unfold U; rw [hun]
    have hnn := rows_noNl s
    have hlu : (unrows (rowsOf s)).length ≤ 2048 := by rw [hun, ← Lib.size_eq]; exact h48
    have hlr : (rowsOf s).length ≤ (unrows (rowsOf s)).length := by
      generalize rowsOf s = rs
      induction rs with
      | nil => simp
      | cons r rs ih => rw [unrows_len]; simp; omega
    obtain ⟨F, hF⟩ : ∃ F, linesGo (rowsOf s).length (rowsOf s) [] = F := ⟨_, rfl⟩
    rw [hF] at HD
    have HM := Lib.hid hm
    have HST := Aside0.mk (show (∃ rs : List ByteArray, Value.string s = .string (U rs) ∧ NoNl rs ∧ (unrows rs).length ≤ 2048 ∧ rs.length ≤ 2048 ∧ linesGo rs.length rs [] = F) from ⟨rowsOf s, by rw [← hU], hnn, hlu, by omega, hF⟩)
    clear hm hF hend hun hU hnn hlu hlr
    go_enter Tryd.func8, Tryd.ntmps8
    go_wp2_with fail
    refine (may_calls s hs _).mono ?_
    rw [HM.out]
    rintro e w1 ⟨rfl, hb1⟩
    have HB1 := Aside0.mk hb1
    clear hb1
    go_wp2_with fail
    go_loopw [0, 4] (fun v0 v4 wr => Rel w F v0 v4 wr) (fun v0 v4 _ => szOf v0)
    case atStart =>
      obtain ⟨rs, e, h1, h2, h3, h4⟩ := HST.out
      exact ⟨rs.length, rs, [], e, h1, Nat.le_refl _, h2, by simp; omega, Kd.R_nil _ _ _ _ _, HB1.out, h4⟩
    case round =>
      clear HST HB1 hs h48 HM
      obtain ⟨k, rs, out, rfl, hnn, hk, hlu, hlo, hR, hbel, hgo⟩ := hrel
      obtain ⟨A, c, hv4⟩ := Kd.R_slice hR
      subst hv4
      cases rs with
      | nil =>
        rw [linesGo_nil] at hgo
        have HF := Lib.hid hgo
        have HR := Aside0.mk hR
        have hn : (U []).toList = [] := size_nil (by rw [U_size]; simp [unrows])
        clear hgo hR
        go_wp2_with fail
        go_ret2
        rw [HD.out, ← HF.out]
        exact ⟨_, rfl, HR.out, hbel⟩
      | cons r rs =>
        obtain ⟨k, rfl⟩ : ∃ m, k = m + 1 := ⟨k - 1, by simp at hk; omega⟩
        rw [linesGo_cons] at hgo
        have hr : (10 : UInt8) ∉ r.data.toList := hnn r (by simp)
        have hnr : NoNl rs := fun q hq => hnn q (by simp [hq])
        have hul := unrows_len r rs
        have hsz := U_size (r :: rs)
        have hn : ((U (r :: rs)).toList == []) = false := beq_eq_false_iff_ne.2 (size_some (by omega))
        have HCUT := Lib.hid (cut_U r rs hr)
        obtain ⟨J, hJ⟩ : ∃ J, joinGo r r rs = J := ⟨_, rfl⟩
        rw [hJ] at hgo
        have HGO := Lib.hid hgo
        have HJ := Lib.hid hJ
        have HR := Aside0.mk hR
        have HNR := Aside0.mk hnr
        have hk2 : rs.length ≤ k := by simpa using hk
        have hlo2 : out.length + rs.length + 1 ≤ 2049 := by simp at hlo; omega
        have hlu2 : r.size + (unrows rs).length ≤ 2048 := by omega
        have hsl : (U (r :: rs)).size ≤ 9223372036854775807 := by omega
        have hdec : (unrows rs).length < (U (r :: rs)).size := by omega
        have HBW := Aside0.mk hbel
        clear hgo hJ hR hnr hnn hr hk hlo hlu hul hbel hsz
        generalize U (r :: rs) = V at *
        go_wp2_with fail
        refine (cut_calls V hsl _).mono ?_
        rw [HCUT.out]
        rintro e w2 ⟨rfl, n, rfl⟩
        have HR2 := Aside0.mk (Kd.R_drewN HR.out n)
        have HBW2 := Aside0.mk (pw_below_drewN HBW.out n)
        clear HR HBW HCUT
        generalize wr.drewN n = wo at *
        go_wp2_with fail
        go_loopw [5, 6, 8] (fun v5 v6 v8 wq => RelIn wo J rs v5 v6 v8 wq) (fun v5 v6 v8 _ => szOf v6)
        case atStart => exact ⟨r, r, rs, rfl, rfl, rfl, HNR.out, Nat.le_refl _, Nat.le_refl _, Nat.le_refl _, hlu2, HJ.out, Drawn0.refl _⟩
        case round =>
          clear HJ
          obtain ⟨line, last, qs, rfl, rfl, rfl, hnq, hql, hqu, hll, hlq, hj, ⟨m, hm⟩⟩ := hrel
          subst hm
          have HR3 := Aside0.mk (Kd.R_drewN HR2.out m)
          have HBW3 := Aside0.mk (pw_below_drewN HBW2.out m)
          have hD3 := Aside0.mk (show Drawn0 wo (wo.drewN m) from ⟨m, rfl⟩)
          clear HR2 HBW2
          generalize wo.drewN m = wq at *
          have HNQ := Aside0.mk hnq
          have HJ := Lib.hid hj
          clear hnq hj
          cases hon : onB last
          · have hJ : some (line, qs) = J := by rw [← HJ.out, joinGo_off qs hon]
            have HF := Lib.hid (show linesGo k qs (addLine out line) = F from by rw [← HGO.out, ← hJ]; rfl)
            have HON := Lib.hid hon
            obtain ⟨T, hT⟩ : ∃ T, trimBB line = T := ⟨_, rfl⟩
            have hTz := trim_size line
            have HA : Hid (addLine out line = if T.size = 0 ∨ firstIs 35 T = true then out else out ++ [⟨firstIs 32 line, T⟩]) := Lib.hid (by unfold addLine; rw [hT])
            rw [hT] at hTz
            have HT : Hid ((⟨(Lib.trimB line.data.toList 32).toArray⟩ : ByteArray) = T) := Lib.hid hT
            have hql2 : qs.length ≤ k := by omega
            have hqd : (U qs).size < V.size := by rw [U_size]; omega
            have hlu3 : (unrows qs).length ≤ 2048 := by omega
            clear hon hJ HJ HGO hT
            go_wp2_with fail
            refine (on_calls last (by omega) _).mono ?_
            rw [HON.out]
            rintro e w3 ⟨rfl, rfl⟩
            go_wp2_with fail
            refine (Tryd.strings_Trim_one line 32 (by decide) _ (by omega)).mono ?_
            rw [HT.out]
            rintro e w4 ⟨rfl, hw⟩
            have hd : ∃ n, w4 = wq.drewN n := by
              rcases hw with h | h
              · exact ⟨0, h⟩
              · exact ⟨1, h⟩
            obtain ⟨n4, rfl⟩ := hd
            have HR4 := Aside0.mk (Kd.R_drewN HR3.out n4)
            have HBW4 := Aside0.mk (pw_below_drewN HBW3.out n4)
            clear hw HR3 HBW3 hD3
            generalize wq.drewN n4 = wz at *
            by_cases h0 : T.size = 0
            · have hn0 : T.toList = [] := size_nil (by omega)
              rw [if_pos (Or.inl h0)] at HA
              go_wp2_with fail
              exact ⟨⟨k, qs, out, rfl, HNQ.out, hql2, hlu3, by omega, HR4.out, HBW4.out, by rw [← HA.out]; exact HF.out⟩, hqd⟩
            · have hn0 : (T.toList == []) = false := beq_eq_false_iff_ne.2 (size_some (by omega))
              have hT0 : 0 < T.size := by omega
              have hl0 : 0 < line.size := by omega
              have hf35 := first_get 35 T hT0
              have hf32 := Lib.hid (first_get 32 line hl0)
              cases hc : firstIs 35 T
              · rw [if_neg (by rw [hc]; simp [h0])] at HA
                rw [hc] at hf35
                have hb1 : ((T[0].toNat : Int) == 35) = false := hf35.symm
                have hb2 : ((T[0].toNat : Int) != 35) = true := by rw [bne, hb1]; rfl
                clear hf35 hc
                rw [hf32.out] at HA
                go_wp2_with (first | ((with_reducible refine gate_builtin (b := .append) (xs := #[.tmp 51, .tmp 57]) rfl ?_); at_builtin; refine Kd.R_append k39 (w0 := w) w.heap.size rfl (.tmp 51) (.tmp 57) 22 39 (.agg #[(.bool false), (.string ⟨#[]⟩)]) 24 rfl Tryd.underlying22 info39 rfl (by decide) (by omega) (.slice A out.length c) out (⟨((line[0].toNat : Int) == 32), T⟩ : S39) [.bool ((line[0].toNat : Int) == 32), .string T] (fun _ => True) (fun _ => False) rfl rfl (k39_mkM _ _ _ (⟨((line[0].toNat : Int) == 32), T⟩ : S39)) (fun _ hk => hk.elim) (fun _ _ => trivial) HR4.out HBW4.out HBW4.out.size (by omega) ?_; intro v5 w5 ho5 hb5 hg hat; clear hg hat))
                exact ⟨⟨k, qs, _, rfl, HNQ.out, hql2, hlu3, by rw [List.length_append, List.length_singleton]; omega, ho5, hb5, by rw [← HF.out, HA.out]; rfl⟩, hqd⟩
              · rw [if_pos (Or.inr hc)] at HA
                rw [hc] at hf35
                have hb1 : ((T[0].toNat : Int) == 35) = true := hf35.symm
                have hb2 : ((T[0].toNat : Int) != 35) = false := by rw [bne, hb1]; rfl
                clear hf35 hc
                go_wp2_with fail
                exact ⟨⟨k, qs, out, rfl, HNQ.out, hql2, hlu3, by omega, HR4.out, HBW4.out, by rw [← HA.out]; exact HF.out⟩, hqd⟩
          · have HON := Lib.hid hon
            have hlp := on_pos hon
            cases qs with
            | nil =>
              have HF := Lib.hid (show (([] : List S39), (600 : Int)) = F from by rw [← HGO.out, ← HJ.out, joinGo_none hon]; rfl)
              have hn1 : (U []).toList = [] := size_nil (by rw [U_size]; simp [unrows])
              clear hon
              go_wp2_with fail
              refine (on_calls last (by omega) _).mono ?_
              rw [HON.out]
              rintro e w3 ⟨rfl, rfl⟩
              go_wp2_with fail
              go_ret2
              rw [HD.out, ← HF.out]
              exact ⟨_, rfl, Kd.R_nil _ _ _ _ _, HBW3.out⟩
            | cons q qs =>
              have hJ : joinGo (line.extract 0 (line.size - 1) ++ frontB q) (frontB q) qs = J := by rw [← HJ.out, joinGo_on q qs hon]
              have hq10 : (10 : UInt8) ∉ q.data.toList := HNQ.out q (by simp)
              have hnq2 : NoNl qs := fun x hx => HNQ.out x (by simp [hx])
              have HCUT := Lib.hid (cut_U q qs hq10)
              have hul := unrows_len q qs
              have hsz := U_size (q :: qs)
              have hfz := front_size q
              have HFR : Hid ((⟨(Lib.trimLeftB q.data.toList 32).toArray⟩ : ByteArray) = frontB q) := rfl
              have hn1 : ((U (q :: qs)).toList == []) = false := beq_eq_false_iff_ne.2 (size_some (by omega))
              have hdec2 : (U qs).size < (U (q :: qs)).size := by rw [U_size]; omega
              have HJ2 := Lib.hid hJ
              have HNQ2 := Aside0.mk hnq2
              have hql2 : qs.length ≤ rs.length := by simp at hql; omega
              have hqu2 : (unrows qs).length ≤ (unrows rs).length := by omega
              have hlq2 : line.size + q.size + (unrows qs).length + 1 ≤ 2048 := by omega
              have hvs : (U (q :: qs)).size ≤ 9223372036854775807 := by omega
              clear hon hJ HJ hq10 hnq2 HNQ hul hsz hql hqu hlq
              generalize frontB q = fq at *
              generalize U (q :: qs) = V2 at *
              have hl1 : (1 : Int) ≤ (line.size : Int) := by omega
              go_wp2_with fail
              refine (on_calls last (by omega) _).mono ?_
              rw [HON.out]
              rintro e w3 ⟨rfl, rfl⟩
              go_wp2_with fail
              refine (cut_calls V2 hvs _).mono ?_
              rw [HCUT.out]
              rintro e w4 ⟨rfl, n, rfl⟩
              go_wp2_with fail
              refine (Tryd.strings_TrimLeft_one q 32 (by decide) _).mono ?_
              rw [HFR.out]
              rintro e w5 ⟨rfl, hw5⟩
              rw [hw5]
              clear hw5
              have hcz : (line.extract 0 (line.size - 1) ++ fq).size = line.size - 1 + fq.size := by rw [ByteArray.size_append, ByteArray.size_extract]; omega
              have HD5 := Aside0.mk (show Drawn0 wo (wq.drewN n) from hD3.out.step n)
              go_wp2_with fail
              exact ⟨⟨_, _, qs, rfl, rfl, rfl, HNQ2.out, hql2, hqu2, by rw [hcz]; omega, by rw [hcz]; omega, HJ2.out, HD5.out⟩, hdec2⟩
theorem lines_Cut.calls (a0 : ByteArray) (r1 : List S39) (r2 : Int) (w : World) (h : lines_Cut.f a0 = some (r1, r2)) :
    Calls Tryd.prog 8 #[.string a0] w fun e w' => ∃ v0_ : Value, e = .returned (.tuple #[v0_, .int .i64 r2]) ∧ Kd.R k39 39 w' w.heap.size (fun _ => True) v0_ r1 ∧ Below w.heap.size w w' := by
  unfold lines_Cut.f at h
  split at h
  · rename_i hs
    injection h with h
    have := lines_calls a0 hs w
    rw [h] at this
    exact this
  · exact absurd h (by simp)
end Go.Proofs.YtbkgcdjbkoeejaaDoor.Print
