import Derived.Test.YtbkgcdjbkoeejaaPCruciblelaw5Awake
import Derived.Test.YtbkgcdjbkoeejaaQCut
/- Plain laws of a text's value: awake; a scope of one name. -/
namespace Go.Proofs.Ytbkgcdjbkoeejaa.Print
open Go.RowKit Go.Lib Go.Proofs.YtbkgcdjbkoeejaaW.PrintWords Go.Proofs.YtbkgcdjbkoeejaaW.PrintLast

theorem awake5 (k : Nat) (hk : 300 ≤ k) : cruciblelaw5_awake.f k = some true := by
  have h : cruciblelaw5_awake.f 300 = some true := by decide +kernel
  exact at_rounds (g := fun k => cruciblelaw5_awake.f k) (fun k => cruciblelaw5_awake.mono k) hk h

theorem plain_mono {s : ByteArray} {m n : Int} (h : plainB s m = true) (hm : m ≤ n) : plainB s n = true := by
  unfold plainB at h ⊢
  simp only [Bool.and_eq_true, decide_eq_true_eq] at h ⊢
  exact ⟨h.1, by omega⟩
theorem plain_size {s : ByteArray} {m : Int} (h : plainB s m = true) : (s.size : Int) ≤ m := by
  unfold plainB at h
  simp only [Bool.and_eq_true, decide_eq_true_eq] at h
  exact h.2
theorem long_one (nm t : ByteArray) (h : t.size ≤ 9223372036854775807) : longOk [⟨nm, t⟩] = true := by
  unfold longOk
  simp only [List.all_cons, List.all_nil, Bool.and_true, decide_eq_true_eq]
  exact h
theorem find_one (nm t s : ByteArray) : findS [⟨nm, t⟩] s = if nm.toList = s.toList then 0 else -1 := by
  unfold findS findFrom
  by_cases h : nm.toList = s.toList
  · rw [if_pos (beq_iff_eq.2 h), if_pos h]; rfl
  · rw [if_neg (fun e => h (beq_iff_eq.1 e)), if_neg h]; rfl
theorem may_one {nm t : ByteArray} (hn : nameMay nm = true) (ht : plainB t 256 = true) : scopeMay [⟨nm, t⟩] = true := by
  refine (may_iff _).2 ⟨fun k hk => ?_, by simp⟩
  obtain rfl : k = 0 := by simp at hk; omega
  exact ⟨hn, ht, fun j hj => absurd hj (by omega)⟩
theorem get_one {nm t : ByteArray} (s : ByteArray) (hn : nameMay nm = true) (ht : plainB t 256 = true) : scopeGet [⟨nm, t⟩] s = if nm.toList = s.toList then t else ⟨#[]⟩ := by
  unfold scopeGet
  rw [find_one, may_one hn ht]
  by_cases h : nm.toList = s.toList
  · rw [if_pos h, if_pos h, if_pos ⟨by omega, rfl⟩]; rfl
  · rw [if_neg h, if_neg h, if_neg (fun e => absurd e.1 (by omega))]
theorem orB_empty (b : ByteArray) : orB ⟨#[]⟩ b = b := by unfold orB; rw [if_neg (by decide)]
theorem orB_right (a : ByteArray) : orB a ⟨#[]⟩ = a := by
  unfold orB
  split
  · rfl
  · rename_i h
    exact (ByteArray.ext (Array.eq_empty_of_size_eq_zero (by have : a.data.size = a.size := rfl; omega))).symm
theorem eval_f {s : ByteArray} {l1 l2 : List S34} (h : s.size ≤ 9223372036854775807) (h1 : longOk l1 = true) (h2 : longOk l2 = true) : eval_Of.f s l1 l2 = some (evalOf s l1 l2) := by
  unfold eval_Of.f
  rw [if_pos ⟨h, h1, h2⟩]
/-- A value, out of the pieces. -/
theorem eval_of {s : ByteArray} {ps : List S49} {l1 l2 : List S34} (hc : cutOf s = (ps, 0)) (h1 : scopeMay l1 = true) (h2 : scopeMay l2 = true) :
    evalOf s l1 l2 = if (evalOut l1 l2 ps).length ≤ 256 then (⟨(evalOut l1 l2 ps).toArray⟩, 0) else (⟨#[]⟩, 501) := by
  unfold evalOf
  rw [hc, if_pos ⟨rfl, h1, h2⟩]
end Go.Proofs.Ytbkgcdjbkoeejaa.Print

/- Laws of the reference's cutting: how it goes on behind what is cut. -/
namespace Go.Proofs.Ytbkgcdjbkoeejaa.Print
open Go.RowKit Go.Lib Go.Shelf Go.Proofs.YtbkgcdjbkoeejaaW.PrintWords Go.Proofs.YtbkgcdjbkoeejaaW.PrintLast Go.Proofs.YtbkgcdjbkoeejaaW.PrintMore

def refAll (s : ByteArray) (out : List S49) : List S49 × Int := refGo s.size s out
theorem go_all (j : Nat) (s : ByteArray) (out : List S49) (h : s.size ≤ j) : refGo j s out = refAll s out := by
  unfold refAll
  rw [← cut_ref s.size s.size j s out (by omega) (by omega) h, ← cut_ref s.size s.size s.size s out (by omega) (by omega) (by omega)]
theorem e_end (s : ByteArray) (out : List S49) (h : s.size = 0) : refAll s out = (out, 0) := refGo_end rfl (by omega)
theorem e_text (s : ByteArray) (out : List S49) (h : 1 ≤ s.size) (hc : s[0] ≠ 36) : refAll s out = refAll (s.extract 1 s.size) (addText out ⟨#[s[0]]⟩) := by
  rw [← go_all (s.size + 1) s out (by omega), ← refGo_text (k := s.size) rfl h hc]
  exact go_all _ _ _ (by simp)
theorem e_lone (s : ByteArray) (out : List S49) (h : s.size = 1) (hc : s[0] = 36) : refAll s out = ([], 300) := by
  rw [← go_all (s.size + 1) s out (by omega)]
  exact refGo_lone (k := s.size) rfl (by omega) hc (by omega)
theorem e_sign (s : ByteArray) (out : List S49) (h : 2 ≤ s.size) (hc : s[0] = 36) (hs : sgn s[1] = true) : refAll s out = refAll (s.extract 2 s.size) (addText out ⟨#[s[1]]⟩) := by
  rw [← go_all (s.size + 1) s out (by omega), ← refGo_sign (k := s.size) rfl h hc hs]
  exact go_all _ _ _ (by simp)
theorem e_var (s : ByteArray) (out : List S49) (h : 2 ≤ s.size) (hc : s[0] = 36) (hs : sgn s[1] = false) (ho : okVar (s.extract 1 s.size) = true) :
    refAll s out = refAll (s.extract (1 + varEnd (s.extract 1 s.size)) s.size) (out ++ [⟨true, wordOf (braceOf (s.extract 1 s.size))⟩]) := by
  rw [← go_all (s.size + 1) s out (by omega), ← (refGo_var (k := s.size) rfl h hc hs).1 ho]
  exact go_all _ _ _ (by simp)
theorem e_bad (s : ByteArray) (out : List S49) (h : 2 ≤ s.size) (hc : s[0] = 36) (hs : sgn s[1] = false) (ho : okVar (s.extract 1 s.size) = false) : refAll s out = ([], 300) := by
  rw [← go_all (s.size + 1) s out (by omega)]
  exact (refGo_var (k := s.size) rfl h hc hs).2 ho
theorem ref_ind {P : ByteArray → Prop}
    (hend : ∀ s, s.size = 0 → P s)
    (htext : ∀ s, (h : 1 ≤ s.size) → s[0] ≠ 36 → P (s.extract 1 s.size) → P s)
    (hlone : ∀ s, (h : s.size = 1) → s[0] = 36 → P s)
    (hsign : ∀ s, (h : 2 ≤ s.size) → s[0] = 36 → sgn s[1] = true → P (s.extract 2 s.size) → P s)
    (hvar : ∀ s, (h : 2 ≤ s.size) → s[0] = 36 → sgn s[1] = false → okVar (s.extract 1 s.size) = true → P (s.extract (1 + varEnd (s.extract 1 s.size)) s.size) → P s)
    (hbad : ∀ s, (h : 2 ≤ s.size) → s[0] = 36 → sgn s[1] = false → okVar (s.extract 1 s.size) = false → P s) : ∀ s, P s := by
  have key : ∀ (m : Nat) (s : ByteArray), s.size ≤ m → P s := by
    intro m
    induction m with
    | zero => intro s h; exact hend s (by omega)
    | succ m ih =>
      intro s h
      by_cases h0 : s.size = 0
      · exact hend s h0
      · by_cases hc : s[0] = 36
        · by_cases h2 : 2 ≤ s.size
          · cases hs : sgn s[1]
            · cases ho : okVar (s.extract 1 s.size)
              · exact hbad s h2 hc hs ho
              · exact hvar s h2 hc hs ho (ih _ (by simp; omega))
            · exact hsign s h2 hc hs (ih _ (by simp; omega))
          · exact hlone s (by omega) hc
        · exact htext s (by omega) hc (ih _ (by simp; omega))
  exact fun s => key s.size s (Nat.le_refl _)

theorem all_flag (s : ByteArray) : ∀ out, refAll s out = ([], 300) ∨ (refAll s out).2 = 0 := by
  refine ref_ind (P := fun s => ∀ out, refAll s out = ([], 300) ∨ (refAll s out).2 = 0) ?_ ?_ ?_ ?_ ?_ ?_ s
  · intro s h out; rw [e_end s out h]; exact Or.inr rfl
  · intro s h hc ih out; rw [e_text s out h hc]; exact ih _
  · intro s h hc out; exact Or.inl (e_lone s out h hc)
  · intro s h hc hs ih out; rw [e_sign s out h hc hs]; exact ih _
  · intro s h hc hs ho ih out; rw [e_var s out h hc hs ho]; exact ih _
  · intro s h hc hs ho out; exact Or.inl (e_bad s out h hc hs ho)
theorem all_same (s : ByteArray) : ∀ out out', (refAll s out).2 = (refAll s out').2 := by
  refine ref_ind (P := fun s => ∀ out out', (refAll s out).2 = (refAll s out').2) ?_ ?_ ?_ ?_ ?_ ?_ s
  · intro s h out out'; rw [e_end s out h, e_end s out' h]
  · intro s h hc ih out out'; rw [e_text s out h hc, e_text s out' h hc]; exact ih _ _
  · intro s h hc out out'; rw [e_lone s out h hc, e_lone s out' h hc]
  · intro s h hc hs ih out out'; rw [e_sign s out h hc hs, e_sign s out' h hc hs]; exact ih _ _
  · intro s h hc hs ho ih out out'; rw [e_var s out h hc hs ho, e_var s out' h hc hs ho]; exact ih _ _
  · intro s h hc hs ho out out'; rw [e_bad s out h hc hs ho, e_bad s out' h hc hs ho]

theorem addText_ne (l : List S49) (t : ByteArray) : addText l t ≠ [] := by
  unfold addText
  split
  · rename_i h
    intro e
    have := congrArg List.length e
    simp at this
    subst this
    simp at h
  · simp
/-- A list's last, written out. -/
theorem addText_snoc (l : List S49) (x : S49) (t : ByteArray) : addText (l ++ [x]) t = if x.f0 = false then l ++ [⟨false, x.f1 ++ t⟩] else l ++ [x, ⟨false, t⟩] := by
  unfold addText
  rw [rd57_last]
  by_cases h : x.f0 = false
  · rw [if_pos ⟨by simp, h⟩, if_pos h, h]
    simp
  · rw [if_neg (fun e => h e.2), if_neg h]
    simp
theorem addText_nil (t : ByteArray) : addText [] t = [⟨false, t⟩] := by
  unfold addText
  rw [if_neg (by simp)]
  rfl
theorem snoc_of (l : List S49) (h : l ≠ []) : ∃ a x, l = a ++ [x] := ⟨l.dropLast, l.getLast h, (List.dropLast_concat_getLast h).symm⟩
theorem addText_pre (pre l : List S49) (t : ByteArray) (h : l ≠ []) : addText (pre ++ l) t = pre ++ addText l t := by
  obtain ⟨a, x, rfl⟩ := snoc_of l h
  rw [← List.append_assoc, addText_snoc, addText_snoc]
  split <;> simp
theorem all_pre (s : ByteArray) : ∀ pre l, l ≠ [] → refAll s (pre ++ l) = if (refAll s l).2 = 0 then (pre ++ (refAll s l).1, 0) else ([], 300) := by
  refine ref_ind (P := fun s => ∀ pre l, l ≠ [] → refAll s (pre ++ l) = if (refAll s l).2 = 0 then (pre ++ (refAll s l).1, 0) else ([], 300)) ?_ ?_ ?_ ?_ ?_ ?_ s
  · intro s h pre l hl; rw [e_end s _ h, e_end s _ h]; rfl
  · intro s h hc ih pre l hl; rw [e_text s _ h hc, e_text s l h hc, addText_pre pre l _ hl]; exact ih _ _ (addText_ne _ _)
  · intro s h hc pre l hl; rw [e_lone s _ h hc, e_lone s l h hc]; rfl
  · intro s h hc hs ih pre l hl; rw [e_sign s _ h hc hs, e_sign s l h hc hs, addText_pre pre l _ hl]; exact ih _ _ (addText_ne _ _)
  · intro s h hc hs ho ih pre l hl; rw [e_var s _ h hc hs ho, e_var s l h hc hs ho, List.append_assoc]; exact ih _ _ (by simp)
  · intro s h hc hs ho pre l hl; rw [e_bad s _ h hc hs ho, e_bad s l h hc hs ho]; rfl

/-- A text ahead of the first piece. -/
def pfx (L : ByteArray) : List S49 → List S49
  | [] => []
  | x :: xs => ⟨x.f0, L ++ x.f1⟩ :: xs
theorem pfx_ne (L : ByteArray) (l : List S49) (h : l ≠ []) : pfx L l ≠ [] := by
  cases l with
  | nil => exact absurd rfl h
  | cons x xs => simp [pfx]
theorem pfx_app (L : ByteArray) (l m : List S49) (h : l ≠ []) : pfx L (l ++ m) = pfx L l ++ m := by
  cases l with
  | nil => exact absurd rfl h
  | cons x xs => simp [pfx]
theorem addText_pfx (L : ByteArray) (l : List S49) (t : ByteArray) (h : l ≠ []) : addText (pfx L l) t = pfx L (addText l t) := by
  obtain ⟨a, x, rfl⟩ := snoc_of l h
  cases a with
  | nil =>
    have e : pfx L ([] ++ [x]) = [] ++ [⟨x.f0, L ++ x.f1⟩] := rfl
    rw [e, addText_snoc, addText_snoc]
    simp only []
    split
    · rename_i hx
      simp [pfx, ByteArray.append_assoc]
    · simp [pfx]
  | cons y ys =>
    have e : pfx L (y :: ys ++ [x]) = (⟨y.f0, L ++ y.f1⟩ :: ys) ++ [x] := rfl
    rw [e, addText_snoc, addText_snoc]
    split <;> rfl
theorem all_pfx (s : ByteArray) : ∀ L l, l ≠ [] → refAll s (pfx L l) = (pfx L (refAll s l).1, (refAll s l).2) := by
  refine ref_ind (P := fun s => ∀ L l, l ≠ [] → refAll s (pfx L l) = (pfx L (refAll s l).1, (refAll s l).2)) ?_ ?_ ?_ ?_ ?_ ?_ s
  · intro s h L l hl; rw [e_end s _ h, e_end s _ h]
  · intro s h hc ih L l hl; rw [e_text s _ h hc, e_text s l h hc, addText_pfx L l _ hl]; exact ih _ _ (addText_ne _ _)
  · intro s h hc L l hl; rw [e_lone s _ h hc, e_lone s l h hc]; rfl
  · intro s h hc hs ih L l hl; rw [e_sign s _ h hc hs, e_sign s l h hc hs, addText_pfx L l _ hl]; exact ih _ _ (addText_ne _ _)
  · intro s h hc hs ho ih L l hl; rw [e_var s _ h hc hs ho, e_var s l h hc hs ho, ← pfx_app L l _ hl]; exact ih _ _ (by simp)
  · intro s h hc hs ho L l hl; rw [e_bad s _ h hc hs ho, e_bad s l h hc hs ho]; rfl

def headText (l : List S49) : Prop := ∃ y ys, l = y :: ys ∧ y.f0 = false
theorem headText_add (l : List S49) (t : ByteArray) (h : headText l) : headText (addText l t) := by
  obtain ⟨y, ys, rfl, hy⟩ := h
  by_cases he : ys = []
  · subst he
    have := addText_snoc [] y t
    rw [List.nil_append] at this
    rw [this, if_pos hy]
    exact ⟨_, _, rfl, rfl⟩
  · rw [show y :: ys = [y] ++ ys from rfl, addText_pre [y] ys t he]
    exact ⟨_, _, rfl, hy⟩
theorem all_head (s : ByteArray) : ∀ l, headText l → (refAll s l).2 = 0 → headText (refAll s l).1 := by
  refine ref_ind (P := fun s => ∀ l, headText l → (refAll s l).2 = 0 → headText (refAll s l).1) ?_ ?_ ?_ ?_ ?_ ?_ s
  · intro s h l hl; rw [e_end s _ h]; exact fun _ => hl
  · intro s h hc ih l hl; rw [e_text s l h hc]; exact ih _ (headText_add _ _ hl)
  · intro s h hc l hl; rw [e_lone s l h hc]; intro e; exact absurd e (by decide)
  · intro s h hc hs ih l hl; rw [e_sign s l h hc hs]; exact ih _ (headText_add _ _ hl)
  · intro s h hc hs ho ih l hl; rw [e_var s l h hc hs ho]; obtain ⟨y, ys, rfl, hy⟩ := hl; exact ih _ ⟨_, _, rfl, hy⟩
  · intro s h hc hs ho l hl; rw [e_bad s l h hc hs ho]; intro e; exact absurd e (by decide)

theorem len_pfx (L : ByteArray) (l : List S49) : (pfx L l).length = l.length := by cases l <;> rfl
theorem all_len_text (s : ByteArray) (z : S49) (hz : z.f0 = false) (t : ByteArray) : (refAll s (addText [] t)).1.length ≤ (refAll s (addText [z] t)).1.length := by
  have e : addText [z] t = pfx z.f1 (addText [] t) := by
    have := addText_snoc [] z t
    rw [List.nil_append] at this
    rw [this, if_pos hz, addText_nil]
    rfl
  rw [e, all_pfx s _ _ (addText_ne _ _), len_pfx]
  exact Nat.le_refl _
theorem all_len (s : ByteArray) (z : S49) (hz : z.f0 = false) : (refAll s []).1.length ≤ (refAll s [z]).1.length := by
  refine ref_ind (P := fun s => (refAll s []).1.length ≤ (refAll s [z]).1.length) ?_ ?_ ?_ ?_ ?_ ?_ s
  · intro s h; rw [e_end s _ h]; simp
  · intro s h hc _; rw [e_text s _ h hc, e_text s [z] h hc]; exact all_len_text _ z hz _
  · intro s h hc; rw [e_lone s _ h hc]; simp
  · intro s h hc hs _; rw [e_sign s _ h hc hs, e_sign s [z] h hc hs]; exact all_len_text _ z hz _
  · intro s h hc hs ho _
    rw [e_var s _ h hc hs ho, e_var s [z] h hc hs ho, all_pre _ [z] _ (by simp), List.nil_append]
    split
    · simp
    · rename_i hf
      rcases all_flag (s.extract (1 + varEnd (s.extract 1 s.size)) s.size) [⟨true, wordOf (braceOf (s.extract 1 s.size))⟩] with e | e
      · rw [e]; simp
      · exact absurd e hf
  · intro s h hc hs ho; rw [e_bad s _ h hc hs ho]; simp

/-! what is cut, and behind it a $ -/
theorem app_ext (s u : ByteArray) (a : Nat) (h : a ≤ s.size) : (s ++ u).extract a (s ++ u).size = s.extract a s.size ++ u := by
  have h1 : s.data.extract a (s.size + u.size) = s.data.extract a s.size := by
    apply Array.ext
    · simp
    · intro i _ _
      simp
  have h2 : u.data.extract (a - s.size) u.size = u.data := by
    rw [show a - s.size = 0 by omega]
    exact Array.extract_size
  apply ByteArray.ext
  simp [ByteArray.data_extract, ByteArray.data_append, ByteArray.size_append]
  rw [h1, h2]
theorem app_first (s u : ByteArray) (n : Nat) (h : n ≤ s.size) : (s ++ u).extract 0 n = s.extract 0 n := by
  have h2 : u.data.extract (0 - s.size) (n - s.size) = #[] := by
    apply Array.eq_empty_of_size_eq_zero
    simp
    omega
  apply ByteArray.ext
  rw [ByteArray.data_extract, ByteArray.data_extract, ByteArray.data_append, Array.extract_append]
  rw [show s.data.size = s.size from rfl, h2, Array.append_empty]
theorem app_get (s u : ByteArray) (i : Nat) (h : i < s.size) (h' : i < (s ++ u).size) : (s ++ u)[i] = s[i] := by
  show (s ++ u).data[i] = s.data[i]
  simp only [ByteArray.data_append]
  exact Array.getElem_append_left h
theorem varLen_app (Z u : ByteArray) (hu : 1 ≤ u.size) (hv : varB u[0].toNat = false) : varLen (Z ++ u) = varLen Z := by
  obtain ⟨t, ht⟩ := data_cons u hu
  unfold varLen
  rw [ByteArray.data_append, Array.toList_append, List.takeWhile_append]
  split
  · rename_i e
    rw [ht, List.takeWhile_cons, if_neg (by rw [hv]; decide), List.append_nil, e]
  · rfl
theorem hasP_app (q u : ByteArray) (c : UInt8) (h : 1 ≤ q.size) : hasP (q ++ u) ⟨#[c]⟩ = hasP q ⟨#[c]⟩ := by
  rw [hasP_one, hasP_one, dif_pos h, dif_pos (by rw [ByteArray.size_append]; omega), app_get q u 0 (by omega)]
theorem brace_app (q u : ByteArray) (h : 1 ≤ q.size) : braceOf (q ++ u) = braceOf q ++ u := by
  unfold braceOf
  rw [hasP_app q u _ h]
  split
  · exact app_ext q u 1 h
  · rfl
theorem var_app (q u : ByteArray) (h : 1 ≤ q.size) (hu : 1 ≤ u.size) (hv : varB u[0].toNat = false) (ho : okVar q = true) :
    okVar (q ++ u) = true ∧ varEnd (q ++ u) = varEnd q ∧ wordOf (braceOf (q ++ u)) = wordOf (braceOf q) := by
  have hb := brace_app q u h
  have hl := varLen_app (braceOf q) u hu hv
  have hr : restOf (braceOf q ++ u) = restOf (braceOf q) ++ u := by
    unfold restOf
    rw [hl]
    exact app_ext _ u _ (varLen_le _)
  refine ⟨?_, ?_, ?_⟩
  · unfold okVar at ho ⊢
    rw [hb, hl, hr, hasP_app q u _ h]
    simp only [Bool.and_eq_true, Bool.or_eq_true] at ho ⊢
    refine ⟨ho.1, ho.2.1, ho.2.2.imp id fun hp => ?_⟩
    have h1 : 1 ≤ (restOf (braceOf q)).size := by
      rw [hasP_one] at hp
      split at hp
      · assumption
      · exact absurd hp (by decide)
    rw [hasP_app _ u _ h1]
    exact hp
  · unfold varEnd
    rw [hb, hl, hasP_app q u _ h]
  · unfold wordOf
    rw [hb, hl, app_first _ u _ (varLen_le _)]
theorem varEnd_le (s : ByteArray) (h : 1 ≤ s.size) (ho : okVar (s.extract 1 s.size) = true) : 1 + varEnd (s.extract 1 s.size) ≤ s.size := by
  have hq : (s.extract 1 s.size).size + 1 = s.size := by simp; omega
  generalize s.extract 1 s.size = q at *
  have hl := varLen_le (braceOf q)
  unfold okVar at ho
  simp only [Bool.and_eq_true, Bool.or_eq_true, Bool.not_eq_true'] at ho
  unfold varEnd
  by_cases hb : hasP q ⟨#[123]⟩ = true
  · have h1 : 1 ≤ q.size := by
      rw [hasP_one] at hb
      split at hb
      · assumption
      · exact absurd hb (by decide)
    have hbs : (braceOf q).size + 1 = q.size := by
      unfold braceOf
      rw [if_pos hb]
      simp
      omega
    rcases ho.2.2 with hf | hp
    · rw [hb] at hf; exact absurd hf (by decide)
    · rw [if_pos hb]
      rw [hasP_one] at hp
      split at hp
      · rename_i hr
        have : (restOf (braceOf q)).size = (braceOf q).size - varLen (braceOf q) := by simp [restOf]
        omega
      · exact absurd hp (by decide)
  · rw [if_neg hb]
    have hbs : braceOf q = q := by unfold braceOf; rw [if_neg hb]
    rw [hbs] at hl ⊢
    omega
theorem all_app (s u : ByteArray) (hu : 1 ≤ u.size) (hc : u[0] = 36) : ∀ out, (refAll s out).2 = 0 → refAll (s ++ u) out = refAll u (refAll s out).1 := by
  have hv : varB u[0].toNat = false := by rw [hc]; decide
  have z : ∀ {x : List S49 × Int}, x = ([], 300) → x.2 = 0 → False := fun h e => by rw [h] at e; exact absurd e (by decide)
  refine ref_ind (P := fun s => ∀ out, (refAll s out).2 = 0 → refAll (s ++ u) out = refAll u (refAll s out).1) ?_ ?_ ?_ ?_ ?_ ?_ s
  · intro s h out _
    have hs : s = ByteArray.empty := ByteArray.ext (Array.eq_empty_of_size_eq_zero h)
    rw [e_end s out h, hs, ByteArray.empty_append]
  · intro s h hs ih out hz
    rw [e_text s out h hs] at hz ⊢
    rw [e_text (s ++ u) out (by rw [ByteArray.size_append]; omega) (by rw [app_get s u 0 (by omega)]; exact hs), app_ext s u 1 h, app_get s u 0 (by omega)]
    exact ih _ hz
  · intro s h hs out hz; exact (z (e_lone s out h hs) hz).elim
  · intro s h hs hg ih out hz
    rw [e_sign s out h hs hg] at hz ⊢
    rw [e_sign (s ++ u) out (by rw [ByteArray.size_append]; omega) (by rw [app_get s u 0 (by omega)]; exact hs) (by rw [app_get s u 1 (by omega)]; exact hg), app_ext s u 2 h, app_get s u 1 (by omega)]
    exact ih _ hz
  · intro s h hs hg ho ih out hz
    rw [e_var s out h hs hg ho] at hz ⊢
    have hq : 1 ≤ (s.extract 1 s.size).size := by simp; omega
    obtain ⟨a, b, c⟩ := var_app (s.extract 1 s.size) u hq hu hv ho
    have he : 1 + varEnd (s.extract 1 s.size) ≤ s.size := varEnd_le s (by omega) ho
    rw [e_var (s ++ u) out (by rw [ByteArray.size_append]; omega) (by rw [app_get s u 0 (by omega)]; exact hs) (by rw [app_get s u 1 (by omega)]; exact hg) (by rw [app_ext s u 1 (by omega)]; exact a), app_ext s u 1 (by omega), b, c, app_ext s u _ he]
    exact ih _ hz
  · intro s h hs hg ho out hz; exact (z (e_bad s out h hs hg ho) hz).elim
/-- The reference's answer at a plain text. -/
theorem refOf_all (s : ByteArray) (h : plainB s 2048 = true) : refOf s = refAll s [] := by
  unfold refOf
  rw [if_pos h]
  rfl
theorem refOf_ok (s : ByteArray) (h : (refOf s).2 = 0) : plainL s.data.toList = true ∧ (refAll s []).2 = 0 := by
  unfold refOf at h
  split at h
  · rename_i hp
    refine ⟨?_, h⟩
    unfold plainB at hp
    rw [Bool.and_eq_true] at hp
    exact hp.1
  · exact absurd h (by decide)
theorem plain_app (s t : ByteArray) : plainL (s ++ t).data.toList = (plainL s.data.toList && plainL t.data.toList) := by
  unfold plainL
  rw [ByteArray.data_append, Array.toList_append, List.all_append]
end Go.Proofs.Ytbkgcdjbkoeejaa.Print

/- Plain laws of a text's value: what stands behind it; two texts; a text whose signs are doubled. -/
namespace Go.Proofs.Ytbkgcdjbkoeejaa.Print
open Go.RowKit Go.Lib Go.Proofs.YtbkgcdjbkoeejaaW.PrintWords Go.Proofs.YtbkgcdjbkoeejaaW.PrintLast

theorem out_app (l1 l2 : List S34) (a b : List S49) : evalOut l1 l2 (a ++ b) = evalOut l1 l2 a ++ evalOut l1 l2 b := by
  unfold evalOut
  rw [List.flatMap_append]
theorem out_one (l1 l2 : List S34) (x : S49) : evalOut l1 l2 [x] = (pieceVal l1 l2 x).data.toList := by
  unfold evalOut
  simp
theorem val_text (l1 l2 : List S34) (t : ByteArray) : pieceVal l1 l2 ⟨false, t⟩ = t := rfl
theorem val_addText (l1 l2 : List S34) (out : List S49) (t : ByteArray) : evalOut l1 l2 (addText out t) = evalOut l1 l2 out ++ t.data.toList := by
  by_cases h : out = []
  · subst h
    rw [addText_nil, out_one, val_text]
    rfl
  · obtain ⟨a, x, rfl⟩ := snoc_of out h
    rw [addText_snoc]
    split
    · rename_i hx
      obtain ⟨b, y⟩ := x
      obtain rfl : b = false := hx
      rw [out_app, out_app, out_one, out_one, val_text, val_text, ByteArray.data_append, Array.toList_append, List.append_assoc]
    · rw [show a ++ [x, (⟨false, t⟩ : S49)] = (a ++ [x]) ++ [⟨false, t⟩] by simp, out_app, out_one, val_text]
def val (l1 l2 : List S34) (s : ByteArray) : List UInt8 := evalOut l1 l2 (refAll s []).1
theorem val_all (l1 l2 : List S34) (s : ByteArray) : ∀ out, (refAll s out).2 = 0 → evalOut l1 l2 (refAll s out).1 = evalOut l1 l2 out ++ val l1 l2 s := by
  refine ref_ind (P := fun s => ∀ out, (refAll s out).2 = 0 → evalOut l1 l2 (refAll s out).1 = evalOut l1 l2 out ++ val l1 l2 s) ?_ ?_ ?_ ?_ ?_ ?_ s
  · intro s h out _
    unfold val
    rw [e_end s out h, e_end s [] h]
    simp [evalOut]
  · intro s h hc ih out hz
    unfold val
    have hz0 : (refAll s []).2 = 0 := by rw [all_same s [] out]; exact hz
    rw [e_text s out h hc] at hz ⊢
    rw [e_text s [] h hc] at hz0 ⊢
    rw [ih _ hz, ih _ hz0, val_addText, val_addText]
    simp [evalOut]
  · intro s h hc out hz
    rw [e_lone s out h hc] at hz
    exact absurd hz (by decide)
  · intro s h hc hs ih out hz
    unfold val
    have hz0 : (refAll s []).2 = 0 := by rw [all_same s [] out]; exact hz
    rw [e_sign s out h hc hs] at hz ⊢
    rw [e_sign s [] h hc hs] at hz0 ⊢
    rw [ih _ hz, ih _ hz0, val_addText, val_addText]
    simp [evalOut]
  · intro s h hc hs ho ih out hz
    unfold val
    have hz0 : (refAll s []).2 = 0 := by rw [all_same s [] out]; exact hz
    rw [e_var s out h hc hs ho] at hz ⊢
    rw [e_var s [] h hc hs ho] at hz0 ⊢
    rw [ih _ hz, ih _ hz0, out_app]
    simp [evalOut]
  · intro s h hc hs ho out hz
    rw [e_bad s out h hc hs ho] at hz
    exact absurd hz (by decide)

/-! two texts -/
def sb : ByteArray := ⟨#[36, 32]⟩
theorem sb_all (t : ByteArray) (out : List S49) : refAll (sb ++ t) out = refAll t (addText out ⟨#[32]⟩) := by
  have hs : (sb ++ t).size = 2 + t.size := by rw [ByteArray.size_append]; rfl
  have h0 : (sb ++ t)[0]'(by omega) = 36 := by rw [app_get sb t 0 (by decide)]; rfl
  have h1 : (sb ++ t)[1]'(by omega) = 32 := by rw [app_get sb t 1 (by decide)]; rfl
  rw [e_sign (sb ++ t) out (by omega) h0 (by rw [h1]; decide +kernel), app_ext sb t 2 (by decide), h1]
  rw [show sb.extract 2 sb.size = ByteArray.empty from by decide, ByteArray.empty_append]
theorem sb_size (t : ByteArray) : (sb ++ t).size = 2 + t.size := by rw [ByteArray.size_append]; rfl
theorem two_vals (l1 l2 : List S34) (s t : ByteArray) (hs : (refAll s []).2 = 0) (ht : (refAll t []).2 = 0) : (refAll (s ++ (sb ++ t)) []).2 = 0 ∧ val l1 l2 (s ++ (sb ++ t)) = val l1 l2 s ++ (32 :: val l1 l2 t) := by
  have h0 : (sb ++ t)[0]'(by rw [sb_size]; omega) = 36 := by rw [app_get sb t 0 (by decide)]; rfl
  have h := all_app s (sb ++ t) (by rw [sb_size]; omega) h0 [] hs
  rw [sb_all] at h
  have hz : (refAll t (addText (refAll s []).1 ⟨#[32]⟩)).2 = 0 := by rw [all_same t _ []]; exact ht
  refine ⟨by rw [h]; exact hz, ?_⟩
  unfold val
  rw [h, val_all l1 l2 t _ hz, val_addText]
  simp [val]

/-! a text whose signs are doubled -/
def enc : List UInt8 → List UInt8
  | [] => []
  | c :: l => if c = 36 then 36 :: 36 :: enc l else c :: enc l
theorem enc_app (a b : List UInt8) : enc (a ++ b) = enc a ++ enc b := by
  induction a with
  | nil => rfl
  | cons c a ih => simp only [List.cons_append, enc]; split <;> simp [ih]
theorem enc_len (l : List UInt8) : l.length ≤ (enc l).length := by
  induction l with
  | nil => simp
  | cons c a ih => simp only [enc]; split <;> simp <;> omega
theorem enc_plain (l : List UInt8) : plainL (enc l) = plainL l := by
  unfold plainL
  induction l with
  | nil => rfl
  | cons c a ih =>
    simp only [enc]
    split
    · rename_i h
      subst h
      simp only [List.all_cons, ih]
      simp
    · simp only [List.all_cons, ih]
theorem extract_cons (c : UInt8) (l : List UInt8) : (⟨(c :: l).toArray⟩ : ByteArray).extract 1 (⟨(c :: l).toArray⟩ : ByteArray).size = ⟨l.toArray⟩ := by
  apply ByteArray.ext
  rw [ByteArray.data_extract]
  apply Array.toList_inj.1
  simp [ByteArray.size]
theorem extract_cons2 (c d : UInt8) (l : List UInt8) : (⟨(c :: d :: l).toArray⟩ : ByteArray).extract 2 (⟨(c :: d :: l).toArray⟩ : ByteArray).size = ⟨l.toArray⟩ := by
  apply ByteArray.ext
  rw [ByteArray.data_extract]
  apply Array.toList_inj.1
  simp [ByteArray.size]
theorem get_cons0 (c : UInt8) (l : List UInt8) (h : 0 < (⟨(c :: l).toArray⟩ : ByteArray).size) : (⟨(c :: l).toArray⟩ : ByteArray)[0] = c := rfl
theorem get_cons1 (c d : UInt8) (l : List UInt8) (h : 1 < (⟨(c :: d :: l).toArray⟩ : ByteArray).size) : (⟨(c :: d :: l).toArray⟩ : ByteArray)[1] = d := rfl
theorem size_list (l : List UInt8) : (⟨l.toArray⟩ : ByteArray).size = l.length := by simp [ByteArray.size]
theorem enc_all (l1 l2 : List S34) (l : List UInt8) : ∀ out, (refAll ⟨(enc l).toArray⟩ out).2 = 0 ∧ evalOut l1 l2 (refAll ⟨(enc l).toArray⟩ out).1 = evalOut l1 l2 out ++ l := by
  induction l with
  | nil => intro out; rw [e_end _ out (by rfl)]; simp
  | cons c l ih =>
    intro out
    by_cases h : c = 36
    · subst h
      rw [show enc (36 :: l) = 36 :: 36 :: enc l from by simp [enc]]
      have hz : 2 ≤ (⟨(36 :: 36 :: enc l).toArray⟩ : ByteArray).size := by rw [size_list]; simp
      rw [e_sign ⟨(36 :: 36 :: enc l).toArray⟩ out hz (get_cons0 _ _ _) (by rw [get_cons1]; decide +kernel), extract_cons2, get_cons1]
      obtain ⟨a, b⟩ := ih (addText out ⟨#[36]⟩)
      refine ⟨a, b.trans ?_⟩
      rw [val_addText]
      simp
    · rw [show enc (c :: l) = c :: enc l from by simp [enc, h]]
      have hz : 1 ≤ (⟨(c :: enc l).toArray⟩ : ByteArray).size := by rw [size_list]; simp
      rw [e_text ⟨(c :: enc l).toArray⟩ out hz (by rw [get_cons0]; exact h), extract_cons, get_cons0]
      obtain ⟨a, b⟩ := ih (addText out ⟨#[c]⟩)
      refine ⟨a, b.trans ?_⟩
      rw [val_addText]
      simp
/-- A value, by the reference's cutting. -/
theorem eval_ref {s : ByteArray} {l1 l2 : List S34} (hp : plainB s 2048 = true) (hc : (refAll s []).2 = 0) (h1 : scopeMay l1 = true) (h2 : scopeMay l2 = true) :
    evalOf s l1 l2 = if (val l1 l2 s).length ≤ 256 then (⟨(val l1 l2 s).toArray⟩, 0) else (⟨#[]⟩, 501) := by
  have e := refOf_all s hp
  rw [eval_of (ps := (refAll s []).1) (by rw [cutOf_eq, e]; exact Prod.ext rfl hc) h1 h2]
  rfl
/-- What a value that is one says. -/
theorem eval_ok {s : ByteArray} {l1 l2 : List S34} (h : (evalOf s l1 l2).2 = 0) : plainB s 2048 = true ∧ (refAll s []).2 = 0 ∧ scopeMay l1 = true ∧ scopeMay l2 = true ∧ (evalOf s l1 l2).1 = ⟨(val l1 l2 s).toArray⟩ ∧ (val l1 l2 s).length ≤ 256 := by
  have h' := h
  unfold evalOf at h
  split at h
  · rename_i hc
    obtain ⟨a, b, c⟩ := hc
    rw [cutOf_eq] at a
    have hp : plainB s 2048 = true := by
      unfold refOf at a
      split at a
      · assumption
      · exact absurd a (by decide)
    have hr := (refOf_ok s a).2
    have e := eval_ref hp hr b c
    rw [e] at h' ⊢
    split at h'
    · rename_i hl
      rw [if_pos hl]
      exact ⟨hp, hr, b, c, rfl, hl⟩
    · exact absurd h' (by decide)
  · exact absurd h (by decide)
/-- A value that is none is empty. -/
theorem eval_no {s : ByteArray} {l1 l2 : List S34} (h : ¬ (evalOf s l1 l2).2 = 0) : (evalOf s l1 l2).1 = ⟨#[]⟩ := by
  unfold evalOf at h ⊢
  split
  · rename_i hc
    rw [if_pos hc] at h
    split
    · rename_i hl
      rw [if_pos hl] at h
      exact absurd rfl h
    · rfl
  · rfl
end Go.Proofs.Ytbkgcdjbkoeejaa.Print
