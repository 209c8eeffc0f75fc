/- Two texts one behind the other. -/
import Derived.Test.YtchkgljhklfhnaaQCutLaws
import Derived.Test.YtchkgljhklfhnaaPCruciblelaw3PieceTwo
namespace Go.Proofs.Ytchkgljhklfhnaa.Pure
open Go.RowKit Go.Lib Go.Proofs.Ytchkgljhklfhnaa.Print Go.Proofs.YtchkgljhklfhnaaW.PrintWords Go.Proofs.YtchkgljhklfhnaaW.PrintLast

def sc : ByteArray := ⟨#[36, 58]⟩
theorem sc_all (t : ByteArray) (out : List S57) : refAll (sc ++ t) out = refAll t (addText out ⟨#[58]⟩) := by
  have hs : (sc ++ t).size = 2 + t.size := by rw [ByteArray.size_append]; rfl
  have h0 : (sc ++ t)[0]'(by omega) = 36 := by rw [app_get sc t 0 (by decide)]; rfl
  have h1 : (sc ++ t)[1]'(by omega) = 58 := by rw [app_get sc t 1 (by decide)]; rfl
  rw [e_sign (sc ++ t) out (by omega) h0 (by rw [h1]; decide +kernel), app_ext sc t 2 (by decide), h1]
  rw [show sc.extract 2 sc.size = ByteArray.empty from by decide, ByteArray.empty_append]

theorem two_end (k : Nat) (s t : ByteArray) (hs : s.size ≤ 900) (ht : t.size ≤ 900) (es : (refOf s).2 = 0) (et : (refOf t).2 = 0) (hk : 5000 ≤ k) :
    cruciblelaw3_PieceTwo.j1 (k + 1) (refOf s).1 (refOf t).1 (refOf (s ++ (sc ++ t))).1 (refOf (sc ++ t)).1 ((rd_T57 (refOf (sc ++ t)).1 0).f0) = some true ∧ (refOf (s ++ (sc ++ t))).2 = 0 ∧ (refOf (sc ++ t)).2 = 0 ∧ 0 < (refOf (sc ++ t)).1.length := by
  obtain ⟨ps, as_⟩ := refOf_ok s es
  obtain ⟨pt, at_⟩ := refOf_ok t et
  have hsz : (sc ++ t).size = 2 + t.size := by rw [ByteArray.size_append]; rfl
  have psc : plainL sc.data.toList = true := by decide
  have p1 : plainB (sc ++ t) 2048 = true := by
    unfold plainB
    rw [plain_app, psc, pt]
    have h2 : sc.size = 2 := rfl
    simp
    omega
  have p2 : plainB (s ++ (sc ++ t)) 2048 = true := by
    unfold plainB
    rw [plain_app, plain_app, ps, psc, pt]
    simp only [ByteArray.size_append, Bool.true_and, Bool.and_true, decide_eq_true_eq]
    have h2 : sc.size = 2 := rfl
    omega
  have fa := few_ref s
  have fd := few_ref (sc ++ t)
  have ea : (refOf s).1 = (refAll s []).1 := by unfold refOf; split; · rfl
                                                · rename_i hp; unfold refOf at es; rw [if_neg hp] at es; exact absurd es (by decide)
  have eb : (refOf t).1 = (refAll t []).1 := by unfold refOf; split; · rfl
                                                · rename_i hp; unfold refOf at et; rw [if_neg hp] at et; exact absurd et (by decide)
  have ed : refOf (sc ++ t) = refAll t [⟨false, ⟨#[58]⟩⟩] := by rw [refOf_all _ p1, sc_all, addText_nil]
  have ec : refOf (s ++ (sc ++ t)) = refAll t (addText (refAll s []).1 ⟨#[58]⟩) := by
    rw [refOf_all _ p2, all_app s (sc ++ t) (by omega) (by rw [app_get sc t 0 (by decide)]; rfl) [] as_, sc_all]
  have fl : (refAll t [⟨false, ⟨#[58]⟩⟩]).2 = 0 := (all_same t _ []).trans at_
  have hh := all_head t [⟨false, ⟨#[58]⟩⟩] ⟨_, _, rfl, rfl⟩ fl
  have hlen := all_len t ⟨false, ⟨#[58]⟩⟩ rfl
  obtain ⟨d0, dt, hd, hd0⟩ := hh
  have hdl : (refOf (sc ++ t)).1 = d0 :: dt := by rw [ed, hd]
  have hd2 : (refOf (sc ++ t)).2 = 0 := by rw [ed]; exact fl
  have hc2 : (refOf (s ++ (sc ++ t))).2 = 0 := by rw [ec]; exact (all_same t _ []).trans at_
  refine ⟨?_, hc2, hd2, by rw [hdl]; simp⟩
  have hbl : (refOf t).1.length ≤ (refOf (sc ++ t)).1.length := by rw [eb, ed]; exact hlen
  rw [hdl] at fd hbl ⊢
  have hr0 : (rd_T57 (d0 :: dt) 0) = d0 := rfl
  have fx := fa.2
  have fla := fa.1
  have fld := fd.1
  have fdx := fd.2
  rw [ea] at fla fx ⊢
  rw [ec]
  generalize (refAll s []).1 = a at *
  simp only [cruciblelaw3_PieceTwo.j1]
  rw [hr0, hd0, if_neg (by decide), if_pos (by simp; omega), Option.bind_some, List.nil_append]
  by_cases ha : a = []
  · subst ha
    rw [if_neg (by simp), if_pos (by simp at fld ⊢; omega), List.nil_append, addText_nil, hd, samePieces_self _ (by simp at fld ⊢; omega) _ (by simp at fld ⊢; omega), Option.bind_some, if_pos rfl, decide_eq_true (by omega)]
  · obtain ⟨p, x, rfl⟩ := snoc_of a ha
    have hpl : ((p ++ [x]).length : Int) - 1 = (p.length : Int) := by simp
    have hw : wrap64 (((p ++ [x]).length : Int) - 1) = (p.length : Int) := by rw [hpl]; unfold wrap64; simp at fla; omega
    have hrx : rd_T57 (p ++ [x]) (p.length : Int) = x := by simp [rd_T57]
    rw [if_pos (by omega), hw, if_pos (by omega), if_pos (by omega), hrx]
    cases hx : x.f0
    · have hset : (p ++ [x]).set ((p.length : Int)).toNat ⟨x.f0, x.f1 ++ d0.f1⟩ ++ (d0 :: dt).drop 1 = p ++ pfx x.f1 (d0 :: dt) := by
        simp [pfx, hx, hd0]
      have hcc : (refAll t (addText (p ++ [x]) ⟨#[58]⟩)).1 = p ++ pfx x.f1 (d0 :: dt) := by
        rw [addText_snoc, if_pos hx, show ([⟨false, x.f1 ++ ⟨#[58]⟩⟩] : List S57) = pfx x.f1 [⟨false, ⟨#[58]⟩⟩] from rfl, all_pre t p _ (by simp [pfx]), all_pfx t _ _ (by simp), fl, if_pos rfl, hd]
      have hxs := fx x (by simp)
      have hds := fdx d0 (by simp)
      rw [if_neg (by decide), if_pos (by rw [List.length_cons]; omega), if_pos (by omega), Option.bind_some, if_pos (by rw [List.length_cons]; omega), Option.bind_some, if_pos (by simp at fla fld ⊢; omega)]
      rw [hx] at hset
      rw [hset, hcc, samePieces_self _ (by rw [List.length_append, len_pfx]; simp at fla fld ⊢; omega) _ (by rw [List.length_append, len_pfx]; simp at fla fld ⊢; omega), Option.bind_some, if_pos rfl, decide_eq_true (by omega)]
    · have hcc : (refAll t (addText (p ++ [x]) ⟨#[58]⟩)).1 = (p ++ [x]) ++ (d0 :: dt) := by
        rw [addText_snoc, if_neg (by rw [hx]; decide), show p ++ [x, ⟨false, ⟨#[58]⟩⟩] = (p ++ [x]) ++ [⟨false, ⟨#[58]⟩⟩] by simp, all_pre t (p ++ [x]) _ (by simp), fl, if_pos rfl, hd]
      rw [if_pos rfl, if_pos (by simp at fla fld ⊢; omega), hcc, samePieces_self _ (by simp at fla fld ⊢; omega) _ (by simp at fla fld ⊢; omega), Option.bind_some, if_pos rfl, decide_eq_true (by omega)]

theorem PieceTwo : cruciblelaw3_PieceTwo.Pure := by
  intro s t hs ht
  obtain ⟨k, hk⟩ : ∃ k, 5000 ≤ k := ⟨_, Nat.le_refl _⟩
  refine ⟨k + 2, ?_⟩
  unfold cruciblelaw3_PieceTwo.f
  rw [awake3 _ (by omega), Option.bind_some, if_pos rfl, cut_some s (by omega), Option.bind_some, cut_some t (by omega), Option.bind_some]
  simp only [num_eq, Option.bind_some]
  have j0t : ∀ a b, cruciblelaw3_PieceTwo.j0 (k + 2) s t a b true = some true := fun a b => by simp [cruciblelaw3_PieceTwo.j0]
  by_cases es : (refOf s).2 = 0
  · by_cases et : (refOf t).2 = 0
    · rw [if_pos es, if_pos et]
      by_cases h1 : s.size ≤ 900
      · by_cases h2 : t.size ≤ 900
        · rw [if_neg (by omega), show decide ((t.size : Int) > 900) = false by simp; omega]
          obtain ⟨hj, hc, hd, hl⟩ := two_end k s t h1 h2 es et hk
          simp only [cruciblelaw3_PieceTwo.j0]
          rw [if_neg (by decide), if_pos (by omega), if_pos (by rw [ByteArray.size_append, show (⟨#[36, 58]⟩ : ByteArray).size = 2 from rfl]; omega), ByteArray.append_assoc, show (⟨#[36, 58]⟩ : ByteArray) = sc from rfl,
            cut_some _ (by rw [ByteArray.size_append, ByteArray.size_append, show sc.size = 2 from rfl]; omega), Option.bind_some, if_pos (by omega), cut_some _ (by rw [ByteArray.size_append, show sc.size = 2 from rfl]; omega), Option.bind_some]
          simp only [num_eq, Option.bind_some]
          rw [if_pos hc, if_pos hd, if_neg (by omega), if_pos (by omega)]
          exact hj
        · rw [if_neg (by omega), show decide ((t.size : Int) > 900) = true by simp; omega]
          exact j0t _ _
      · rw [if_pos (by omega)]
        exact j0t _ _
    · rw [if_pos es, if_neg et]
      exact j0t _ _
  · rw [if_neg es]
    exact j0t _ _
end Go.Proofs.Ytchkgljhklfhnaa.Pure
