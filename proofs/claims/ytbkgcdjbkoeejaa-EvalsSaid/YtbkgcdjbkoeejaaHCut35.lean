import Derived.Test.YtbkgcdjbkoeejaaHCutter
import Derived.BigQuiet
import Derived.IntWalk
/- strings.Cut at the one byte $. -/
namespace Go.Proofs.Ytbkgcdjbkoeejaa.Print
open Go.RowKit Go.Lib Go.Shelf Go.Proofs.YtbkgcdjbkoeejaaW.PrintWords Go.Proofs.YtbkgcdjbkoeejaaW.PrintLast Go.Proofs.YtbkgcdjbkoeejaaW.PrintMore
set_option linter.unusedVariables false

def cutAt (s : ByteArray) : Int := Lib.indexByte s.data.toList 36
def cutStep (s : ByteArray) : ByteArray × ByteArray × Bool := if 0 ≤ cutAt s then (s.extract 0 (cutAt s).toNat, s.extract ((cutAt s).toNat + 1) s.size, true) else (s, ⟨#[]⟩, false)
theorem cutAt_lt (s : ByteArray) (h : 0 ≤ cutAt s) : ∃ i : Nat, cutAt s = i ∧ i < s.size := by
  obtain ⟨i, hi⟩ := Int.eq_ofNat_of_zero_le h
  refine ⟨i, hi, ?_⟩
  have := (Lib.indexByte_some (show Lib.indexByte s.data.toList 36 = (i : Nat) from hi)).1
  rw [Lib.size_eq]
  exact (List.getElem?_eq_some_iff.mp this).1

set_option maxHeartbeats 1000000 in
set_option maxRecDepth 100000 in
theorem cut59_calls (s : ByteArray) (hs : s.size ≤ 9223372036854775807) (w : World) :
    Calls Try.prog 39 #[.string s, .string ⟨#[36]⟩] w fun e w' => e = .returned (.tuple #[.string (cutStep s).1, .string (cutStep s).2.1, .bool (cutStep s).2.2]) ∧ ∃ n, w' = w.drewN n := by
  by_cases h : 0 ≤ cutAt s
  · obtain ⟨i, hi, hlt⟩ := cutAt_lt s h
    have hd : Hid (cutStep s = (s.extract 0 i, s.extract (i + 1) s.size, true)) := by
      unfold cutStep
      rw [if_pos h, hi]
      exact Lib.hid rfl
    have HI : Hid (Lib.indexByte s.data.toList 36 = (i : Int)) := Lib.hid hi
    clear h hi
    have h0 : (0 : Int) ≤ i := by omega
    have h1 : (i : Int) ≤ s.size := by omega
    have h2 : (0 : Int) ≤ (i : Int) + 1 := by omega
    have h3 : (i : Int) + 1 ≤ s.size := by omega
    have h4 : IntKind.i64.wrap ((i : Int) + 1) = (i : Int) + 1 := IntWalk.i64_in _ (by omega)
    have h5 : ((i : Int) + 1).toNat = i + 1 := by omega
    go_enter Try.func39, Try.ntmps39
    go_wp2_with fail
    refine (Try.stringslite_Index_one s 36 _).mono ?_
    rintro e w' ⟨rfl, rfl⟩
    rw [HI.out]
    go_wp2_with fail
    go_quiet (fail)
    go_wp2_with fail
    refine bodyPost_ret (v := .tuple #[.string (s.extract 0 i), .string (s.extract (i + 1) s.size), .bool true]) (by simp [results, Try.results39, go_sem]) rfl ?_
    rw [hd.out]
    exact ⟨rfl, _, rfl⟩
  · have hd : Hid (cutStep s = (s, ⟨#[]⟩, false)) := by
      unfold cutStep
      rw [if_neg h]
      exact Lib.hid rfl
    have HI : Hid (Lib.indexByte s.data.toList 36 = -1) := Lib.hid (by have := Lib.indexByte_ge s.data.toList 36; unfold cutAt at h; omega)
    clear h
    go_enter Try.func39, Try.ntmps39
    go_wp2_with fail
    refine (Try.stringslite_Index_one s 36 _).mono ?_
    rintro e w' ⟨rfl, rfl⟩
    rw [HI.out]
    go_wp2_with fail
    refine bodyPost_ret (v := .tuple #[.string s, .string ⟨#[]⟩, .bool false]) (by simp [results, Try.results39, go_sem]) rfl ?_
    rw [hd.out]
    exact ⟨rfl, 0, rfl⟩

set_option maxHeartbeats 1000000 in
theorem cut49_calls (s : ByteArray) (hs : s.size ≤ 9223372036854775807) (w : World) :
    Calls Try.prog 30 #[.string s, .string ⟨#[36]⟩] w fun e w' => e = .returned (.tuple #[.string (cutStep s).1, .string (cutStep s).2.1, .bool (cutStep s).2.2]) ∧ ∃ n, w' = w.drewN n := by
  obtain ⟨⟨t1, t2, t3⟩, ht⟩ : ∃ t, cutStep s = t := ⟨_, rfl⟩
  have HT := Lib.hid ht
  clear ht
  go_enter Try.func30, Try.ntmps30
  go_wp2_with fail
  refine (cut59_calls s hs _).mono ?_
  rw [HT.out]
  rintro e w' ⟨rfl, n, rfl⟩
  go_wp2_with fail
  refine bodyPost_ret (v := .tuple #[.string t1, .string t2, .bool t3]) (by simp [results, Try.results30, go_sem]) rfl ?_
  rw [HT.out]
  exact ⟨rfl, _, rfl⟩
end Go.Proofs.Ytbkgcdjbkoeejaa.Print

/- The rounds of pieces.Cut, plain. -/
namespace Go.Proofs.Ytbkgcdjbkoeejaa.Print
open Go.RowKit Go.Lib Go.Shelf Go.Proofs.YtbkgcdjbkoeejaaW.PrintWords Go.Proofs.YtbkgcdjbkoeejaaW.PrintLast Go.Proofs.YtbkgcdjbkoeejaaW.PrintMore

def textIf (out : List S49) (t : ByteArray) : List S49 := if 1 ≤ t.size then addText out t else out
def cutRound (rest : ByteArray) (out : List S49) : ByteArray × List S49 × Bool :=
  if (cutStep rest).2.2 = true then signStep (cutStep rest).2.1 (textIf out (cutStep rest).1) else ((cutStep rest).2.1, textIf out (cutStep rest).1, false)
def cutGo : Nat → ByteArray → List S49 → Bool → List S49 × Bool
  | 0, _, out, bad => (out, bad)
  | k + 1, rest, out, bad => if 1 ≤ rest.size ∧ bad = false then cutGo k (cutRound rest out).1 (cutRound rest out).2.1 (cutRound rest out).2.2 else (out, bad)

/-- Pieces so few and so short that they, and what is still to cut, are at most N. -/
def Few (N m : Nat) (out : List S49) : Prop := out.length + m ≤ N ∧ ∀ x ∈ out, x.f1.size + m ≤ N

theorem trimP_le (s e : ByteArray) : (trimP s e).size ≤ s.size := by
  unfold trimP
  rw [Lib.size_eq, Lib.size_eq]
  simp only [Lib.trimPrefix]
  split
  · simp
  · simp
theorem few_le {N m m' : Nat} {out : List S49} (h : Few N m out) (hm : m' ≤ m) : Few N m' out :=
  ⟨by have := h.1; omega, fun x hx => by have := h.2 x hx; omega⟩
theorem rd57_mem (out : List S49) (i : Nat) (hi : i < out.length) : rd_T49 out (i : Int) ∈ out := by
  have : rd_T49 out (i : Int) = out[i] := by simp [rd_T49, hi]
  rw [this]
  exact List.getElem_mem hi
theorem few_last {N m : Nat} {out : List S49} (h : Few N m out) (h0 : 0 < out.length) : (rd_T49 out ((out.length - 1 : Nat) : Int)).f1.size + m ≤ N := h.2 _ (rd57_mem out _ (by omega))
theorem few_text {N m m' : Nat} {out : List S49} (t : ByteArray) (h : Few N m out) (ht : 1 ≤ t.size) (hm : t.size + m' ≤ m) : Few N m' (addText out t) := by
  have h1 := h.1
  unfold addText
  split
  · rename_i hc
    refine ⟨by rw [List.length_set]; omega, fun x hx => ?_⟩
    rcases List.mem_or_eq_of_mem_set hx with hx | rfl
    · have := h.2 x hx; omega
    · have := few_last h hc.1
      simp only [ByteArray.size_append]
      omega
  · refine ⟨by simp; omega, fun x hx => ?_⟩
    rcases List.mem_append.mp hx with hx | hx
    · have := h.2 x hx; omega
    · simp at hx
      subst hx
      simp only []
      omega
theorem few_textIf {N m m' : Nat} {out : List S49} (t : ByteArray) (h : Few N m out) (hm : t.size + m' ≤ m) : Few N m' (textIf out t) := by
  unfold textIf
  split
  · rename_i ht
    exact few_text t h ht hm
  · exact few_le h (by omega)
theorem few_var {N : Nat} {out : List S49} (rest e : ByteArray) (h : Few N rest.size out) : Few N (varStep rest out e).1.size (varStep rest out e).2.1 ∧ (varStep rest out e).1.size ≤ rest.size := by
  have hv := varLen_le rest
  have hw : (wordOf rest).size = varLen rest := by simp [wordOf]; omega
  have hr : (restOf rest).size = rest.size - varLen rest := by simp [restOf]
  have ht := trimP_le (restOf rest) e
  unfold varStep
  split
  · rename_i hc
    simp only [Bool.and_eq_true, decide_eq_true_eq] at hc
    refine ⟨⟨?_, fun x hx => ?_⟩, by simp only []; omega⟩
    · have := h.1
      simp only [List.length_append, List.length_singleton]
      omega
    · rcases List.mem_append.mp hx with hx | hx
      · have := h.2 x hx
        simp only []
        omega
      · simp at hx
        subst hx
        have := h.1
        simp only []
        omega
  · exact ⟨few_le h (by simp only []; omega), by simp only []; omega⟩
theorem few_sign {N : Nat} {out : List S49} (rest : ByteArray) (h : Few N rest.size out) : Few N (signStep rest out).1.size (signStep rest out).2.1 ∧ (signStep rest out).1.size ≤ rest.size := by
  unfold signStep
  split
  · rename_i h1
    have e1 : (rest.extract 1 rest.size).size = rest.size - 1 := by simp
    have e0 : (rest.extract 0 1).size = 1 := by simp; omega
    split
    · exact ⟨few_text _ h (by omega) (by simp only []; omega), by simp only []; omega⟩
    · split
      · have := few_var (rest.extract 1 rest.size) ⟨#[125]⟩ (few_le h (by omega))
        exact ⟨this.1, by omega⟩
      · exact few_var rest _ h
  · exact few_var rest _ h
theorem cutStep_size (s : ByteArray) : (cutStep s).1.size + (cutStep s).2.1.size ≤ s.size ∧ (1 ≤ s.size → (cutStep s).2.1.size < s.size) := by
  unfold cutStep
  split
  · rename_i h
    obtain ⟨i, hi, hlt⟩ := cutAt_lt s h
    rw [hi]
    have e1 : (s.extract 0 i).size = i := by simp; omega
    have e2 : (s.extract (i + 1) s.size).size = s.size - (i + 1) := by simp
    simp only [Int.toNat_natCast, e1, e2]
    omega
  · have e : (⟨#[]⟩ : ByteArray).size = 0 := rfl
    simp only [e]
    omega
theorem few_mid {N : Nat} {out : List S49} (rest : ByteArray) (h : Few N rest.size out) : Few N (cutStep rest).2.1.size (textIf out (cutStep rest).1) :=
  few_textIf _ h (cutStep_size rest).1
theorem few_round {N : Nat} {out : List S49} (rest : ByteArray) (h : Few N rest.size out) : Few N (cutRound rest out).1.size (cutRound rest out).2.1 ∧ (cutRound rest out).1.size ≤ (cutStep rest).2.1.size := by
  unfold cutRound
  split
  · exact few_sign _ (few_mid rest h)
  · exact ⟨few_mid rest h, Nat.le_refl _⟩

/-- What pieces.Cut answers. -/
def cutOf (s : ByteArray) : List S49 × Int :=
  if plainB s 2048 = true then (if (cutGo s.size s [] false).2 = true then ([], 300) else ((cutGo s.size s [] false).1, 0)) else ([], 300)
end Go.Proofs.Ytbkgcdjbkoeejaa.Print

/- pieces.Cut, walked. -/
namespace Go.Proofs.Ytbkgcdjbkoeejaa.Print
open Go.RowKit Go.Lib Go.Shelf Go.Proofs.YtbkgcdjbkoeejaaW.PrintWords Go.Proofs.YtbkgcdjbkoeejaaW.PrintLast Go.Proofs.YtbkgcdjbkoeejaaW.PrintMore
set_option linter.unusedVariables false

def szOf : Value → Nat
  | .string s => s.size
  | _ => 2049
theorem st_drewN {B g : Nat} {w : World} {rest : ByteArray} {out : List S49} {bad : Bool} (h : St B g w rest out bad) (n : Nat) : St B g (w.drewN n) rest out bad := by
  obtain ⟨v, hb, hB, hR⟩ := h
  exact ⟨v, blk_drewN hb n, hB, Kd.R_drewN hR n⟩
theorem st_rest {B g : Nat} {w : World} {rest : ByteArray} {out : List S49} {bad : Bool} (h : St B g w rest out bad) (t : ByteArray) : St B g (w.setCell ⟨g, 0, none⟩ (.string t)) t out bad := by
  obtain ⟨v, hb, hB, hR⟩ := h
  exact ⟨v, blk_put hb 0 _ rfl, hB, Kd.R_far (p := ⟨g, 0, none⟩) hR (fun _ hk => hk) _⟩
theorem st_below {B g : Nat} {w : World} {rest : ByteArray} {out : List S49} {bad : Bool} (h : St B g w rest out bad) : ∃ v, w.cell? ⟨g, 0, none⟩ = some (.string rest) ∧ w.cell? ⟨g, 1, none⟩ = some v ∧ w.cell? ⟨g, 2, none⟩ = some (.bool bad) ∧ w.frozen? ⟨g, 0, none⟩ = false ∧ w.frozen? ⟨g, 1, none⟩ = false ∧ w.frozen? ⟨g, 2, none⟩ = false ∧ B ≤ g ∧ Kd.R k49 49 w B (fun k => k ≠ g) v out := by
  obtain ⟨v, hb, hB, hR⟩ := h
  obtain ⟨a, b, c, d, e, f⟩ := st_cells (B := B) (out := out) hb
  exact ⟨v, a, b, c, d, e, f, hB, hR⟩
theorem cutGo_next {k : Nat} {rest : ByteArray} {out : List S49} {F : List S49 × Bool} (h : cutGo k rest out false = F) (h1 : 1 ≤ rest.size) (hk : rest.size ≤ k) : cutGo (k - 1) (cutRound rest out).1 (cutRound rest out).2.1 (cutRound rest out).2.2 = F := by
  obtain ⟨j, rfl⟩ : ∃ j, k = j + 1 := ⟨k - 1, by omega⟩
  rw [← h]
  simp [cutGo, h1]
theorem cutGo_done {k : Nat} {rest : ByteArray} {out : List S49} {bad : Bool} {F : List S49 × Bool} (h : cutGo k rest out bad = F) (h1 : ¬ (1 ≤ rest.size ∧ bad = false)) : F = (out, bad) := by
  rw [← h]
  cases k with
  | zero => rfl
  | succ k => simp only [cutGo]; rw [if_neg h1]

def Rel (w : World) (F : List S49 × Bool) (v6 : Value) (wr : World) : Prop :=
  ∃ (k : Nat) (rest : ByteArray) (out : List S49) (bad : Bool), St w.heap.size w.heap.size wr rest out bad ∧ Below w.heap.size w wr ∧ Few 2048 rest.size out ∧ rest.size ≤ k ∧ cutGo k rest out bad = F ∧ rest.size ≤ szOf v6
theorem rel_next {w wr : World} {F : List S49 × Bool} {k : Nat} {rest : ByteArray} {out : List S49} (h : cutGo k rest out false = F) (h1 : 1 ≤ rest.size) (hk : rest.size ≤ k) (hf : Few 2048 rest.size out)
    (hs : St w.heap.size w.heap.size wr (cutRound rest out).1 (cutRound rest out).2.1 (cutRound rest out).2.2) (hb : Below w.heap.size w wr) : Rel w F (.string (cutStep rest).2.1) wr := by
  have hr := few_round rest hf
  have hc := (cutStep_size rest).2 h1
  exact ⟨k - 1, _, _, _, hs, hb, hr.1, by omega, cutGo_next h h1 hk, hr.2⟩

set_option maxHeartbeats 4000000 in
set_option maxRecDepth 100000 in
theorem cut35_calls (s : ByteArray) (hs : s.size ≤ 9223372036854775807) (w : World) :
    Calls Try.prog 18 #[.string s] w fun e w' => ∃ v : Value, e = .returned (.tuple #[v, .int .i64 (cutOf s).2]) ∧ Kd.R k49 49 w' w.heap.size (fun _ => True) v (cutOf s).1 ∧ Below w.heap.size w w' := by
  cases hp : plainB s 2048
  · have hd : Hid (cutOf s = ([], 300)) := by
      unfold cutOf
      rw [if_neg (by rw [hp]; decide)]
      exact Lib.hid rfl
    have HP := Lib.hid hp
    clear hp
    go_enter Try.func18, Try.ntmps18
    go_wp2_with fail
    refine (plain_calls s 2048 _ hs).mono ?_
    rintro e w' ⟨rfl, rfl⟩
    rw [HP.out]
    go_wp2_with fail
    refine bodyPost_ret (v := .tuple #[.slice none 0 0, .int .i64 300]) (by simp [results, Try.results18, go_sem]) rfl ?_
    rw [hd.out]
    exact ⟨_, rfl, Kd.R_nil _ _ _ _ _, Below.refl _ _⟩
  · have h48 : s.size ≤ 2048 := by
      unfold plainB at hp
      simp at hp
      omega
    obtain ⟨F, hF⟩ : ∃ F, cutGo s.size s [] false = F := ⟨_, rfl⟩
    have hd : Hid (cutOf s = if F.2 = true then ([], 300) else (F.1, 0)) := by
      unfold cutOf
      rw [if_pos hp, hF]
      exact Lib.hid rfl
    have HP := Lib.hid hp
    have HF := Aside0.mk hF
    clear hp hF
    go_enter Try.func18, Try.ntmps18
    go_wp2_with fail
    refine (plain_calls s 2048 _ hs).mono ?_
    rintro e w' ⟨rfl, rfl⟩
    rw [HP.out]
    go_wp2_with fail
    go_loopw [5, 6, 7] (fun v5 v6 v7 wr => Rel w F v6 wr) (fun v5 v6 v7 _ => szOf v6)
    case atStart =>
      exact ⟨s.size, s, [], false, ⟨.slice none 0 0, blk_new _ _, Nat.le_refl _, Kd.R_nil _ _ _ _ _⟩, (Below.refl _ _).alloc (Nat.le_refl _) _, ⟨by simp; omega, fun x hx => by simp at hx⟩, Nat.le_refl _, HF.out, by show s.size ≤ 2049; omega⟩
    case round =>
      obtain ⟨k, rest, out, bad, hst, hbel, hfew, hk, hgo, hsz⟩ := hrel
      obtain ⟨v, c0, c1, c2, f0, f1, f2, -, hR⟩ := st_below hst
      have HST := Aside0.mk hst
      have HBEL := Aside0.mk hbel
      have HFEW := Aside0.mk hfew
      have HGO := Aside0.mk hgo
      have HR := Aside0.mk hR
      have HSZ := Aside0.mk hsz
      have hmax : rest.size ≤ 2048 := by have := hfew.1; omega
      clear hst hbel hfew hgo hR hsz HF
      by_cases h1 : 1 ≤ rest.size
      · have hie : rest.toList.isEmpty = false := by simpa using size_some h1
        have hn : ¬ rest.toList = [] := size_some h1
        have HIE := Lib.hid hie
        clear hie
        cases bad
        · have hlt := (cutStep_size rest).2 h1
          have hNX := Lib.hid (fun wr hs hb => rel_next (w := w) (wr := wr) HGO.out h1 hk HFEW.out hs hb)
          have hfm := few_mid rest HFEW.out
          have hmid := Lib.hid hfm
          have hle := (cutStep_size rest).1
          have hzz : Hid (0 < out.length → (rd_T49 out ((out.length - 1 : Nat) : Int)).f1.size + (cutStep rest).1.size ≤ 9223372036854775807) := Lib.hid fun h0 => by
            have := few_last HFEW.out h0
            omega
          have hol : out.length < 5864062014805 := by have := HFEW.out.1; omega
          have hm2 : (cutStep rest).2.1.size ≤ 2048 := by omega
          have hcr : Hid (cutRound rest out = if (cutStep rest).2.2 = true then signStep (cutStep rest).2.1 (textIf out (cutStep rest).1) else ((cutStep rest).2.1, textIf out (cutStep rest).1, false)) := rfl
          clear hfm hle
          obtain ⟨⟨t1, t2, t3⟩, ht⟩ : ∃ t, cutStep rest = t := ⟨_, rfl⟩
          rw [ht] at hlt hNX hmid hzz hm2 hcr
          have HT := Lib.hid ht
          clear ht
          simp only [] at hlt hm2
          have hlt6 : t2.size < szOf u6 := by have := HSZ.out; omega
          clear HSZ
          go_wp2_with fail
          refine (cut49_calls rest (by omega) _).mono ?_
          rintro e w' ⟨rfl, nq, rfl⟩
          rw [HT.out]
          have hst2 := st_rest (st_drewN HST.out nq) t2
          have HST2 := Aside0.mk hst2
          have HB2 := Aside0.mk ((pw_below_drewN HBEL.out nq).setCell (p := ⟨w.heap.size, 0, none⟩) (Nat.le_refl _) (.string t2))
          clear hst2
          have hti : Hid (textIf out t1 = if 1 ≤ t1.size then addText out t1 else out) := rfl
          by_cases ht1 : 1 ≤ t1.size
          · have hn1 : ¬ t1.toList = [] := size_some ht1
            have HNE : Hid (¬ ((!t1.toList.isEmpty) = false)) := Lib.hid (by simpa using hn1)
            rw [if_pos ht1] at hti
            rw [hti.out] at hmid hcr
            have hmf := hmid.out
            have hol2 : (addText out t1).length < 5864062014805 := by have := hmf.1; omega
            have hz2 : Hid (0 < (addText out t1).length → (rd_T49 (addText out t1) (((addText out t1).length - 1 : Nat) : Int)).f1.size < 9223372036854775807) := Lib.hid fun h0 => by
              have := few_last hmf h0
              omega
            clear hmf
            cases t3
            · rw [if_neg (by decide)] at hcr
              go_wp2_with fail
              refine (text_calls w.heap.size w.heap.size t2 out false t1 _ HST2.out hol hzz.out).mono ?_
              rintro e w3 ⟨rfl, hst3, hb3⟩
              have HST3 := Aside0.mk hst3
              have HB3 := Aside0.mk (HB2.out.trans hb3)
              clear hst3 hb3
              go_wp2_with fail
              exact ⟨hNX.out _ (by rw [hcr.out]; exact HST3.out) HB3.out, hlt6⟩
              all_goals (rename_i hx; exact absurd hx HNE.out)
            · rw [if_pos rfl] at hcr
              go_wp2_with fail
              refine (text_calls w.heap.size w.heap.size t2 out false t1 _ HST2.out hol hzz.out).mono ?_
              rintro e w3 ⟨rfl, hst3, hb3⟩
              have HST3 := Aside0.mk hst3
              have HB3 := Aside0.mk (HB2.out.trans hb3)
              clear hst3 hb3
              go_wp2_with fail
              refine (sign_calls w.heap.size w.heap.size t2 (addText out t1) _ HST3.out (by omega) hol2 hz2.out).mono ?_
              rintro e w4 ⟨rfl, hst4, hb4⟩
              have HST4 := Aside0.mk hst4
              have HB4 := Aside0.mk (HB3.out.trans hb4)
              clear hst4 hb4
              go_wp2_with fail
              exact ⟨hNX.out _ (by rw [hcr.out]; exact HST4.out) HB4.out, hlt6⟩
              all_goals (rename_i hx; exact absurd hx HNE.out)
          · have hn1 : t1.toList = [] := size_nil ht1
            rw [if_neg ht1] at hti
            rw [hti.out] at hmid hcr
            have hmf := hmid.out
            have hz2 : Hid (0 < out.length → (rd_T49 out ((out.length - 1 : Nat) : Int)).f1.size < 9223372036854775807) := Lib.hid fun h0 => by
              have := few_last hmf h0
              omega
            clear hmf
            cases t3
            · rw [if_neg (by decide)] at hcr
              go_wp2_with fail
              exact ⟨hNX.out _ (by rw [hcr.out]; exact HST2.out) HB2.out, hlt6⟩
            · rw [if_pos rfl] at hcr
              go_wp2_with fail
              refine (sign_calls w.heap.size w.heap.size t2 out _ HST2.out (by omega) hol hz2.out).mono ?_
              rintro e w4 ⟨rfl, hst4, hb4⟩
              have HST4 := Aside0.mk hst4
              have HB4 := Aside0.mk (HB2.out.trans hb4)
              clear hst4 hb4
              go_wp2_with fail
              exact ⟨hNX.out _ (by rw [hcr.out]; exact HST4.out) HB4.out, hlt6⟩
          all_goals (rename_i hx; exact absurd hx (by rw [HIE.out]; decide))
        · have hFd := cutGo_done HGO.out (by simp)
          rw [hFd, if_pos rfl] at hd
          clear HGO hFd
          go_wp2_with fail
          refine bodyPost_ret (v := .tuple #[.slice none 0 0, .int .i64 300]) (by simp [results, Try.results18, go_sem]) rfl ?_
          rw [hd.out]
          exact ⟨_, rfl, Kd.R_nil _ _ _ _ _, HBEL.out⟩
      · have hn : rest.toList = [] := size_nil h1
        have hFd := cutGo_done HGO.out (fun h => h1 h.1)
        rw [hFd] at hd
        clear HGO hFd
        cases bad
        · rw [if_neg (by simp)] at hd
          go_wp2_with fail
          refine bodyPost_ret (v := .tuple #[v, .int .i64 0]) (by simp [results, Try.results18, go_sem]) rfl ?_
          rw [hd.out]
          exact ⟨_, rfl, Kd.R_mono HR.out (fun _ _ => trivial), HBEL.out⟩
        · rw [if_pos rfl] at hd
          go_wp2_with fail
          refine bodyPost_ret (v := .tuple #[.slice none 0 0, .int .i64 300]) (by simp [results, Try.results18, go_sem]) rfl ?_
          rw [hd.out]
          exact ⟨_, rfl, Kd.R_nil _ _ _ _ _, HBEL.out⟩
end Go.Proofs.Ytbkgcdjbkoeejaa.Print
