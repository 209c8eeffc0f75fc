/- pieces.Cut, walked. -/
import Derived.Test.YtbkgcdjbkoeejaaHCutSmall
namespace Go.Proofs.Ytbkgcdjbkoeejaa.Print
open Go.RowKit Go.Lib Go.Shelf Go.Proofs.YtbkgcdjbkoeejaaW.PrintWords Go.Proofs.YtbkgcdjbkoeejaaW.PrintLast Go.Proofs.YtbkgcdjbkoeejaaW.PrintMore
set_option linter.unusedVariables false

def szOf : Value → Nat
  | .string s => s.size
  | _ => 2049
theorem st_drewN {B g : Nat} {w : World} {rest : ByteArray} {out : List S49} {bad : Bool} (h : St B g w rest out bad) (n : Nat) : St B g (w.drewN n) rest out bad := by
  obtain ⟨v, hb, hB, hR⟩ := h
  exact ⟨v, blk_drewN hb n, hB, Kd.R_drewN hR n⟩
theorem st_rest {B g : Nat} {w : World} {rest : ByteArray} {out : List S49} {bad : Bool} (h : St B g w rest out bad) (t : ByteArray) : St B g (w.setCell ⟨g, 0, none⟩ (.string t)) t out bad := by
  obtain ⟨v, hb, hB, hR⟩ := h
  exact ⟨v, blk_put hb 0 _ rfl, hB, Kd.R_far (p := ⟨g, 0, none⟩) hR (fun _ hk => hk) _⟩
theorem st_below {B g : Nat} {w : World} {rest : ByteArray} {out : List S49} {bad : Bool} (h : St B g w rest out bad) : ∃ v, w.cell? ⟨g, 0, none⟩ = some (.string rest) ∧ w.cell? ⟨g, 1, none⟩ = some v ∧ w.cell? ⟨g, 2, none⟩ = some (.bool bad) ∧ w.frozen? ⟨g, 0, none⟩ = false ∧ w.frozen? ⟨g, 1, none⟩ = false ∧ w.frozen? ⟨g, 2, none⟩ = false ∧ B ≤ g ∧ Kd.R k49 49 w B (fun k => k ≠ g) v out := by
  obtain ⟨v, hb, hB, hR⟩ := h
  obtain ⟨a, b, c, d, e, f⟩ := st_cells (B := B) (out := out) hb
  exact ⟨v, a, b, c, d, e, f, hB, hR⟩
theorem cutGo_next {k : Nat} {rest : ByteArray} {out : List S49} {F : List S49 × Bool} (h : cutGo k rest out false = F) (h1 : 1 ≤ rest.size) (hk : rest.size ≤ k) : cutGo (k - 1) (cutRound rest out).1 (cutRound rest out).2.1 (cutRound rest out).2.2 = F := by
  obtain ⟨j, rfl⟩ : ∃ j, k = j + 1 := ⟨k - 1, by omega⟩
  rw [← h]
  simp [cutGo, h1]
theorem cutGo_done {k : Nat} {rest : ByteArray} {out : List S49} {bad : Bool} {F : List S49 × Bool} (h : cutGo k rest out bad = F) (h1 : ¬ (1 ≤ rest.size ∧ bad = false)) : F = (out, bad) := by
  rw [← h]
  cases k with
  | zero => rfl
  | succ k => simp only [cutGo]; rw [if_neg h1]

def Rel (w : World) (F : List S49 × Bool) (v6 : Value) (wr : World) : Prop :=
  ∃ (k : Nat) (rest : ByteArray) (out : List S49) (bad : Bool), St w.heap.size w.heap.size wr rest out bad ∧ Below w.heap.size w wr ∧ Few 2048 rest.size out ∧ rest.size ≤ k ∧ cutGo k rest out bad = F ∧ rest.size ≤ szOf v6
theorem rel_next {w wr : World} {F : List S49 × Bool} {k : Nat} {rest : ByteArray} {out : List S49} (h : cutGo k rest out false = F) (h1 : 1 ≤ rest.size) (hk : rest.size ≤ k) (hf : Few 2048 rest.size out)
    (hs : St w.heap.size w.heap.size wr (cutRound rest out).1 (cutRound rest out).2.1 (cutRound rest out).2.2) (hb : Below w.heap.size w wr) : Rel w F (.string (cutStep rest).2.1) wr := by
  have hr := few_round rest hf
  have hc := (cutStep_size rest).2 h1
  exact ⟨k - 1, _, _, _, hs, hb, hr.1, by omega, cutGo_next h h1 hk, hr.2⟩

set_option maxHeartbeats 4000000 in
set_option maxRecDepth 100000 in
theorem cut35_calls (s : ByteArray) (hs : s.size ≤ 9223372036854775807) (w : World) :
    Calls Try.prog 18 #[.string s] w fun e w' => ∃ v : Value, e = .returned (.tuple #[v, .int .i64 (cutOf s).2]) ∧ Kd.R k49 49 w' w.heap.size (fun _ => True) v (cutOf s).1 ∧ Below w.heap.size w w' := by
  cases hp : plainB s 2048
  · have hd : Hid (cutOf s = ([], 300)) := by
      unfold cutOf
      rw [if_neg (by rw [hp]; decide)]
      exact Lib.hid rfl
    have HP := Lib.hid hp
    clear hp
    go_enter Try.func18, Try.ntmps18
    go_wp2_with fail
    refine (plain_calls s 2048 _ hs).mono ?_
    rintro e w' ⟨rfl, rfl⟩
    rw [HP.out]
    go_wp2_with fail
    refine bodyPost_ret (v := .tuple #[.slice none 0 0, .int .i64 300]) (by simp [results, Try.results18, go_sem]) rfl ?_
    rw [hd.out]
    exact ⟨_, rfl, Kd.R_nil _ _ _ _ _, Below.refl _ _⟩
  · have h48 : s.size ≤ 2048 := by
      unfold plainB at hp
      simp at hp
      omega
    obtain ⟨F, hF⟩ : ∃ F, cutGo s.size s [] false = F := ⟨_, rfl⟩
    have hd : Hid (cutOf s = if F.2 = true then ([], 300) else (F.1, 0)) := by
      unfold cutOf
      rw [if_pos hp, hF]
      exact Lib.hid rfl
    have HP := Lib.hid hp
    have HF := Aside0.mk hF
    clear hp hF
    go_enter Try.func18, Try.ntmps18
    go_wp2_with fail
    refine (plain_calls s 2048 _ hs).mono ?_
    rintro e w' ⟨rfl, rfl⟩
    rw [HP.out]
    go_wp2_with fail
    go_loopw [5, 6, 7] (fun v5 v6 v7 wr => Rel w F v6 wr) (fun v5 v6 v7 _ => szOf v6)
    case atStart =>
      exact ⟨s.size, s, [], false, ⟨.slice none 0 0, blk_new _ _, Nat.le_refl _, Kd.R_nil _ _ _ _ _⟩, (Below.refl _ _).alloc (Nat.le_refl _) _, ⟨by simp; omega, fun x hx => by simp at hx⟩, Nat.le_refl _, HF.out, by show s.size ≤ 2049; omega⟩
    case round =>
      obtain ⟨k, rest, out, bad, hst, hbel, hfew, hk, hgo, hsz⟩ := hrel
      obtain ⟨v, c0, c1, c2, f0, f1, f2, -, hR⟩ := st_below hst
      have HST := Aside0.mk hst
      have HBEL := Aside0.mk hbel
      have HFEW := Aside0.mk hfew
      have HGO := Aside0.mk hgo
      have HR := Aside0.mk hR
      have HSZ := Aside0.mk hsz
      have hmax : rest.size ≤ 2048 := by have := hfew.1; omega
      clear hst hbel hfew hgo hR hsz HF
      by_cases h1 : 1 ≤ rest.size
      · have hie : rest.toList.isEmpty = false := by simpa using size_some h1
        have hn : ¬ rest.toList = [] := size_some h1
        have HIE := Lib.hid hie
        clear hie
        cases bad
        · have hlt := (cutStep_size rest).2 h1
          have hNX := Lib.hid (fun wr hs hb => rel_next (w := w) (wr := wr) HGO.out h1 hk HFEW.out hs hb)
          have hfm := few_mid rest HFEW.out
          have hmid := Lib.hid hfm
          have hle := (cutStep_size rest).1
          have hzz : Hid (0 < out.length → (rd_T49 out ((out.length - 1 : Nat) : Int)).f1.size + (cutStep rest).1.size ≤ 9223372036854775807) := Lib.hid fun h0 => by
            have := few_last HFEW.out h0
            omega
          have hol : out.length < 5864062014805 := by have := HFEW.out.1; omega
          have hm2 : (cutStep rest).2.1.size ≤ 2048 := by omega
          have hcr : Hid (cutRound rest out = if (cutStep rest).2.2 = true then signStep (cutStep rest).2.1 (textIf out (cutStep rest).1) else ((cutStep rest).2.1, textIf out (cutStep rest).1, false)) := rfl
          clear hfm hle
          obtain ⟨⟨t1, t2, t3⟩, ht⟩ : ∃ t, cutStep rest = t := ⟨_, rfl⟩
          rw [ht] at hlt hNX hmid hzz hm2 hcr
          have HT := Lib.hid ht
          clear ht
          simp only [] at hlt hm2
          have hlt6 : t2.size < szOf u6 := by have := HSZ.out; omega
          clear HSZ
          go_wp2_with fail
          refine (cut49_calls rest (by omega) _).mono ?_
          rintro e w' ⟨rfl, nq, rfl⟩
          rw [HT.out]
          have hst2 := st_rest (st_drewN HST.out nq) t2
          have HST2 := Aside0.mk hst2
          have HB2 := Aside0.mk ((pw_below_drewN HBEL.out nq).setCell (p := ⟨w.heap.size, 0, none⟩) (Nat.le_refl _) (.string t2))
          clear hst2
          have hti : Hid (textIf out t1 = if 1 ≤ t1.size then addText out t1 else out) := rfl
          by_cases ht1 : 1 ≤ t1.size
          · have hn1 : ¬ t1.toList = [] := size_some ht1
            have HNE : Hid (¬ ((!t1.toList.isEmpty) = false)) := Lib.hid (by simpa using hn1)
            rw [if_pos ht1] at hti
            rw [hti.out] at hmid hcr
            have hmf := hmid.out
            have hol2 : (addText out t1).length < 5864062014805 := by have := hmf.1; omega
            have hz2 : Hid (0 < (addText out t1).length → (rd_T49 (addText out t1) (((addText out t1).length - 1 : Nat) : Int)).f1.size < 9223372036854775807) := Lib.hid fun h0 => by
              have := few_last hmf h0
              omega
            clear hmf
            cases t3
            · rw [if_neg (by decide)] at hcr
              go_wp2_with fail
              refine (text_calls w.heap.size w.heap.size t2 out false t1 _ HST2.out hol hzz.out).mono ?_
              rintro e w3 ⟨rfl, hst3, hb3⟩
              have HST3 := Aside0.mk hst3
              have HB3 := Aside0.mk (HB2.out.trans hb3)
              clear hst3 hb3
              go_wp2_with fail
              exact ⟨hNX.out _ (by rw [hcr.out]; exact HST3.out) HB3.out, hlt6⟩
              all_goals (rename_i hx; exact absurd hx HNE.out)
            · rw [if_pos rfl] at hcr
              go_wp2_with fail
              refine (text_calls w.heap.size w.heap.size t2 out false t1 _ HST2.out hol hzz.out).mono ?_
              rintro e w3 ⟨rfl, hst3, hb3⟩
              have HST3 := Aside0.mk hst3
              have HB3 := Aside0.mk (HB2.out.trans hb3)
              clear hst3 hb3
              go_wp2_with fail
              refine (sign_calls w.heap.size w.heap.size t2 (addText out t1) _ HST3.out (by omega) hol2 hz2.out).mono ?_
              rintro e w4 ⟨rfl, hst4, hb4⟩
              have HST4 := Aside0.mk hst4
              have HB4 := Aside0.mk (HB3.out.trans hb4)
              clear hst4 hb4
              go_wp2_with fail
              exact ⟨hNX.out _ (by rw [hcr.out]; exact HST4.out) HB4.out, hlt6⟩
              all_goals (rename_i hx; exact absurd hx HNE.out)
          · have hn1 : t1.toList = [] := size_nil ht1
            rw [if_neg ht1] at hti
            rw [hti.out] at hmid hcr
            have hmf := hmid.out
            have hz2 : Hid (0 < out.length → (rd_T49 out ((out.length - 1 : Nat) : Int)).f1.size < 9223372036854775807) := Lib.hid fun h0 => by
              have := few_last hmf h0
              omega
            clear hmf
            cases t3
            · rw [if_neg (by decide)] at hcr
              go_wp2_with fail
              exact ⟨hNX.out _ (by rw [hcr.out]; exact HST2.out) HB2.out, hlt6⟩
            · rw [if_pos rfl] at hcr
              go_wp2_with fail
              refine (sign_calls w.heap.size w.heap.size t2 out _ HST2.out (by omega) hol hz2.out).mono ?_
              rintro e w4 ⟨rfl, hst4, hb4⟩
              have HST4 := Aside0.mk hst4
              have HB4 := Aside0.mk (HB2.out.trans hb4)
              clear hst4 hb4
              go_wp2_with fail
              exact ⟨hNX.out _ (by rw [hcr.out]; exact HST4.out) HB4.out, hlt6⟩
          all_goals (rename_i hx; exact absurd hx (by rw [HIE.out]; decide))
        · have hFd := cutGo_done HGO.out (by simp)
          rw [hFd, if_pos rfl] at hd
          clear HGO hFd
          go_wp2_with fail
          refine bodyPost_ret (v := .tuple #[.slice none 0 0, .int .i64 300]) (by simp [results, Try.results18, go_sem]) rfl ?_
          rw [hd.out]
          exact ⟨_, rfl, Kd.R_nil _ _ _ _ _, HBEL.out⟩
      · have hn : rest.toList = [] := size_nil h1
        have hFd := cutGo_done HGO.out (fun h => h1 h.1)
        rw [hFd] at hd
        clear HGO hFd
        cases bad
        · rw [if_neg (by simp)] at hd
          go_wp2_with fail
          refine bodyPost_ret (v := .tuple #[v, .int .i64 0]) (by simp [results, Try.results18, go_sem]) rfl ?_
          rw [hd.out]
          exact ⟨_, rfl, Kd.R_mono HR.out (fun _ _ => trivial), HBEL.out⟩
        · rw [if_pos rfl] at hd
          go_wp2_with fail
          refine bodyPost_ret (v := .tuple #[.slice none 0 0, .int .i64 300]) (by simp [results, Try.results18, go_sem]) rfl ?_
          rw [hd.out]
          exact ⟨_, rfl, Kd.R_nil _ _ _ _ _, HBEL.out⟩
end Go.Proofs.Ytbkgcdjbkoeejaa.Print
