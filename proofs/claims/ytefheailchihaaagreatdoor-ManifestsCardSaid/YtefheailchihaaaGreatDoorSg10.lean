import Derived.Deep.RegionWith
import Derived.Deep.RegionHeld3
import Derived.Deep.DrawnRows
import Derived.Test.YtefheailchihaaaGreatDoorSg9
set_option maxHeartbeats 8000000
set_option maxRecDepth 100000
set_option linter.unusedVariables false
set_option linter.unusedSimpArgs false
section
namespace Go.Proofs.YtefheailchihaaaGreatDoor.Print
open Go.RowKit Go.Lib Go.Shelf
end Go.Proofs.YtefheailchihaaaGreatDoor.Print
namespace Go.Proofs.YtefheailchihaaaGreatDoor.Print
open Go.RowKit Go.Lib Go.Shelf Go.Proofs.YtefheailchihaaaGreatDoorW.PrintWords Go.Proofs.YtefheailchihaaaGreatDoorW.PrintLast Go.Proofs.YtefheailchihaaaGreatDoorW.PrintMore
def orB (a b : ByteArray) : ByteArray := if 1 ≤ a.size then a else b
theorem grown_of_below {w w' : World} (hb : Below w.heap.size w w') : w.grownBy w' none := ⟨hb.os, hb.tape, hb.output, hb.size, fun k hk _ => hb.block k hk⟩
theorem builderAt_below {T e : TypeId} {B b : Nat} {p : Value} {bs : List Value} {w w' : World} (h : Lib.BuilderAt T e B b p bs w) (hb : Below w.heap.size w w') : Lib.BuilderAt T e B b p bs w' := by
 obtain ⟨hB, v, hbk, hown, hne⟩ := h
 have hlt : b < w.heap.size := by
  rcases Nat.lt_or_ge b w.heap.size with h' | h'
  ·exact h'
  ·simp [Array.getElem?_eq_none h'] at hbk
 refine ⟨hB, v, (hb.block b hlt).trans hbk, hown.kept (grown_of_below hb) ?_, hne⟩
 cases v.ownBlock with
 | none => exact .inl rfl
 | some k => exact .inr (by simp)
theorem builder_below {T e : TypeId} {B b : Nat} {bs : List Value} {w w' : World} (h : Lib.IsBuilder T e B b bs w) (hb : Below w.heap.size w w') : Lib.IsBuilder T e B b bs w' := by
 rcases h with h | h
 ·exact .inl (builderAt_below h hb)
 ·exact .inr (builderAt_below h hb)
theorem or_calls (g : Nat) (a b : ByteArray) (w : World) (h0 : w.cell? ⟨g, 0, none⟩ = some (.string a)) (h1 : w.cell? ⟨g, 1, none⟩ = some (.string b)) :
 Calls Tryz.prog 123 #[.slice (some ⟨g, 0, none⟩) 2 2] w fun e w' => e = .returned (.string (orB a b)) ∧ w = w' := by
 have ho1 : Hid (1 ≤ a.size → orB a b = a) := fun h => by unfold orB; rw [if_pos h]
 have ho2 : Hid (¬ 1 ≤ a.size → orB a b = b) := fun h => by unfold orB; rw [if_neg h]
 have hz : Hid (¬ 1 ≤ a.size → ¬ 1 ≤ b.size → orB a b = ⟨#[]⟩) := fun h h2 => by
  unfold orB; rw [if_neg h]
  exact ByteArray.ext (Array.eq_empty_of_size_eq_zero (by have : b.data.size = b.size := rfl; omega))
 go_enter Tryz.func123, Tryz.ntmps123
 go_wp2
 go_loop [8] (fun v8 => ∃ k : Nat, v8 = .int .i64 k ∧ k ≤ 2 ∧ (1 ≤ k → ¬ 1 ≤ a.size) ∧ (2 ≤ k → ¬ 1 ≤ b.size)) (fun v8 => 2 - (intOf v8).toNat)
 case atStart => exact ⟨0, rfl, by omega, by omega, by omega⟩
 case round =>
  obtain ⟨k, rfl, hk, hr1, hr2⟩ := hrel
  have hk3 : k = 0 ∨ k = 1 ∨ k = 2 := by omega
  rcases hk3 with rfl | rfl | rfl
  ·by_cases ha : 1 ≤ a.size
   ·have hn : (a.toList == []) = false := beq_eq_false_iff_ne.2 (E2 ha)
    go_wp2
    go_ret
    exact ⟨ret_str (ho1.out ha).symm, rfl⟩
   ·have hn : a.toList = [] := Fg ha
    go_wp2
    exact ⟨⟨1, by go_num, by omega, fun _ => ha, by omega⟩, by simp [intOf]⟩
  ·have ha := hr1 (by omega)
   by_cases hb : 1 ≤ b.size
   ·have hn : (b.toList == []) = false := beq_eq_false_iff_ne.2 (E2 hb)
    go_wp2
    go_ret
    exact ⟨ret_str (ho2.out ha).symm, rfl⟩
   ·have hn : b.toList = [] := Fg hb
    go_wp2
    exact ⟨⟨2, by go_num, by omega, fun _ => ha, fun _ => hb⟩, by simp [intOf]⟩
  ·have ha := hr1 (by omega)
   have hb := hr2 (by omega)
   go_wp2
   go_ret
   exact ⟨ret_str (hz.out ha hb).symm, rfl⟩
end Go.Proofs.YtefheailchihaaaGreatDoor.Print
namespace Go.Proofs.YtefheailchihaaaGreatDoor.Print
open Go.RowKit Go.Lib Go.Shelf Go.Proofs.YtefheailchihaaaGreatDoorW.PrintWords Go.Proofs.YtefheailchihaaaGreatDoorW.PrintLast Go.Proofs.YtefheailchihaaaGreatDoorW.PrintMore
theorem few_go : ∀ (k : Nat) (rest : ByteArray) (out : List S162) (bad : Bool) (N : Nat), Few N rest.size out → Few N 0 (cutGo k rest out bad).1 := by
 intro k
 induction k with
 | zero => intro rest out bad N h; exact few_le h (by omega)
 | succ k ih =>
  intro rest out bad N h
  simp only [cutGo]
  split
  ·exact ih _ _ _ _ (few_round rest h).1
  ·exact few_le h (by omega)
theorem few_cut (s : ByteArray) : Few 2048 0 (Gn s).1 := by
 unfold Gn
 split
 ·rename_i hp
  have h48 : s.size ≤ 2048 := by
   unfold Do at hp
   simp at hp
   omega
  split
  ·exact ⟨by simp, fun x hx => by simp at hx⟩
  ·exact few_go _ _ _ _ _ ⟨by simp; omega, fun x hx => by simp at hx⟩
 ·exact ⟨by simp, fun x hx => by simp at hx⟩
def Ey (l1 l2 : List S174) (p : S162) : ByteArray := if p.f0 = true then orB (Dh l1 p.f1) (Dh l2 p.f1) else p.f1
def Ew (l1 l2 : List S174) (ps : List S162) : List UInt8 := ps.flatMap fun p => (Ey l1 l2 p).data.toList
def C3 (s : ByteArray) (l1 l2 : List S174) : ByteArray × Int :=
 if (Gn s).2 = 0 ∧ C5 l1 = true ∧ C5 l2 = true then
  if (Ew l1 l2 (Gn s).1).length ≤ 256 then (⟨(Ew l1 l2 (Gn s).1).toArray⟩, 0) else (⟨#[]⟩, 501)
 else (⟨#[]⟩, 500)
def eval_Of.f (a0 : ByteArray) (l1 l2 : List S174) : Option (ByteArray × Int) := if a0.size ≤ 9223372036854775807 ∧ Ei l1 = true ∧ Ei l2 = true then some (C3 a0 l1 l2) else none
theorem get_small {l : List S174} (h : C5 l = true) (s : ByteArray) : (Dh l s).size ≤ 256 := by
 unfold Dh
 split
 ·rename_i h0
  have hlt := findS_lt l s
  obtain ⟨k, hk⟩ : ∃ k : Nat, Ea l s = k := ⟨(Ea l s).toNat, by omega⟩
  rw [hk] at hlt ⊢
  have := (((may_iff l).1 h).1 k (by omega)).2.1
  unfold Do at this
  simp at this
  have e : Bg l ((k : Nat) : Int) = Bg l k := rfl
  omega
 ·exact Nat.zero_le _
theorem val_small {l1 l2 : List S174} (h1 : C5 l1 = true) (h2 : C5 l2 = true) {p : S162} (hp : p.f1.size ≤ 2048) : (Ey l1 l2 p).size ≤ 2048 := by
 have g1 := get_small h1 p.f1
 have g2 := get_small h2 p.f1
 unfold Ey orB
 split
 ·split <;> omega
 ·exact hp
theorem out_snoc (l1 l2 : List S174) (ps : List S162) (k : Nat) (hk : k < ps.length) : Ew l1 l2 (ps.take (k + 1)) = Ew l1 l2 (ps.take k) ++ (Ey l1 l2 (Bn ps k)).data.toList := by
 have e : Bn ps ((k : Nat) : Int) = ps[k] := by simp [Bn, hk]
 unfold Ew
 rw [List.take_succ_eq_append_getElem hk, List.flatMap_append]
 show _ ++ _ = _ ++ (Ey l1 l2 (Bn ps ((k : Nat) : Int))).data.toList
 rw [e]
 simp
theorem out_len {l1 l2 : List S174} (h1 : C5 l1 = true) (h2 : C5 l2 = true) {ps : List S162} (hf : Few 2048 0 ps) (k : Nat) (hk : k ≤ ps.length) : (Ew l1 l2 (ps.take k)).length ≤ k * 2048 := by
 induction k with
 | zero => simp [Ew]
 | succ k ih =>
  rw [out_snoc l1 l2 ps k (by omega), List.length_append]
  have e : Bn ps ((k : Nat) : Int) = ps[k]'(by omega) := by simp [Bn, show k < ps.length by omega]
  have hs : (Bn ps ((k : Nat) : Int)).f1.size ≤ 2048 := by
   rw [e]
   have := hf.2 ps[k] (List.getElem_mem (by omega))
   omega
  have := val_small h1 h2 hs
  have hz : (Ey l1 l2 (Bn ps ((k : Nat) : Int))).data.toList.length = (Ey l1 l2 (Bn ps ((k : Nat) : Int))).size := by rw [Lib.size_eq]
  have := ih (by omega)
  show _ + (Ey l1 l2 (Bn ps ((k : Nat) : Int))).data.toList.length ≤ _
  omega
theorem cells_snoc (l1 l2 : List S174) (ps : List S162) (k : Nat) (hk : k < ps.length) : Lib.byteCells (Ew l1 l2 (ps.take (k + 1))) = Lib.byteCells (Ew l1 l2 (ps.take k)) ++ Lib.strCells (Ey l1 l2 (Bn ps k)) := by
 rw [out_snoc l1 l2 ps k hk, Lib.byteCells_append]
 rfl
theorem cutE_calls (s : ByteArray) (hs : s.size ≤ 9223372036854775807) (r1 : List S162) (r2 : Int) (w : World) (h : Gn s = (r1, r2)) :
 Calls Tryz.prog 121 #[.string s] w fun e w' => ∃ v0_ : Value, e = .returned (.tuple #[v0_, .int .i64 r2]) ∧ Kd.R k162 162 w' w.heap.size (fun _ => True) v0_ r1 ∧ Below w.heap.size w w' := by
 have := cut35_calls s hs w
 rw [h] at this
 exact this
theorem put_cell {w : World} {b o : Nat} {u v : Value} {ob : Obj} (h : w.cell? ⟨b, o, none⟩ = some u) : ((w.setCell ⟨b, o, none⟩ v).alloc ob).cell? ⟨b, o, none⟩ = some v := by
 have h1 := World.cell?_setCell_same w ⟨b, o, none⟩ v h
 rw [World.cell?_alloc_some _ _ _ (by rw [h1]; rfl), h1]
theorem carry3 {W0 W : World} {b o : Nat} {v : Value} (hb : Below W0.heap.size W0 W) (hz : b < W0.heap.size) (hc : W0.cell? ⟨b, o, none⟩ = some v) (hf : W0.frozen? ⟨b, o, none⟩ = false) :
 W.cell? ⟨b, o, none⟩ = some v ∧ W.frozen? ⟨b, o, none⟩ = false ∧ b < W.heap.size ∧ ¬ b = W.heap.size :=
 ⟨(hb.cell (p := ⟨b, o, none⟩) hz).trans hc, (hb.frozen (p := ⟨b, o, none⟩) hz).trans hf, Nat.lt_of_lt_of_le hz hb.size, by have := hb.size; omega⟩
theorem eval_calls (s : ByteArray) (hs : s.size ≤ 9223372036854775807) (A1 : Option Addr) (c1 : Nat) (l1 : List S174) (A2 : Option Addr) (c2 : Nat) (l2 : List S174) (w : World) (hr1 : Kd.C k174 w A1 l1.length l1) (hL1 : Ei l1 = true) (hc1 : l1.length ≤ c1)
 (hr2 : Kd.C k174 w A2 l2.length l2) (hL2 : Ei l2 = true) (hc2 : l2.length ≤ c2) :
 Calls Tryz.prog 92 #[.string s, .slice A1 l1.length c1, .slice A2 l2.length c2] w fun e w' => e = .returned (.tuple #[.string (C3 s l1 l2).1, .int .i64 (C3 s l1 l2).2]) ∧ Below w.heap.size w w' := by
 have HR1 := Aa.mk hr1
 have HR2 := Aa.mk hr2
 have HL1 := Lib.hid hL1
 have HL2 := Lib.hid hL2
 have HE : Hid (C3 s l1 l2 = if (Gn s).2 = 0 ∧ C5 l1 = true ∧ C5 l2 = true then
  if (Ew l1 l2 (Gn s).1).length ≤ 256 then (⟨(Ew l1 l2 (Gn s).1).toArray⟩, 0) else (⟨#[]⟩, 501)
  else (⟨#[]⟩, 500)) := rfl
 have hfew := few_cut s
 obtain ⟨⟨ps, e0⟩, hP⟩ : ∃ p, Gn s = p := ⟨_, rfl⟩
 rw [hP] at HE hfew
 simp only [] at HE hfew
 have HCUT := Lib.hid hP
 have HFEW := Aa.mk hfew
 have hpl : ps.length ≤ 2048 := by have := hfew.1; omega
 obtain ⟨M1, hM1⟩ : ∃ M, C5 l1 = M := ⟨_, rfl⟩
 obtain ⟨M2, hM2⟩ : ∃ M, C5 l2 = M := ⟨_, rfl⟩
 have HM1 := Lib.hid hM1
 have HM2 := Lib.hid hM2
 rw [hM1, hM2] at HE
 clear hr1 hr2 hL1 hL2 hfew hP hM1 hM2
 by_cases h0 : e0 = 0
 ·subst h0
  cases M1
  ·rw [if_neg (by simp)] at HE
   go_enter Tryz.func92, Tryz.ntmps92
   go_wp2_with fail
   refine (cutE_calls s hs ps 0 _ HCUT.out).mono ?_
   rintro e w1 ⟨v1, rfl, hR, hb1⟩
   clear hR
   have HB1 := Aa.mk hb1
   clear hb1
   go_wp2_with fail
   refine (Es _ _ _ _ (Kd.Bb HR1.out HB1.out) HL1.out).mono ?_
   rintro e w2 ⟨rfl, hb2⟩
   rw [HM1.out]
   go_wp2_with fail
   go_ret2
   rw [HE.out]
   exact ⟨rfl, bel HB1.out hb2⟩
  ·cases M2
   ·rw [if_neg (by simp)] at HE
    go_enter Tryz.func92, Tryz.ntmps92
    go_wp2_with fail
    refine (cutE_calls s hs ps 0 _ HCUT.out).mono ?_
    rintro e w1 ⟨v1, rfl, hR, hb1⟩
    clear hR
    have HB1 := Aa.mk hb1
    clear hb1
    go_wp2_with fail
    refine (Es _ _ _ _ (Kd.Bb HR1.out HB1.out) HL1.out).mono ?_
    rintro e w2 ⟨rfl, hb2⟩
    have HB2 := Aa.mk hb2
    clear hb2
    rw [HM1.out]
    go_wp2_with fail
    refine (Es _ _ _ _ (Kd.Bb HR2.out (bel HB1.out HB2.out)) HL2.out).mono ?_
    rintro e w3 ⟨rfl, hb3⟩
    rw [HM2.out]
    go_wp2_with fail
    go_ret2
    rw [HE.out]
    exact ⟨rfl, bel (bel HB1.out HB2.out) hb3⟩
   ·rw [if_pos ⟨rfl, rfl, rfl⟩] at HE
    go_enter Tryz.func92, Tryz.ntmps92
    go_wp2_with fail
    refine (cutE_calls s hs ps 0 _ HCUT.out).mono ?_
    rintro e w1 ⟨v1, rfl, hR, hb1⟩
    obtain ⟨Ap, cp, hv1, hcp, hCp⟩ := Kd.Dl hR
    subst hv1
    have HCP := Aa.mk hCp
    have HB1 := Aa.mk hb1
    clear hR hCp hb1
    go_wp2_with fail
    refine (Es _ _ _ _ (Kd.Bb HR1.out HB1.out) HL1.out).mono ?_
    rintro e w2 ⟨rfl, hb2⟩
    have HB2 := Aa.mk hb2
    clear hb2
    rw [HM1.out]
    go_wp2_with fail
    refine (Es _ _ _ _ (Kd.Bb HR2.out (bel HB1.out HB2.out)) HL2.out).mono ?_
    rintro e w3 ⟨rfl, hb3⟩
    rw [HM2.out]
    have HC3 := Aa.mk (Kd.Bb HCP.out (bel HB2.out hb3))
    have HB3 := Aa.mk (bel (bel HB1.out HB2.out) hb3)
    clear hb3 HCP HB1 HB2
    go_wp2_with fail
    go_loopw [32] (fun v32 wr => ∃ k : Nat, v32 = .int .i64 k ∧ k ≤ ps.length ∧ Aa (Lib.IsBuilder 160 5 w3.heap.size w3.heap.size (Lib.byteCells (Ew l1 l2 (ps.take k))) wr) ∧ Aa (Below w3.heap.size w3 wr)) (fun v32 _ => ps.length - (intOf v32).toNat)
    case atStart => exact ⟨0, rfl, by omega, ⟨Lib.fresh_isBuilder 160 5 w3⟩, ⟨(Below.refl _ _).alloc (Nat.le_refl _) _⟩⟩
    case round =>
     obtain ⟨k, rfl, hk, hbu, hbw⟩ := hrel
     by_cases hlt : k < ps.length
     ·have hlen0 := out_len HM1.out HM2.out HFEW.out k hk
      have hlen : (Lib.byteCells (Ew l1 l2 (ps.take k))).length ≤ 4194304 := by rw [Lib.byteCells_length]; omega
      have hsn := Lib.hid (cells_snoc l1 l2 ps k hlt)
      have hvs : (Ey l1 l2 (Bn ps k)).size ≤ 2048 := val_small HM1.out HM2.out (by
       have e : Bn ps ((k : Nat) : Int) = ps[k] := by simp [Bn, hlt]
       have := HFEW.out.2 ps[k] (List.getElem_mem hlt)
       show (Bn ps ((k : Nat) : Int)).f1.size ≤ 2048
       rw [e]
       omega)
      have hpv : Hid (Ey l1 l2 (Bn ps k) = if (Bn ps k).f0 = true then orB (Dh l1 (Bn ps k).f1) (Dh l2 (Bn ps k).f1) else (Bn ps k).f1) := rfl
      obtain ⟨ad, ea, f0, f1⟩ := at_T162 (Kd.Bb HC3.out hbw.out) (k : Int) (by omega) (by omega)
      subst ea
      simp only [Int.toNat_natCast] at f0 f1
      obtain ⟨V, hV⟩ : ∃ V, Ey l1 l2 (Bn ps k) = V := ⟨_, rfl⟩
      rw [hV] at hsn hvs hpv
      clear hV
      generalize Bn ps (k : Int) = p at *
      obtain ⟨b0, nm⟩ := p
      simp only [] at f0 f1 hpv
      generalize Lib.byteCells (Ew l1 l2 (ps.take k)) = cur at *
      have hwr : w3.heap.size ≤ wr.heap.size := hbw.out.size
      cases b0
      ·rw [if_neg (by decide)] at hpv
       have hV := hpv.out
       subst hV
       go_wp2_with fail
       refine (F6 w3.heap.size w3.heap.size cur V _ (builder_below hbu.out ((Below.refl _ _).alloc (Nat.le_refl _) _)) (by omega) (by simp; omega)).mono ?_
       rintro e w5 ⟨rfl, hbu5, hb5⟩
       have HB5 := Aa.mk hbu5
       have HW5 := Aa.mk ((hbw.out.alloc hwr (.cells #[.bool false, .string V] 162)).trans hb5)
       clear hbu5 hb5
       go_wp2_with fail
       exact ⟨⟨k + 1, by go_num, by omega, ⟨by rw [hsn.out]; exact .inr HB5.out⟩, HW5⟩, by simp [intOf]; omega⟩
      ·rw [if_pos rfl] at hpv
       have hcall1 : ∀ W, Below w3.heap.size w3 W → Calls Tryz.prog 124 #[.slice A1 l1.length c1, .string nm] W fun e w' => e = .returned (.string (Dh l1 nm)) ∧ Below W.heap.size W w' := fun W hW =>
        scope_Get.calls A1 c1 l1 nm _ W (Kd.Bb HR1.out (bel HB3.out hW)) hc1 (by unfold scope_Get.f; rw [if_pos HL1.out])
       have hcall2 : ∀ W, Below w3.heap.size w3 W → Calls Tryz.prog 124 #[.slice A2 l2.length c2, .string nm] W fun e w' => e = .returned (.string (Dh l2 nm)) ∧ Below W.heap.size W w' := fun W hW =>
        scope_Get.calls A2 c2 l2 nm _ W (Kd.Bb HR2.out (bel HB3.out hW)) hc2 (by unfold scope_Get.f; rw [if_pos HL2.out])
       have H1 := Lib.hid hcall1
       have H2 := Lib.hid hcall2
       clear hcall1 hcall2
       generalize Dh l1 nm = x1 at *
       generalize Dh l2 nm = x2 at *
       go_upto_region 9 with (fail)
       have hp1 : (wr.alloc (.cells #[.bool true, .string nm] 162)).cell? ⟨wr.heap.size, 1, none⟩ = some (.string nm) := by simp
       have hpf : (wr.alloc (.cells #[.bool true, .string nm] 162)).frozen? ⟨wr.heap.size, 1, none⟩ = false := by simp
       have hpz : wr.heap.size < (wr.alloc (.cells #[.bool true, .string nm] 162)).heap.size := by simp
       have hpb := Aa.mk ((Below.refl wr.heap.size wr).alloc (Nat.le_refl _) (.cells #[.bool true, .string nm] 162))
       have HWP := Aa.mk (hbw.out.alloc hwr (.cells #[.bool true, .string nm] 162))
       generalize hsz0 : wr.heap.size = pb at hp1 hpf hpz ⊢
       generalize wr.alloc (.cells #[.bool true, .string nm] 162) = Wp at *
       have HSZ0 := Lib.hid hsz0
       clear hsz0 f0 f1 hbw
       have hdr := Aa.mk (show Wp.drew.cell? ⟨pb, 1, none⟩ = some (.string nm) ∧ Wp.drew.frozen? ⟨pb, 1, none⟩ = false ∧ pb < Wp.drew.heap.size from ⟨by simpa using hp1, by simpa using hpf, by simpa using hpz⟩)
       go_region_with (first | (go_at_call 124; with_reducible refine (H1.out _ ?hb).mono ?_; (case hb => exact HWP.out.drew); rintro e w5 ⟨rfl, b1⟩; obtain ⟨q5, f5, z5, n5⟩ := carry3 b1 hdr.out.2.2 hdr.out.1 hdr.out.2.1; have B5 := Aa.mk (Fu HWP.out.drew b1); have D5 := Aa.mk (Fu hpb.out.drew b1); clear b1) | (go_at_call 124; with_reducible refine (H2.out _ ?hb).mono ?_; (case hb => exact B5.out); rintro e w6 ⟨rfl, b2⟩; obtain ⟨q6, f6, z6, n6⟩ := carry3 b2 z5 q5 f5; have B6 := Aa.mk (Fu B5.out b2); have D6 := Aa.mk (Fu D5.out b2); clear b2) | (go_at_call 123; with_reducible refine (or_calls _ x1 x2 _ ?c0 ?c1).mono ?_; (case c0 => simp); (case c1 => simp); rintro e w7 ⟨rfl, rfl⟩))
       all_goals
        rw [← hpv.out]
        have hq7 : ((w6.setCell ⟨pb, 1, none⟩ (.string V)).alloc (.cells #[.string x1, .string x2] 9)).cell? ⟨pb, 1, none⟩ = some (.string V) := put_cell q6
        have DW := Aa.mk ((D6.out.setCell (p := ⟨pb, 1, none⟩) (by rw [HSZ0.out]; exact Nat.le_refl _) (.string V)).alloc (by have := D6.out.size; simpa using this) (.cells #[.string x1, .string x2] 9))
        have BW := Aa.mk ((B6.out.setCell (p := ⟨pb, 1, none⟩) (by rw [← HSZ0.out]; exact hwr) (.string V)).alloc (by have := B6.out.size; simpa using this) (.cells #[.string x1, .string x2] 9))
        clear H1 H2 hp1 hpf hpz hdr q5 f5 z5 n5 B5 D5 q6 f6 z6 n6 B6 D6 hpb HWP hpv
        generalize (w6.setCell ⟨pb, 1, none⟩ (.string V)).alloc (.cells #[.string x1, .string x2] 9) = W7 at *
        go_wp2_with fail
        refine (F6 w3.heap.size w3.heap.size cur V _ (builder_below hbu.out DW.out) (by omega) BW.out.size).mono ?_
        rintro e w8 ⟨rfl, hbu5, hb5⟩
        have HB5 := Aa.mk hbu5
        have HW5 := Aa.mk (BW.out.trans hb5)
        clear hbu5 hb5
        go_wp2_with fail
        exact ⟨⟨k + 1, by go_num, by omega, ⟨by rw [hsn.out]; exact .inr HB5.out⟩, HW5⟩, by simp [intOf]; omega⟩
     ·obtain rfl : k = ps.length := by omega
      rw [List.take_length] at hbu
      obtain ⟨O, hO⟩ : ∃ O, Ew l1 l2 ps = O := ⟨_, rfl⟩
      rw [hO] at hbu HE
      clear hO
      have hlb : (Lib.byteCells O).length = O.length := Lib.byteCells_length O
      go_wp2_with fail
      refine (Tryz.Builder_Len _ _ _ _ hbu.out).mono ?_
      rintro e wq ⟨rfl, hq⟩
      subst hq
      rw [hlb]
      have hsz := hbw.out.size
      by_cases h256 : O.length ≤ 256
      ·rw [if_pos h256] at HE
       go_wp2_with fail
       refine (Tryz.Builder_String_any _ _ O _ hbu.out hsz).mono ?_
       rintro e w9 ⟨rfl, hb9⟩
       have HB9 := Aa.mk (bel HB3.out (hbw.out.trans hb9))
       clear hb9
       go_wp2_with fail
       go_ret2
       rw [HE.out]
       exact ⟨rfl, HB9.out⟩
      ·rw [if_neg h256] at HE
       go_wp2_with fail
       go_ret2
       rw [HE.out]
       exact ⟨rfl, bel HB3.out hbw.out⟩
 ·rw [if_neg (fun h => h0 h.1)] at HE
  have he : (e0 == 0) = false := beq_eq_false_iff_ne.2 h0
  have hen : (e0 != 0) = true := bne_iff_ne.2 h0
  go_enter Tryz.func92, Tryz.ntmps92
  go_wp2_with fail
  refine (cutE_calls s hs ps e0 _ HCUT.out).mono ?_
  rintro e w1 ⟨v1, rfl, hR, hb1⟩
  clear hR
  go_wp2_with fail
  go_ret2
  rw [HE.out]
  exact ⟨rfl, hb1⟩
theorem eval_Of.calls (a0 : ByteArray) (A1 : Option Addr) (c1 : Nat) (l1 : List S174) (A2 : Option Addr) (c2 : Nat) (l2 : List S174) (r1 : ByteArray) (r2 : Int) (w : World) (hr1 : Kd.C k174 w A1 l1.length l1) (hc1 : l1.length ≤ c1) (hr2 : Kd.C k174 w A2 l2.length l2) (hc2 : l2.length ≤ c2) (h : eval_Of.f a0 l1 l2 = some (r1, r2)) :
 Calls Tryz.prog 92 #[.string a0, .slice A1 l1.length c1, .slice A2 l2.length c2] w fun e w' => e = .returned (.tuple #[.string r1, .int .i64 r2]) ∧ Below w.heap.size w w' := by
 unfold eval_Of.f at h
 split at h
 ·rename_i hs
  injection h with h
  have := eval_calls a0 hs.1 A1 c1 l1 A2 c2 l2 w hr1 hs.2.1 hc1 hr2 hs.2.2 hc2
  rw [h] at this
  exact this
 ·exact absurd h (by simp)
end Go.Proofs.YtefheailchihaaaGreatDoor.Print
end
section
namespace Go.Proofs.YtefheailchihaaaGreatDoor.Print
open Go.RowKit Go.Lib Go.Shelf Go.Proofs.YtefheailchihaaaGreatDoorW.PrintWords Go.Proofs.YtefheailchihaaaGreatDoorW.PrintLast Go.Proofs.YtefheailchihaaaGreatDoorW.PrintMore
theorem Bf {α : Type} {d : Kd α} {t base : Nat} {ok S : Nat → Prop} {w w1 : World} {v : Value} {xs : List α} (h : d.R t w base ok v xs) (hk : Kept w w1 S) (hS : ∀ k, S k → ∃ cells q, w.heap[k]? = some (.cells cells q (0, 0)) ∧ q ∉ t :: d.E) : d.R t w1 base ok v xs := by
 refine Kd.De (Kd.R_kept (Kd.Ex h) hk (fun k h1 h2 => ?_)) (fun k hk => hk.1)
 obtain ⟨_, _, _, q, hq, cells, hc⟩ := h1
 obtain ⟨cells2, q2, hc2, hq2⟩ := hS k h2
 rw [hc] at hc2
 simp only [Option.some.injEq, Obj.cells.injEq] at hc2
 exact hq2 (by rw [← hc2.2.1]; exact hq)
theorem Dj {w : World} {B : Nat} {vE vP vD vO vR fd fo : Value} {e : Int} (h : Pb w B vE vP vD vO vR fd fo e) {l : List Nat} (hl : 57 ∉ l) : ∀ k, k = B → ∃ cells q, w.heap[k]? = some (.cells cells q (0, 0)) ∧ q ∉ l := fun k hk => by subst hk; exact ⟨_, 57, h, hl⟩
def putL (l : List S174) (s t : ByteArray) : List S174 := if (Cn l s t).2 = 0 then (Cn l s t).1 else l
theorem put_calls (B : Nat) (vE vP vD vO vR fd fo : Value) (e : Int) (base : Nat) (v : Value) (l : List S174) (s t : ByteArray) (w : World) (h : Pb w B vE vP vD vO vR fd fo e) (hR : Kd.R k174 174 w base (fun _ => True) v l) (hbase : base ≤ w.heap.size) (hL : Ei l = true) (ht : t.size ≤ 9223372036854775807) :
 Calls Tryz.prog 93 #[.pointer (some ⟨B, 0, none⟩), v, .string s, .string t] w fun x w' => ∃ v' : Value, x = .returned v' ∧ Kd.R k174 174 w' base (fun _ => True) v' (putL l s t) ∧ Pb w' B vE vP vD vO vR fd fo (Db e (Cn l s t).2) ∧ Kept w w' (fun k => k = B) ∧ ∀ base, base ≤ B → Below base w w' := by
 obtain ⟨A, c, rfl, hlc, hC⟩ := Kd.Dl hR
 have HS := Lib.hid (scope_Set.calls A c l s t (Cn l s t).1 (Cn l s t).2 w hC hlc (by unfold scope_Set.f; rw [if_pos ⟨hL, ht⟩]))
 have hpu : putL l s t = if (Cn l s t).2 = 0 then (Cn l s t).1 else l := rfl
 rw [hpu]
 clear hpu
 generalize (Cn l s t).1 = r1 at *
 generalize (Cn l s t).2 = r2 at *
 have hB := Cq h
 have H := Lib.hid h
 have HR := Aa.mk hR
 clear h hR hC
 go_enter Tryz.func93, Tryz.ntmps93
 go_wp2_with (go_at_call 128; refine HS.out.mono ?_; rintro x w1 ⟨v1, rfl, hr, hb⟩; obtain ⟨A1, c1, rfl⟩ := Kd.Bd hr; have HR1 := Aa.mk hr; have HB1 := Aa.mk hb; clear hr hb)
 have hP1 := Cf H.out HB1.out
 refine (took_calls B vE vP vD vO vR fd fo e r2 _ hP1).mono ?_
 rintro x w2 ⟨rfl, hp, hk, hb⟩
 have HP2 := Aa.mk hp
 have HK2 := Aa.mk (Kept.then_ (Kept.of_below HB1.out (fun k => k = B)) hk (fun k hk => .inl hk))
 have HB2 := Aa.mk (fun base (h3 : base ≤ B) => (HB1.out.mono (by omega)).trans (hb base h3))
 have HN2 := Aa.mk (Bf HR1.out hk (Dj hP1 (by decide)))
 have HO2 := Aa.mk (Bf (Kd.Bj HR.out HB1.out) hk (Dj hP1 (by decide)))
 clear hp hk hb hP1
 by_cases h0 : r2 = 0
 ·subst h0
  go_wp2_with fail
  go_ret
  exact ⟨_, rfl, (by first | exact Kd.Dv HN2.out hbase | (rw [if_pos rfl]; exact Kd.Dv HN2.out hbase)), HP2.out, HK2.out, HB2.out⟩
 ·have h0b : (r2 != 0) = true := bne_iff_ne.2 h0
  go_wp2_with fail
  go_ret
  exact ⟨_, rfl, (by first | exact HO2.out | (rw [if_neg h0]; exact HO2.out)), HP2.out, HK2.out, HB2.out⟩
end Go.Proofs.YtefheailchihaaaGreatDoor.Print
end
section
namespace Go.Proofs.YtefheailchihaaaGreatDoor.Print
open Go.RowKit Go.Lib Go.Shelf Go.Proofs.YtefheailchihaaaGreatDoorW.PrintWords Go.Proofs.YtefheailchihaaaGreatDoorW.PrintLast Go.Proofs.YtefheailchihaaaGreatDoorW.PrintMore
attribute [local go_sem ↓] Go.wp_at_zero Go.wp_at_succ
theorem keepOne {wx W W' : World} {a : Addr} {x : Value} (h : W.cell? a = some x ∧ Aa (Below wx.heap.size wx W)) (hb : Below W.heap.size W W') : W'.cell? a = some x ∧ Aa (Below wx.heap.size wx W') :=
 ⟨Be hb h.1, ⟨h.2.out.trans (hb.mono h.2.out.size)⟩⟩
theorem heldOne {wx W : World} {a : Addr} {x : Value} (h : W.cell? a = some x ∧ Aa (Below wx.heap.size wx W)) : Below wx.heap.size wx W := h.2.out
theorem setv_calls (B : Nat) (vE vP vD vO vR fd fo : Value) (e : Int) (base : Nat) (v : Value) (l lo : List S174) (s value : ByteArray) (w : World) (h : Pb w B vE vP vD vO vR fd fo e) (hR : Kd.R k174 174 w base (fun _ => True) v l) (hO : Kd.R k174 174 w base (fun _ => True) vO lo) (hbase : base ≤ w.heap.size) (hL : Ei l = true) (hLo : Ei lo = true) (ht : value.size ≤ 9223372036854775807) (hE : (C3 value lo lo).1.size ≤ 9223372036854775807) :
 Calls Tryz.prog 46 #[.pointer (some ⟨B, 0, none⟩), v, .string s, .string value] w fun x w' => ∃ v' : Value, x = .returned v' ∧ Kd.R k174 174 w' base (fun _ => True) v' (putL l s (C3 value lo lo).1) ∧ Pb w' B vE vP vD vO vR fd fo (Db (Db e (C3 value lo lo).2) (Cn l s (C3 value lo lo).1).2) ∧ Kept w w' (fun k => k = B) ∧ ∀ base, base ≤ B → Below base w w' := by
 obtain ⟨A, c, rfl⟩ := Kd.Bd hR
 obtain ⟨Ao, co, rfl, hlco, hCo⟩ := Kd.Dl hO
 obtain ⟨⟨r1, r2⟩, hr⟩ : ∃ r, C3 value lo lo = r := ⟨_, rfl⟩
 have hcall : ∀ W, Below w.heap.size w W → Calls Tryz.prog 92 #[.string value, .slice Ao lo.length co, .slice Ao lo.length co] W fun e w' => e = .returned (.tuple #[.string r1, .int .i64 r2]) ∧ Below W.heap.size W w' := fun W hW =>
  eval_Of.calls value Ao co lo Ao co lo r1 r2 W (Kd.Bb hCo hW) hlco (Kd.Bb hCo hW) hlco (by unfold eval_Of.f; rw [if_pos ⟨ht, hLo, hLo⟩, hr])
 rw [hr] at hE ⊢
 simp only at hE ⊢
 have HC := Lib.hid hcall
 have hB := Cq h
 obtain ⟨_, _, _, c3, _, _, _, _, _⟩ := pb_cells h
 have H := Lib.hid h
 have HR := Aa.mk hR
 clear h hR hO hCo hcall hr
 go_enter Tryz.func46, Tryz.ntmps46
 have hbz := Aa.mk (Below.refl w.heap.size w)
 go_upto_region 1 with (fail)
 go_region_held3 (fun w' => w'.cell? ⟨B, 3, none⟩ = some (.slice Ao lo.length co) ∧ Aa (Below w.heap.size w w')) (first | exact keepOne ⟨c3, hbz⟩ (Below.refl _ _).drew | exact keepOne (by assumption) b9) (first | (go_at_call 92; refine (HC.out _ (heldOne (by assumption))).mono ?_; rintro e w9 ⟨rfl, b9⟩))
 rename_i hh
 have HB1 := Aa.mk (heldOne hh)
 clear hh
 have hP1 := Cf H.out HB1.out
 have hR1 := Kd.Bj HR.out HB1.out
 have HR1 := Aa.mk hR1
 have HT := Lib.hid (took_calls B vE vP vD _ vR fd fo e r2 w9 hP1)
 go_wp2_with (first | (go_at_call 86; refine HT.out.mono ?_; rintro x w2 ⟨rfl, hp, hk, hb⟩; have HP2 := Aa.mk hp; have HK2 := Aa.mk hk; have HB2 := Aa.mk hb; have HR2 := Aa.mk (Bf HR1.out hk (Dj hP1 (by decide))); clear hp hk hb) | (go_at_call 93; refine (put_calls B vE vP vD _ vR fd fo _ base _ l s r1 _ HP2.out HR2.out (Nat.le_trans hbase (Nat.le_trans HB1.out.size HK2.out.1)) hL hE).mono ?_; rintro x w3 ⟨v', rfl, hr, hp, hk, hb⟩; have HR3 := Aa.mk hr; have HP3 := Aa.mk hp; have HK3 := Aa.mk hk; have HB3 := Aa.mk hb; clear hr hp hk hb))
 go_ret
 exact ⟨_, rfl, HR3.out, HP3.out, Kept.then_ (Kept.then_ (Kept.of_below HB1.out _) HK2.out (fun k hk => .inl hk)) HK3.out (fun k hk => .inl hk), fun base hb => ((HB1.out.mono (by omega)).trans (HB2.out base hb)).trans (HB3.out base hb)⟩
theorem over82_calls (B Bp Br g o : Nat) (vE vP vD vO vR fd fo : Value) (e : Int) (cmd : ByteArray) (w : World) (h : Pb w B vE vP vD vO vR fd fo e) (hp : w.cell? ⟨Bp, 0, none⟩ = some (.pointer (some ⟨B, 0, none⟩))) (hr : w.cell? ⟨Br, 0, none⟩ = some (.pointer (some ⟨g, o, none⟩))) (hc : w.cell? ⟨g, o + 1, none⟩ = some (.string cmd)) :
 Calls Tryz.prog 82 #[.pointer (some ⟨Bp, 0, none⟩), .pointer (some ⟨Br, 0, none⟩)] w fun x w' => x = .returned (.tuple #[]) ∧ Pb w' B vE vP vD vO vR fd fo (B9 e (!cmd.toList.isEmpty)) ∧ Kept w w' (fun k => k = B) ∧ ∀ base, base ≤ B → Below base w w' := by
 have hcall : ∀ W, Below w.heap.size w W → Calls Tryz.prog 40 #[.pointer (some ⟨B, 0, none⟩), .bool (!cmd.toList.isEmpty)] W fun x w' => x = .returned (.tuple #[]) ∧ Pb w' B vE vP vD vO vR fd fo (B9 e (!cmd.toList.isEmpty)) ∧ Kept W w' (fun k => k = B) ∧ ∀ base, base ≤ B → Below base W w' := fun W hW => C6 B vE vP vD vO vR fd fo e _ W (Cf h hW)
 have HC := Lib.hid hcall
 have hB := Cq h
 clear hcall h
 have p1 : w.drew.cell? ⟨Bp, 0, none⟩ = some (.pointer (some ⟨B, 0, none⟩)) := by simpa using hp
 have p2 : w.drew.cell? ⟨Br, 0, none⟩ = some (.pointer (some ⟨g, o, none⟩)) := by simpa using hr
 have p3 : w.drew.cell? ⟨g, o + 1, none⟩ = some (.string cmd) := by simpa using hc
 go_enter Tryz.func82, Tryz.ntmps82
 go_upto_region 0 with (fail)
 go_region_with (first | (go_at_call 40; with_reducible refine (HC.out _ ?hb).mono ?_; (case hb => exact (Below.refl _ _).drew); rintro x w5 ⟨rfl, hp5, hk5, hb5⟩; have HP5 := Aa.mk hp5; have HK5 := Aa.mk hk5; have HB5 := Aa.mk hb5; clear hp5 hk5 hb5))
 all_goals (go_end0; exact ⟨rfl, HP5.out, HK5.out, fun base hb => ((Below.refl base w).drew).trans (HB5.out base hb)⟩)
theorem over84_calls (B Bp Br g o : Nat) (vE vP vD vO vR fd fo : Value) (e : Int) (cmd : Int) (w : World) (h : Pb w B vE vP vD vO vR fd fo e) (hp : w.cell? ⟨Bp, 0, none⟩ = some (.pointer (some ⟨B, 0, none⟩))) (hr : w.cell? ⟨Br, 0, none⟩ = some (.pointer (some ⟨g, o, none⟩))) (hc : w.cell? ⟨g, o + 1, none⟩ = some (.int .i64 cmd)) :
 Calls Tryz.prog 84 #[.pointer (some ⟨Bp, 0, none⟩), .pointer (some ⟨Br, 0, none⟩)] w fun x w' => x = .returned (.tuple #[]) ∧ Pb w' B vE vP vD vO vR fd fo (B9 e (decide (0 < cmd))) ∧ Kept w w' (fun k => k = B) ∧ ∀ base, base ≤ B → Below base w w' := by
 have hcall : ∀ W, Below w.heap.size w W → Calls Tryz.prog 40 #[.pointer (some ⟨B, 0, none⟩), .bool (decide (0 < cmd))] W fun x w' => x = .returned (.tuple #[]) ∧ Pb w' B vE vP vD vO vR fd fo (B9 e (decide (0 < cmd))) ∧ Kept W w' (fun k => k = B) ∧ ∀ base, base ≤ B → Below base W w' := fun W hW => C6 B vE vP vD vO vR fd fo e _ W (Cf h hW)
 have HC := Lib.hid hcall
 have hB := Cq h
 clear hcall h
 have p1 : w.drew.cell? ⟨Bp, 0, none⟩ = some (.pointer (some ⟨B, 0, none⟩)) := by simpa using hp
 have p2 : w.drew.cell? ⟨Br, 0, none⟩ = some (.pointer (some ⟨g, o, none⟩)) := by simpa using hr
 have p3 : w.drew.cell? ⟨g, o + 1, none⟩ = some (.int .i64 cmd) := by simpa using hc
 go_enter Tryz.func84, Tryz.ntmps84
 go_upto_region 0 with (fail)
 go_region_with (first | (go_at_call 40; with_reducible refine (HC.out _ ?hb).mono ?_; (case hb => exact (Below.refl _ _).drew); rintro x w5 ⟨rfl, hp5, hk5, hb5⟩; have HP5 := Aa.mk hp5; have HK5 := Aa.mk hk5; have HB5 := Aa.mk hb5; clear hp5 hk5 hb5))
 all_goals (go_end0; exact ⟨rfl, HP5.out, HK5.out, fun base hb => ((Below.refl base w).drew).trans (HB5.out base hb)⟩)
theorem deep88_calls (B Bp Bx X : Nat) (vE vP vD vO vR fd fo : Value) (e : Int) (e0 e1 e2 e3 e4 e5 e6 e7 e8 e9 e10 e11 v : Value) (base : Nat) (l lo : List S174) (s value : ByteArray) (w : World) (h : Pb w B vE vP vD vO vR fd fo e) (hp : w.cell? ⟨Bp, 0, none⟩ = some (.pointer (some ⟨B, 0, none⟩))) (hr : w.cell? ⟨Bx, 0, none⟩ = some (.pointer (some ⟨X, 0, none⟩)))
 (hBx : Bx ≠ B) (hBxl : Bx < w.heap.size) (hX : w.heap[X]? = some (.cells #[e0, e1, e2, e3, e4, e5, e6, e7, e8, e9, e10, e11, v] 124 (0, 0))) (hR : Kd.R k174 174 w base (fun _ => True) v l) (hO : Kd.R k174 174 w base (fun _ => True) vO lo) (hbase : base ≤ w.heap.size) (hL : Ei l = true) (hLo : Ei lo = true) (ht : value.size ≤ 9223372036854775807) (hE : (C3 value lo lo).1.size ≤ 9223372036854775807) :
 Calls Tryz.prog 88 #[.string s, .string value, .pointer (some ⟨Bp, 0, none⟩), .pointer (some ⟨Bx, 0, none⟩)] w fun x w' => ∃ v' : Value, x = .returned (.tuple #[]) ∧ Kd.R k174 174 w' base (fun _ => True) v' (putL l s (C3 value lo lo).1) ∧ w'.heap[X]? = some (.cells #[e0, e1, e2, e3, e4, e5, e6, e7, e8, e9, e10, e11, v'] 124 (0, 0)) ∧ Pb w' B vE vP vD vO vR fd fo (Db (Db e (C3 value lo lo).2) (Cn l s (C3 value lo lo).1).2) ∧ Kept w w' (fun k => k = B ∨ k = X) ∧ ∀ base, base ≤ B → base ≤ X → Below base w w' := by
 have hBX : X ≠ B := fun he => by
  subst he
  rw [h] at hX
  simp at hX
 have hBX' : B ≠ X := fun he => hBX he.symm
 obtain ⟨A, c, rfl⟩ := Kd.Bd hR
 have hdb : Below w.heap.size w w.drew := (Below.refl _ _).drew
 have HC := Lib.hid (setv_calls B vE vP vD vO vR fd fo e base _ l lo s value w.drew (Cf h hdb) (Kd.Bj hR hdb) (Kd.Bj hO hdb) hbase hL hLo ht hE)
 have p1 : w.drew.cell? ⟨Bp, 0, none⟩ = some (.pointer (some ⟨B, 0, none⟩)) := by simpa using hp
 have p2 : w.drew.cell? ⟨Bx, 0, none⟩ = some (.pointer (some ⟨X, 0, none⟩)) := by simpa using hr
 have hXd : w.drew.heap[X]? = some (.cells #[e0, e1, e2, e3, e4, e5, e6, e7, e8, e9, e10, e11, .slice A l.length c] 124 (0, 0)) := Aj hX hdb
 have p3 : w.drew.cell? ⟨X, 12, none⟩ = some (.slice A l.length c) := Ab hXd 12
 have HX := Lib.hid hXd
 have hXl := Cq hXd
 clear hX hXd hR hO h hdb
 go_enter Tryz.func88, Tryz.ntmps88
 go_upto_region 0 with (fail)
 go_region_with (first | (go_at_call 46; refine HC.out.mono ?_; rintro x w5 ⟨v', rfl, hr5, hp5, hk5, hb5⟩; obtain ⟨A5, c5, rfl⟩ := Kd.Bd hr5; have HR5 := Aa.mk hr5; have HP5 := Aa.mk hp5; have HK5 := Aa.mk hk5; have HB5 := Aa.mk hb5; have HX5 := Aa.mk ((hk5.2 X hXl hBX).trans HX.out); have q2 := (cell_heap (o := 0) (hk5.2 Bx hBxl hBx)).trans p2; have f12 := As HX5.out 12; have c12 := Ab HX5.out 12; clear hr5 hp5 hk5 hb5))
 all_goals (go_end0; exact ⟨_, rfl, Bf HR5.out (Bm _ X 12 _) (fun k hk => by have hk' : k = X := hk; subst hk'; exact ⟨_, 124, HX5.out, by decide⟩), Az HX5.out 12 _ rfl, E9 HP5.out hBX' _, Kept.then_ (Kept.mono (S' := fun k => k = B ∨ k = X) HK5.out (fun k hk => .inl hk)) (Bm _ X 12 _) (fun k hk => .inl (.inr hk)), fun base h1 h2 => (((Below.refl base w).drew).trans (HB5.out base h1)).setCell (p := ⟨X, 12, none⟩) h2 _⟩)
end Go.Proofs.YtefheailchihaaaGreatDoor.Print
end
