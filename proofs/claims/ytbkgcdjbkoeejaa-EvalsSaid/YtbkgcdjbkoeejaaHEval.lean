import Derived.Test.YtbkgcdjbkoeejaaShelf
import Derived.Test.YtbkgcdjbkoeejaaP0
import Derived.Test.YtbkgcdjbkoeejaaHSet
import Derived.Test.YtbkgcdjbkoeejaaQCut
import Derived.Test.YtbkgcdjbkoeejaaQSet
import Derived.Deep.RegionWith
import Derived.Deep.RegionHeld3
import Derived.Deep.DrawnRows
/- The contracts of a strings.Builder that the call itself has made: copyCheck and WriteString at this program's own text (the library's walks, at these numbers). -/
namespace Go.Proofs.Ytbkgcdjbkoeejaa.Print
open Go.RowKit Go.Lib Go.Shelf
set_option linter.unusedVariables false

theorem sizeBuilder : (Try.prog.info? 47).map (·.size) = some 2 := by kernel_rfl
theorem liesBuilder : liesAt Try.prog Try.prog.depth 47 (2 / Try.prog.cellsOf 47) 0 47 1 = true := by kernel_rfl
theorem infoByteB : (Try.prog.info? 5).map (fun i => (i.zero, i.size, i.bytes)) = some (some (.int .u8 0), 1, 1) := by kernel_rfl

set_option maxHeartbeats 1000000 in
set_option maxRecDepth 100000 in
theorem copyCheck_used (b : Nat) (w : World) (h0 : w.cell? ⟨b, 0, none⟩ = some (.pointer (some ⟨b, 0, none⟩))) :
    Calls Try.prog 35 #[.pointer (some ⟨b, 0, none⟩)] w fun e w' => e = .returned (.tuple #[]) ∧ w' = w := by
  obtain ⟨j, hj, _⟩ := Option.map_eq_some_iff.1 sizeBuilder
  have t72 := Try.underlying47; have t70 := Try.underlying44
  go_enter Try.func35, Try.ntmps35
  go_wp2
  rw [Lib.run_neq_ptr_same w _ Try.underlying44 hj]
  go_wp2
  go_end0
  exact ⟨rfl, rfl⟩

set_option maxHeartbeats 1000000 in
set_option maxRecDepth 100000 in
theorem copyCheck_fresh (b : Nat) (w : World) (h0 : w.cell? ⟨b, 0, none⟩ = some (.pointer none)) (hsh : w.shape? b = some (47, 2)) (hfz : w.frozen? ⟨b, 0, none⟩ = false) :
    Calls Try.prog 35 #[.pointer (some ⟨b, 0, none⟩)] w fun e w' => e = .returned (.tuple #[]) ∧ w' = w.setCell ⟨b, 0, none⟩ (.pointer (some ⟨b, 0, none⟩)) := by
  obtain ⟨j, hj, hjs⟩ := Option.map_eq_some_iff.1 sizeBuilder
  go_enter Try.func35, Try.ntmps35
  go_wp2
  rw [Lib.run_to_unsafe w ⟨b, 0, none⟩ Try.underlying44 Try.underlying77 hj (by rw [hjs]; decide) hsh (Nat.zero_lt_succ 1)]
  simp only [Result.andThen]
  rw [Oper.upon_value]
  go_wp2
  rw [run_callFunc_extern Try.func48 (by kernel_rfl) (by kernel_rfl) (by kernel_rfl) (e := Extern.AbiNoEscape.same) (by kernel_rfl)]
  rw [Lib.run_noEscape]
  simp only [Result.andThen]
  rw [Oper.upon_value]
  go_wp2
  rw [Lib.run_from_unsafe w ⟨b, 0, none⟩ Try.underlying77 Try.underlying44 hj hsh liesBuilder]
  simp only [Result.andThen]
  rw [Oper.upon_value]
  go_wp2
  go_end0
  exact ⟨rfl, rfl⟩

theorem copyCheck_calls (B b : Nat) (bs : List Value) (w : World) (h : Lib.IsBuilder 47 5 B b bs w) :
    Calls Try.prog 35 #[.pointer (some ⟨b, 0, none⟩)] w fun e w' => e = .returned (.tuple #[]) ∧ (Lib.BuilderAt 47 5 B b (.pointer (some ⟨b, 0, none⟩)) bs w' ∧ Below B w w') := by
  rcases h with h | h
  · refine (copyCheck_fresh b w h.cell0 h.shape h.frozen0).mono ?_
    rintro e w' ⟨rfl, rfl⟩
    exact ⟨rfl, h.used _, (Below.refl B w).setCell (p := ⟨b, 0, none⟩) h.1 _⟩
  · refine (copyCheck_used b w h.cell0).mono ?_
    rintro e w' ⟨rfl, rfl⟩
    exact ⟨rfl, h, Below.refl B _⟩

set_option maxHeartbeats 2000000 in
set_option maxRecDepth 100000 in
theorem writeString_calls (B b : Nat) (bs : List Value) (s : ByteArray) (w : World) (h : Lib.IsBuilder 47 5 B b bs w) (hlen : bs.length + s.size ≤ 140737488355328) (hBw : B ≤ w.heap.size) :
    Calls Try.prog 22 #[.pointer (some ⟨b, 0, none⟩), .string s] w fun e w' => e = .returned (.tuple #[.int .i64 s.size, .nilIface]) ∧ (Lib.BuilderAt 47 5 B b (.pointer (some ⟨b, 0, none⟩)) (bs ++ Lib.strCells s) w' ∧ Below B w w') := by
  obtain ⟨i0, hi, hz0, hz1, hz2⟩ := info_parts infoByteB
  go_enter Try.func22, Try.ntmps22
  go_wp2_with (go_at_call 35; refine (copyCheck_calls B b bs _ h).mono ?_)
  rintro e w1 ⟨rfl, h1, hb1⟩
  obtain ⟨hB, v, hbk, hown, hne⟩ := h1
  have c0 : w1.cell? ⟨b, 0, none⟩ = some (.pointer (some ⟨b, 0, none⟩)) := by rw [Lib.cell_of_heap hbk]; rfl
  have c1 : w1.cell? ⟨b, 1, none⟩ = some v := by rw [Lib.cell_of_heap hbk]; rfl
  go_wp2_with (at_builtin; refine Lib.wpList_append_own_string _ rfl _ _ 45 9 rfl B 5 i0 Try.underlying45 Try.underlying9 hi hz0 hz1 hz2 _ _ _ rfl hown s rfl ?c3 ?c4 ?c5 ?_)
  case c3 => unfold maxLen; omega
  case c4 => omega
  case c5 => have := hb1.size; omega
  intro v' w2 hown' hgrow _
  have hlt : b < w1.heap.size := by
    rcases Nat.lt_or_ge b w1.heap.size with h' | h'
    · exact h'
    · simp [Array.getElem?_eq_none h'] at hbk
  have hb2 : w2.heap[b]? = some (.cells #[.pointer (some ⟨b, 0, none⟩), v] 47 (0, 0)) := by
    rw [hgrow.block b hlt (fun e => hne e.symm)]
    exact hbk
  have d0 : w2.cell? ⟨b, 0, none⟩ = some (.pointer (some ⟨b, 0, none⟩)) := by rw [Lib.cell_of_heap hb2]; rfl
  have d1 : w2.cell? ⟨b, 1, none⟩ = some v := by rw [Lib.cell_of_heap hb2]; rfl
  have f1 : w2.frozen? ⟨b, 1, none⟩ = false := Lib.frozen_of_heap hb2 1
  obtain ⟨ao, n', cap, rfl⟩ : ∃ ao n' cap, v' = .slice ao n' cap := by
    rcases hown'.2 with ⟨hv, _⟩ | ⟨g, cap, cur, hv, _⟩
    · exact ⟨_, _, _, hv⟩
    · exact ⟨_, _, _, hv⟩
  go_wp2
  go_ret2
  refine ⟨rfl, ?_, ?_⟩
  · exact Lib.BuilderAt.put (T := 47) (e := 5) hB hb2 (bs' := bs ++ Lib.strCells s) (by simpa [Lib.strCells_length] using hown') (by decide)
  · exact (hb1.grown hgrow (by have := hb1.size; omega) (fun k hk => (hown.lt k hk).1)).setCell (p := ⟨b, 1, none⟩) hB _
end Go.Proofs.Ytbkgcdjbkoeejaa.Print

/- The contract of cmp.Or at two texts: the first one, if it is not empty, else the second. What a builder of the call's own is behind a call that makes memory. -/
namespace Go.Proofs.Ytbkgcdjbkoeejaa.Print
open Go.RowKit Go.Lib Go.Shelf Go.Proofs.YtbkgcdjbkoeejaaW.PrintWords Go.Proofs.YtbkgcdjbkoeejaaW.PrintLast Go.Proofs.YtbkgcdjbkoeejaaW.PrintMore
set_option linter.unusedVariables false

def orB (a b : ByteArray) : ByteArray := if 1 ≤ a.size then a else b

theorem grown_of_below {w w' : World} (hb : Below w.heap.size w w') : w.grownBy w' none := ⟨hb.os, hb.tape, hb.output, hb.size, fun k hk _ => hb.block k hk⟩
theorem builderAt_below {T e : TypeId} {B b : Nat} {p : Value} {bs : List Value} {w w' : World} (h : Lib.BuilderAt T e B b p bs w) (hb : Below w.heap.size w w') : Lib.BuilderAt T e B b p bs w' := by
  obtain ⟨hB, v, hbk, hown, hne⟩ := h
  have hlt : b < w.heap.size := by
    rcases Nat.lt_or_ge b w.heap.size with h' | h'
    · exact h'
    · simp [Array.getElem?_eq_none h'] at hbk
  refine ⟨hB, v, (hb.block b hlt).trans hbk, hown.kept (grown_of_below hb) ?_, hne⟩
  cases v.ownBlock with
  | none => exact .inl rfl
  | some k => exact .inr (by simp)
theorem builder_below {T e : TypeId} {B b : Nat} {bs : List Value} {w w' : World} (h : Lib.IsBuilder T e B b bs w) (hb : Below w.heap.size w w') : Lib.IsBuilder T e B b bs w' := by
  rcases h with h | h
  · exact .inl (builderAt_below h hb)
  · exact .inr (builderAt_below h hb)

set_option maxHeartbeats 1000000 in
set_option maxRecDepth 100000 in
theorem or_calls (g : Nat) (a b : ByteArray) (w : World) (h0 : w.cell? ⟨g, 0, none⟩ = some (.string a)) (h1 : w.cell? ⟨g, 1, none⟩ = some (.string b)) :
    Calls Try.prog 20 #[.slice (some ⟨g, 0, none⟩) 2 2] w fun e w' => e = .returned (.string (orB a b)) ∧ w = w' := by
  have ho1 : Hid (1 ≤ a.size → orB a b = a) := fun h => by unfold orB; rw [if_pos h]
  have ho2 : Hid (¬ 1 ≤ a.size → orB a b = b) := fun h => by unfold orB; rw [if_neg h]
  have hz : Hid (¬ 1 ≤ a.size → ¬ 1 ≤ b.size → orB a b = ⟨#[]⟩) := fun h h2 => by
    unfold orB; rw [if_neg h]
    exact ByteArray.ext (Array.eq_empty_of_size_eq_zero (by have : b.data.size = b.size := rfl; omega))
  go_enter Try.func20, Try.ntmps20
  go_wp2
  go_loop [8] (fun v8 => ∃ k : Nat, v8 = .int .i64 k ∧ k ≤ 2 ∧ (1 ≤ k → ¬ 1 ≤ a.size) ∧ (2 ≤ k → ¬ 1 ≤ b.size)) (fun v8 => 2 - (intOf v8).toNat)
  case atStart => exact ⟨0, rfl, by omega, by omega, by omega⟩
  case round =>
    obtain ⟨k, rfl, hk, hr1, hr2⟩ := hrel
    have hk3 : k = 0 ∨ k = 1 ∨ k = 2 := by omega
    rcases hk3 with rfl | rfl | rfl
    · by_cases ha : 1 ≤ a.size
      · have hn : (a.toList == []) = false := beq_eq_false_iff_ne.2 (size_some ha)
        go_wp2
        go_ret
        exact ⟨ret_str (ho1.out ha).symm, rfl⟩
      · have hn : a.toList = [] := size_nil ha
        go_wp2
        exact ⟨⟨1, by go_num, by omega, fun _ => ha, by omega⟩, by simp [intOf]⟩
    · have ha := hr1 (by omega)
      by_cases hb : 1 ≤ b.size
      · have hn : (b.toList == []) = false := beq_eq_false_iff_ne.2 (size_some hb)
        go_wp2
        go_ret
        exact ⟨ret_str (ho2.out ha).symm, rfl⟩
      · have hn : b.toList = [] := size_nil hb
        go_wp2
        exact ⟨⟨2, by go_num, by omega, fun _ => ha, fun _ => hb⟩, by simp [intOf]⟩
    · have ha := hr1 (by omega)
      have hb := hr2 (by omega)
      go_wp2
      go_ret
      exact ⟨ret_str (hz.out ha hb).symm, rfl⟩
end Go.Proofs.Ytbkgcdjbkoeejaa.Print

/- The contract of eval.Of: a text's value, of any text and scopes of a length that Go has. -/
namespace Go.Proofs.Ytbkgcdjbkoeejaa.Print
open Go.RowKit Go.Lib Go.Shelf Go.Proofs.YtbkgcdjbkoeejaaW.PrintWords Go.Proofs.YtbkgcdjbkoeejaaW.PrintLast Go.Proofs.YtbkgcdjbkoeejaaW.PrintMore
set_option linter.unusedVariables false

theorem few_go : ∀ (k : Nat) (rest : ByteArray) (out : List S49) (bad : Bool) (N : Nat), Few N rest.size out → Few N 0 (cutGo k rest out bad).1 := by
  intro k
  induction k with
  | zero => intro rest out bad N h; exact few_le h (by omega)
  | succ k ih =>
    intro rest out bad N h
    simp only [cutGo]
    split
    · exact ih _ _ _ _ (few_round rest h).1
    · exact few_le h (by omega)
theorem few_cut (s : ByteArray) : Few 2048 0 (cutOf s).1 := by
  unfold cutOf
  split
  · rename_i hp
    have h48 : s.size ≤ 2048 := by
      unfold plainB at hp
      simp at hp
      omega
    split
    · exact ⟨by simp, fun x hx => by simp at hx⟩
    · exact few_go _ _ _ _ _ ⟨by simp; omega, fun x hx => by simp at hx⟩
  · exact ⟨by simp, fun x hx => by simp at hx⟩

/-! plain -/
def pieceVal (l1 l2 : List S34) (p : S49) : ByteArray := if p.f0 = true then orB (scopeGet l1 p.f1) (scopeGet l2 p.f1) else p.f1
def evalOut (l1 l2 : List S34) (ps : List S49) : List UInt8 := ps.flatMap fun p => (pieceVal l1 l2 p).data.toList
def evalOf (s : ByteArray) (l1 l2 : List S34) : ByteArray × Int :=
  if (cutOf s).2 = 0 ∧ scopeMay l1 = true ∧ scopeMay l2 = true then
    if (evalOut l1 l2 (cutOf s).1).length ≤ 256 then (⟨(evalOut l1 l2 (cutOf s).1).toArray⟩, 0) else (⟨#[]⟩, 501)
  else (⟨#[]⟩, 500)
def eval_Of.f (a0 : ByteArray) (l1 l2 : List S34) : Option (ByteArray × Int) := if a0.size ≤ 9223372036854775807 ∧ longOk l1 = true ∧ longOk l2 = true then some (evalOf a0 l1 l2) else none

theorem get_small {l : List S34} (h : scopeMay l = true) (s : ByteArray) : (scopeGet l s).size ≤ 256 := by
  unfold scopeGet
  split
  · rename_i h0
    have hlt := findS_lt l s
    obtain ⟨k, hk⟩ : ∃ k : Nat, findS l s = k := ⟨(findS l s).toNat, by omega⟩
    rw [hk] at hlt ⊢
    have := (((may_iff l).1 h).1 k (by omega)).2.1
    unfold plainB at this
    simp at this
    have e : rd_T34 l ((k : Nat) : Int) = rd_T34 l k := rfl
    omega
  · exact Nat.zero_le _
theorem val_small {l1 l2 : List S34} (h1 : scopeMay l1 = true) (h2 : scopeMay l2 = true) {p : S49} (hp : p.f1.size ≤ 2048) : (pieceVal l1 l2 p).size ≤ 2048 := by
  have g1 := get_small h1 p.f1
  have g2 := get_small h2 p.f1
  unfold pieceVal orB
  split
  · split <;> omega
  · exact hp
theorem out_snoc (l1 l2 : List S34) (ps : List S49) (k : Nat) (hk : k < ps.length) : evalOut l1 l2 (ps.take (k + 1)) = evalOut l1 l2 (ps.take k) ++ (pieceVal l1 l2 (rd_T49 ps k)).data.toList := by
  have e : rd_T49 ps ((k : Nat) : Int) = ps[k] := by simp [rd_T49, hk]
  unfold evalOut
  rw [List.take_succ_eq_append_getElem hk, List.flatMap_append]
  show _ ++ _ = _ ++ (pieceVal l1 l2 (rd_T49 ps ((k : Nat) : Int))).data.toList
  rw [e]
  simp
theorem out_len {l1 l2 : List S34} (h1 : scopeMay l1 = true) (h2 : scopeMay l2 = true) {ps : List S49} (hf : Few 2048 0 ps) (k : Nat) (hk : k ≤ ps.length) : (evalOut l1 l2 (ps.take k)).length ≤ k * 2048 := by
  induction k with
  | zero => simp [evalOut]
  | succ k ih =>
    rw [out_snoc l1 l2 ps k (by omega), List.length_append]
    have e : rd_T49 ps ((k : Nat) : Int) = ps[k]'(by omega) := by simp [rd_T49, show k < ps.length by omega]
    have hs : (rd_T49 ps ((k : Nat) : Int)).f1.size ≤ 2048 := by
      rw [e]
      have := hf.2 ps[k] (List.getElem_mem (by omega))
      omega
    have := val_small h1 h2 hs
    have hz : (pieceVal l1 l2 (rd_T49 ps ((k : Nat) : Int))).data.toList.length = (pieceVal l1 l2 (rd_T49 ps ((k : Nat) : Int))).size := by rw [Lib.size_eq]
    have := ih (by omega)
    show _ + (pieceVal l1 l2 (rd_T49 ps ((k : Nat) : Int))).data.toList.length ≤ _
    omega
theorem cells_snoc (l1 l2 : List S34) (ps : List S49) (k : Nat) (hk : k < ps.length) : Lib.byteCells (evalOut l1 l2 (ps.take (k + 1))) = Lib.byteCells (evalOut l1 l2 (ps.take k)) ++ Lib.strCells (pieceVal l1 l2 (rd_T49 ps k)) := by
  rw [out_snoc l1 l2 ps k hk, Lib.byteCells_append]
  rfl

theorem cutE_calls (s : ByteArray) (hs : s.size ≤ 9223372036854775807) (r1 : List S49) (r2 : Int) (w : World) (h : cutOf s = (r1, r2)) :
    Calls Try.prog 18 #[.string s] w fun e w' => ∃ v0_ : Value, e = .returned (.tuple #[v0_, .int .i64 r2]) ∧ Kd.R k49 49 w' w.heap.size (fun _ => True) v0_ r1 ∧ Below w.heap.size w w' := by
  have := cut35_calls s hs w
  rw [h] at this
  exact this
theorem put_cell {w : World} {b o : Nat} {u v : Value} {ob : Obj} (h : w.cell? ⟨b, o, none⟩ = some u) : ((w.setCell ⟨b, o, none⟩ v).alloc ob).cell? ⟨b, o, none⟩ = some v := by
  have h1 := World.cell?_setCell_same w ⟨b, o, none⟩ v h
  rw [World.cell?_alloc_some _ _ _ (by rw [h1]; rfl), h1]
theorem carry3 {W0 W : World} {b o : Nat} {v : Value} (hb : Below W0.heap.size W0 W) (hz : b < W0.heap.size) (hc : W0.cell? ⟨b, o, none⟩ = some v) (hf : W0.frozen? ⟨b, o, none⟩ = false) :
    W.cell? ⟨b, o, none⟩ = some v ∧ W.frozen? ⟨b, o, none⟩ = false ∧ b < W.heap.size ∧ ¬ b = W.heap.size :=
  ⟨(hb.cell (p := ⟨b, o, none⟩) hz).trans hc, (hb.frozen (p := ⟨b, o, none⟩) hz).trans hf, Nat.lt_of_lt_of_le hz hb.size, by have := hb.size; omega⟩

set_option maxHeartbeats 4000000 in
set_option maxRecDepth 100000 in
theorem eval_calls (s : ByteArray) (hs : s.size ≤ 9223372036854775807) (A1 : Option Addr) (c1 : Nat) (l1 : List S34) (A2 : Option Addr) (c2 : Nat) (l2 : List S34) (w : World) (hr1 : Kd.C k34 w A1 l1.length l1) (hL1 : longOk l1 = true) (hc1 : l1.length ≤ c1)
    (hr2 : Kd.C k34 w A2 l2.length l2) (hL2 : longOk l2 = true) (hc2 : l2.length ≤ c2) :
    Calls Try.prog 9 #[.string s, .slice A1 l1.length c1, .slice A2 l2.length c2] w fun e w' => e = .returned (.tuple #[.string (evalOf s l1 l2).1, .int .i64 (evalOf s l1 l2).2]) ∧ Below w.heap.size w w' := by
  have HR1 := Aside0.mk hr1
  have HR2 := Aside0.mk hr2
  have HL1 := Lib.hid hL1
  have HL2 := Lib.hid hL2
  have HE : Hid (evalOf s l1 l2 = if (cutOf s).2 = 0 ∧ scopeMay l1 = true ∧ scopeMay l2 = true then
    if (evalOut l1 l2 (cutOf s).1).length ≤ 256 then (⟨(evalOut l1 l2 (cutOf s).1).toArray⟩, 0) else (⟨#[]⟩, 501)
    else (⟨#[]⟩, 500)) := rfl
  have hfew := few_cut s
  obtain ⟨⟨ps, e0⟩, hP⟩ : ∃ p, cutOf s = p := ⟨_, rfl⟩
  rw [hP] at HE hfew
  simp only [] at HE hfew
  have HCUT := Lib.hid hP
  have HFEW := Aside0.mk hfew
  have hpl : ps.length ≤ 2048 := by have := hfew.1; omega
  obtain ⟨M1, hM1⟩ : ∃ M, scopeMay l1 = M := ⟨_, rfl⟩
  obtain ⟨M2, hM2⟩ : ∃ M, scopeMay l2 = M := ⟨_, rfl⟩
  have HM1 := Lib.hid hM1
  have HM2 := Lib.hid hM2
  rw [hM1, hM2] at HE
  clear hr1 hr2 hL1 hL2 hfew hP hM1 hM2
  by_cases h0 : e0 = 0
  · subst h0
    cases M1
    · rw [if_neg (by simp)] at HE
      go_enter Try.func9, Try.ntmps9
      go_wp2_with fail
      refine (cutE_calls s hs ps 0 _ HCUT.out).mono ?_
      rintro e w1 ⟨v1, rfl, hR, hb1⟩
      clear hR
      have HB1 := Aside0.mk hb1
      clear hb1
      go_wp2_with fail
      refine (scope_May_calls _ _ _ _ (Kd.C_below HR1.out HB1.out) HL1.out).mono ?_
      rintro e w2 ⟨rfl, hb2⟩
      rw [HM1.out]
      go_wp2_with fail
      go_ret2
      rw [HE.out]
      exact ⟨rfl, bel HB1.out hb2⟩
    · cases M2
      · rw [if_neg (by simp)] at HE
        go_enter Try.func9, Try.ntmps9
        go_wp2_with fail
        refine (cutE_calls s hs ps 0 _ HCUT.out).mono ?_
        rintro e w1 ⟨v1, rfl, hR, hb1⟩
        clear hR
        have HB1 := Aside0.mk hb1
        clear hb1
        go_wp2_with fail
        refine (scope_May_calls _ _ _ _ (Kd.C_below HR1.out HB1.out) HL1.out).mono ?_
        rintro e w2 ⟨rfl, hb2⟩
        have HB2 := Aside0.mk hb2
        clear hb2
        rw [HM1.out]
        go_wp2_with fail
        refine (scope_May_calls _ _ _ _ (Kd.C_below HR2.out (bel HB1.out HB2.out)) HL2.out).mono ?_
        rintro e w3 ⟨rfl, hb3⟩
        rw [HM2.out]
        go_wp2_with fail
        go_ret2
        rw [HE.out]
        exact ⟨rfl, bel (bel HB1.out HB2.out) hb3⟩
      · rw [if_pos ⟨rfl, rfl, rfl⟩] at HE
        go_enter Try.func9, Try.ntmps9
        go_wp2_with fail
        refine (cutE_calls s hs ps 0 _ HCUT.out).mono ?_
        rintro e w1 ⟨v1, rfl, hR, hb1⟩
        obtain ⟨Ap, cp, hv1, hcp, hCp⟩ := Kd.R_reads hR
        subst hv1
        have HCP := Aside0.mk hCp
        have HB1 := Aside0.mk hb1
        clear hR hCp hb1
        go_wp2_with fail
        refine (scope_May_calls _ _ _ _ (Kd.C_below HR1.out HB1.out) HL1.out).mono ?_
        rintro e w2 ⟨rfl, hb2⟩
        have HB2 := Aside0.mk hb2
        clear hb2
        rw [HM1.out]
        go_wp2_with fail
        refine (scope_May_calls _ _ _ _ (Kd.C_below HR2.out (bel HB1.out HB2.out)) HL2.out).mono ?_
        rintro e w3 ⟨rfl, hb3⟩
        rw [HM2.out]
        have HC3 := Aside0.mk (Kd.C_below HCP.out (bel HB2.out hb3))
        have HB3 := Aside0.mk (bel (bel HB1.out HB2.out) hb3)
        clear hb3 HCP HB1 HB2
        go_wp2_with fail
        go_loopw [32] (fun v32 wr => ∃ k : Nat, v32 = .int .i64 k ∧ k ≤ ps.length ∧ Aside0 (Lib.IsBuilder 47 5 w3.heap.size w3.heap.size (Lib.byteCells (evalOut l1 l2 (ps.take k))) wr) ∧ Aside0 (Below w3.heap.size w3 wr)) (fun v32 _ => ps.length - (intOf v32).toNat)
        case atStart => exact ⟨0, rfl, by omega, ⟨Lib.fresh_isBuilder 47 5 w3⟩, ⟨(Below.refl _ _).alloc (Nat.le_refl _) _⟩⟩
        case round =>
          obtain ⟨k, rfl, hk, hbu, hbw⟩ := hrel
          by_cases hlt : k < ps.length
          · have hlen0 := out_len HM1.out HM2.out HFEW.out k hk
            have hlen : (Lib.byteCells (evalOut l1 l2 (ps.take k))).length ≤ 4194304 := by rw [Lib.byteCells_length]; omega
            have hsn := Lib.hid (cells_snoc l1 l2 ps k hlt)
            have hvs : (pieceVal l1 l2 (rd_T49 ps k)).size ≤ 2048 := val_small HM1.out HM2.out (by
              have e : rd_T49 ps ((k : Nat) : Int) = ps[k] := by simp [rd_T49, hlt]
              have := HFEW.out.2 ps[k] (List.getElem_mem hlt)
              show (rd_T49 ps ((k : Nat) : Int)).f1.size ≤ 2048
              rw [e]
              omega)
            have hpv : Hid (pieceVal l1 l2 (rd_T49 ps k) = if (rd_T49 ps k).f0 = true then orB (scopeGet l1 (rd_T49 ps k).f1) (scopeGet l2 (rd_T49 ps k).f1) else (rd_T49 ps k).f1) := rfl
            obtain ⟨ad, ea, f0, f1⟩ := at_T49 (Kd.C_below HC3.out hbw.out) (k : Int) (by omega) (by omega)
            subst ea
            simp only [Int.toNat_natCast] at f0 f1
            obtain ⟨V, hV⟩ : ∃ V, pieceVal l1 l2 (rd_T49 ps k) = V := ⟨_, rfl⟩
            rw [hV] at hsn hvs hpv
            clear hV
            generalize rd_T49 ps (k : Int) = p at *
            obtain ⟨b0, nm⟩ := p
            simp only [] at f0 f1 hpv
            generalize Lib.byteCells (evalOut l1 l2 (ps.take k)) = cur at *
            have hwr : w3.heap.size ≤ wr.heap.size := hbw.out.size
            cases b0
            · rw [if_neg (by decide)] at hpv
              have hV := hpv.out
              subst hV
              go_wp2_with fail
              refine (writeString_calls w3.heap.size w3.heap.size cur V _ (builder_below hbu.out ((Below.refl _ _).alloc (Nat.le_refl _) _)) (by omega) (by simp; omega)).mono ?_
              rintro e w5 ⟨rfl, hbu5, hb5⟩
              have HB5 := Aside0.mk hbu5
              have HW5 := Aside0.mk ((hbw.out.alloc hwr (.cells #[.bool false, .string V] 49)).trans hb5)
              clear hbu5 hb5
              go_wp2_with fail
              exact ⟨⟨k + 1, by go_num, by omega, ⟨by rw [hsn.out]; exact .inr HB5.out⟩, HW5⟩, by simp [intOf]; omega⟩
            · rw [if_pos rfl] at hpv
              have hcall1 : ∀ W, Below w3.heap.size w3 W → Calls Try.prog 21 #[.slice A1 l1.length c1, .string nm] W fun e w' => e = .returned (.string (scopeGet l1 nm)) ∧ Below W.heap.size W w' := fun W hW =>
                scope_Get.calls A1 c1 l1 nm _ W (Kd.C_below HR1.out (bel HB3.out hW)) hc1 (by unfold scope_Get.f; rw [if_pos HL1.out])
              have hcall2 : ∀ W, Below w3.heap.size w3 W → Calls Try.prog 21 #[.slice A2 l2.length c2, .string nm] W fun e w' => e = .returned (.string (scopeGet l2 nm)) ∧ Below W.heap.size W w' := fun W hW =>
                scope_Get.calls A2 c2 l2 nm _ W (Kd.C_below HR2.out (bel HB3.out hW)) hc2 (by unfold scope_Get.f; rw [if_pos HL2.out])
              have H1 := Lib.hid hcall1
              have H2 := Lib.hid hcall2
              clear hcall1 hcall2
              generalize scopeGet l1 nm = x1 at *
              generalize scopeGet l2 nm = x2 at *
              go_upto_region 9 with (fail)
              have hp1 : (wr.alloc (.cells #[.bool true, .string nm] 49)).cell? ⟨wr.heap.size, 1, none⟩ = some (.string nm) := by simp
              have hpf : (wr.alloc (.cells #[.bool true, .string nm] 49)).frozen? ⟨wr.heap.size, 1, none⟩ = false := by simp
              have hpz : wr.heap.size < (wr.alloc (.cells #[.bool true, .string nm] 49)).heap.size := by simp
              have hpb := Aside0.mk ((Below.refl wr.heap.size wr).alloc (Nat.le_refl _) (.cells #[.bool true, .string nm] 49))
              have HWP := Aside0.mk (hbw.out.alloc hwr (.cells #[.bool true, .string nm] 49))
              generalize hsz0 : wr.heap.size = pb at hp1 hpf hpz ⊢
              generalize wr.alloc (.cells #[.bool true, .string nm] 49) = Wp at *
              have HSZ0 := Lib.hid hsz0
              clear hsz0 f0 f1 hbw
              have hdr := Aside0.mk (show Wp.drew.cell? ⟨pb, 1, none⟩ = some (.string nm) ∧ Wp.drew.frozen? ⟨pb, 1, none⟩ = false ∧ pb < Wp.drew.heap.size from ⟨by simpa using hp1, by simpa using hpf, by simpa using hpz⟩)
              go_region_with (first | (go_at_call 21; with_reducible refine (H1.out _ ?hb).mono ?_; (case hb => exact HWP.out.drew); rintro e w5 ⟨rfl, b1⟩; obtain ⟨q5, f5, z5, n5⟩ := carry3 b1 hdr.out.2.2 hdr.out.1 hdr.out.2.1; have B5 := Aside0.mk (below_step HWP.out.drew b1); have D5 := Aside0.mk (below_step hpb.out.drew b1); clear b1) | (go_at_call 21; with_reducible refine (H2.out _ ?hb).mono ?_; (case hb => exact B5.out); rintro e w6 ⟨rfl, b2⟩; obtain ⟨q6, f6, z6, n6⟩ := carry3 b2 z5 q5 f5; have B6 := Aside0.mk (below_step B5.out b2); have D6 := Aside0.mk (below_step D5.out b2); clear b2) | (go_at_call 20; with_reducible refine (or_calls _ x1 x2 _ ?c0 ?c1).mono ?_; (case c0 => simp); (case c1 => simp); rintro e w7 ⟨rfl, rfl⟩))
              all_goals
                rw [← hpv.out]
                have hq7 : ((w6.setCell ⟨pb, 1, none⟩ (.string V)).alloc (.cells #[.string x1, .string x2] 9)).cell? ⟨pb, 1, none⟩ = some (.string V) := put_cell q6
                have DW := Aside0.mk ((D6.out.setCell (p := ⟨pb, 1, none⟩) (by rw [HSZ0.out]; exact Nat.le_refl _) (.string V)).alloc (by have := D6.out.size; simpa using this) (.cells #[.string x1, .string x2] 9))
                have BW := Aside0.mk ((B6.out.setCell (p := ⟨pb, 1, none⟩) (by rw [← HSZ0.out]; exact hwr) (.string V)).alloc (by have := B6.out.size; simpa using this) (.cells #[.string x1, .string x2] 9))
                clear H1 H2 hp1 hpf hpz hdr q5 f5 z5 n5 B5 D5 q6 f6 z6 n6 B6 D6 hpb HWP hpv
                generalize (w6.setCell ⟨pb, 1, none⟩ (.string V)).alloc (.cells #[.string x1, .string x2] 9) = W7 at *
                go_wp2_with fail
                refine (writeString_calls w3.heap.size w3.heap.size cur V _ (builder_below hbu.out DW.out) (by omega) BW.out.size).mono ?_
                rintro e w8 ⟨rfl, hbu5, hb5⟩
                have HB5 := Aside0.mk hbu5
                have HW5 := Aside0.mk (BW.out.trans hb5)
                clear hbu5 hb5
                go_wp2_with fail
                exact ⟨⟨k + 1, by go_num, by omega, ⟨by rw [hsn.out]; exact .inr HB5.out⟩, HW5⟩, by simp [intOf]; omega⟩
          · obtain rfl : k = ps.length := by omega
            rw [List.take_length] at hbu
            obtain ⟨O, hO⟩ : ∃ O, evalOut l1 l2 ps = O := ⟨_, rfl⟩
            rw [hO] at hbu HE
            clear hO
            have hlb : (Lib.byteCells O).length = O.length := Lib.byteCells_length O
            go_wp2_with fail
            refine (Try.Builder_Len _ _ _ _ hbu.out).mono ?_
            rintro e wq ⟨rfl, hq⟩
            subst hq
            rw [hlb]
            have hsz := hbw.out.size
            by_cases h256 : O.length ≤ 256
            · rw [if_pos h256] at HE
              go_wp2_with fail
              refine (Try.Builder_String_any _ _ O _ hbu.out hsz).mono ?_
              rintro e w9 ⟨rfl, hb9⟩
              have HB9 := Aside0.mk (bel HB3.out (hbw.out.trans hb9))
              clear hb9
              go_wp2_with fail
              go_ret2
              rw [HE.out]
              exact ⟨rfl, HB9.out⟩
            · rw [if_neg h256] at HE
              go_wp2_with fail
              go_ret2
              rw [HE.out]
              exact ⟨rfl, bel HB3.out hbw.out⟩
  · rw [if_neg (fun h => h0 h.1)] at HE
    have he : (e0 == 0) = false := beq_eq_false_iff_ne.2 h0
    have hen : (e0 != 0) = true := bne_iff_ne.2 h0
    go_enter Try.func9, Try.ntmps9
    go_wp2_with fail
    refine (cutE_calls s hs ps e0 _ HCUT.out).mono ?_
    rintro e w1 ⟨v1, rfl, hR, hb1⟩
    clear hR
    go_wp2_with fail
    go_ret2
    rw [HE.out]
    exact ⟨rfl, hb1⟩
theorem eval_Of.calls (a0 : ByteArray) (A1 : Option Addr) (c1 : Nat) (l1 : List S34) (A2 : Option Addr) (c2 : Nat) (l2 : List S34) (r1 : ByteArray) (r2 : Int) (w : World) (hr1 : Kd.C k34 w A1 l1.length l1) (hc1 : l1.length ≤ c1) (hr2 : Kd.C k34 w A2 l2.length l2) (hc2 : l2.length ≤ c2) (h : eval_Of.f a0 l1 l2 = some (r1, r2)) :
    Calls Try.prog 9 #[.string a0, .slice A1 l1.length c1, .slice A2 l2.length c2] w fun e w' => e = .returned (.tuple #[.string r1, .int .i64 r2]) ∧ Below w.heap.size w w' := by
  unfold eval_Of.f at h
  split at h
  · rename_i hs
    injection h with h
    have := eval_calls a0 hs.1 A1 c1 l1 A2 c2 l2 w hr1 hs.2.1 hc1 hr2 hs.2.2 hc2
    rw [h] at this
    exact this
  · exact absurd h (by simp)
end Go.Proofs.Ytbkgcdjbkoeejaa.Print
