/- The contract of strings.ReplaceAll at "\n" and "": a text without its line ends; of texts that are not too long. -/
import Derived.Test.YtbkgcdjbkoeejaaDoorHBuilder
import Derived.Test.YtbkgcdjbkoeejaaDoorHPlain
namespace Go.Proofs.YtbkgcdjbkoeejaaDoor.Print
open Go.RowKit Go.Lib Go.Shelf Go.Proofs.YtbkgcdjbkoeejaaDoorW.PrintWords Go.Proofs.YtbkgcdjbkoeejaaDoorW.PrintLast Go.Proofs.YtbkgcdjbkoeejaaDoorW.PrintMore
set_option linter.unusedVariables false

def noNl (l : List UInt8) : List UInt8 := l.filter fun c => c != 10
theorem noNl_app (a b : List UInt8) : noNl (a ++ b) = noNl a ++ noNl b := by unfold noNl; rw [List.filter_append]
theorem noNl_none (l : List UInt8) (h : ∀ c ∈ l, c ≠ 10) : noNl l = l := by
  unfold noNl
  rw [List.filter_eq_self]
  intro c hc
  simpa using h c hc
/-- Where the first line end stands. -/
theorem idx_count (l : List UInt8) (h : 1 ≤ l.count 10) : ∃ j : Nat, Lib.indexByte l 10 = (j : Int) ∧ j < l.length ∧ noNl l = l.take j ++ noNl (l.drop (j + 1)) ∧ l.count 10 = (l.drop (j + 1)).count 10 + 1 := by
  rcases Int.lt_or_le (Lib.indexByte l 10) 0 with h0 | h0
  · have h1 : Lib.indexByte l 10 = -1 := by have := Lib.indexByte_ge l 10; omega
    have hn := Lib.indexByte_none h1
    have : (10 : UInt8) ∉ l := fun hm => by
      obtain ⟨i, hi, he⟩ := List.mem_iff_getElem.1 hm
      exact hn i (by rw [List.getElem?_eq_getElem hi, he])
    rw [List.count_eq_zero_of_not_mem this] at h
    omega
  · obtain ⟨j, hj⟩ := Int.eq_ofNat_of_zero_le h0
    obtain ⟨hx, hy⟩ := Lib.indexByte_some hj
    have hlt : j < l.length := (List.getElem?_eq_some_iff.mp hx).1
    have he : l[j] = 10 := (List.getElem?_eq_some_iff.mp hx).2
    have hd : l = l.take j ++ (10 :: l.drop (j + 1)) := by
      conv => lhs; rw [← List.take_append_drop j l, List.drop_eq_getElem_cons hlt, he]
    have ht : ∀ c ∈ l.take j, c ≠ 10 := fun c hc e => by
      obtain ⟨i, hi, hc2⟩ := List.mem_iff_getElem.1 hc
      rw [List.length_take] at hi
      rw [List.getElem_take] at hc2
      exact hy i (by omega) (by rw [List.getElem?_eq_getElem (by omega), hc2, e])
    refine ⟨j, hj, hlt, ?_, ?_⟩
    · conv => lhs; rw [hd]
      rw [noNl_app, noNl_none _ ht]
      rfl
    · conv => lhs; rw [hd]
      rw [List.count_append, List.count_cons_self, List.count_eq_zero_of_not_mem (fun hm => ht _ hm rfl)]
      omega

set_option maxHeartbeats 4000000 in
set_option maxRecDepth 100000 in
theorem replace_calls (s : ByteArray) (hs : s.size ≤ 1048576) (w : World) :
    Calls Tryd.prog 36 #[.string s, .string ⟨#[10]⟩, .string ⟨#[]⟩, .int .i64 (-1)] w fun e w' => e = .returned (.string ⟨(noNl s.data.toList).toArray⟩) ∧ Below w.heap.size w w' := by
  have hcl : s.data.toList.count 10 ≤ s.size := by rw [Lib.size_eq]; exact List.count_le_length
  obtain ⟨cn, hcn⟩ : ∃ cn : Nat, s.data.toList.count 10 = cn := ⟨_, rfl⟩
  have hC : Hid (Lib.countByte s.data.toList 10 = cn) := Lib.hid hcn
  rw [hcn] at hcl
  by_cases h0 : cn = 0
  · have hz : Hid (s = ⟨(noNl s.data.toList).toArray⟩) := Lib.hid (by
      rw [noNl_none _ (fun c hc e => by
        subst e
        have := List.count_pos_iff.2 hc
        omega)])
    subst h0
    go_enter Tryd.func36, Tryd.ntmps36
    go_wp2_with fail
    refine (Tryd.strings_Count_one s 10 _).mono ?_
    rintro e w' ⟨rfl, rfl⟩
    rw [hC.out]
    go_wp2_with fail
    go_ret
    exact ⟨ret_str hz.out, Below.refl _ _⟩
  · have hcz : ((cn : Int) == 0) = false := beq_eq_false_iff_ne.2 (by omega)
    have HCN := Lib.hid hcn
    clear hcn
    go_enter Tryd.func36, Tryd.ntmps36
    go_wp2_with fail
    refine (Tryd.strings_Count_one s 10 _).mono ?_
    rintro e w' ⟨rfl, hw⟩
    rw [hw, hC.out]
    clear hw
    go_wp2_with fail
    have hg : (s.size : Int) + -(cn : Int) = ((s.size - cn : Nat) : Int) := by omega
    rw [hg]
    clear hg
    refine (Tryd.Builder_Grow_fresh w.heap.size w.heap.size (s.size - cn) _ (Nat.le_refl _) (heap_alloc_new w _) (by simp) (by omega)).mono ?_
    rintro e w1 ⟨rfl, hb0, hb1⟩
    have H1 := Aside0.mk (Or.inr hb0 : Lib.IsBuilder 66 5 w.heap.size w.heap.size (Lib.byteCells []) w1)
    have HB1 := Aside0.mk (((Below.refl w.heap.size w).alloc (Nat.le_refl _) _).trans hb1)
    clear hb0 hb1
    go_wp2_with fail
    go_loopw [11, 53] (fun v11 v53 wr => ∃ (i start : Nat) (acc : List UInt8), v53 = .int .i64 i ∧ v11 = .int .i64 start ∧ i ≤ cn ∧ start ≤ s.size ∧ acc.length ≤ start ∧ Aside0 (Lib.IsBuilder 66 5 w.heap.size w.heap.size (Lib.byteCells acc) wr) ∧ Aside0 (Below w.heap.size w wr) ∧
      Aside0 (acc ++ noNl (s.data.toList.drop start) = noNl s.data.toList) ∧ Aside0 ((s.data.toList.drop start).count 10 + i = cn)) (fun v11 v53 _ => cn - (RowKit.intOf v53).toNat)
    case atStart => exact ⟨0, 0, [], rfl, rfl, by omega, by omega, by simp, H1, HB1, ⟨by simp⟩, ⟨by rw [List.drop_zero]; exact HCN.out⟩⟩
    case round =>
      obtain ⟨i, start, acc, rfl, rfl, hi, hst, hacc, HB, HW, HR, HC⟩ := hrel
      have hsz := HW.out.size
      have p0 : (0 : Int) ≤ (start : Int) := by omega
      have p1 : (start : Int) ≤ (s.size : Int) := by omega
      by_cases hlt : i < cn
      · obtain ⟨j, hj, hjl, hn, hc⟩ := idx_count (s.data.toList.drop start) (by have := HC.out; omega)
        have hjs : start + j < s.size := by rw [List.length_drop, ← Lib.size_eq] at hjl; omega
        have HJ := Lib.hid hj
        have HN := Lib.hid hn
        have HC2 := Lib.hid hc
        clear hj hn hc hjl
        have p2 : (start : Int) ≤ (start : Int) + (j : Int) := by omega
        have p3 : (start : Int) + (j : Int) ≤ (s.size : Int) := by omega
        go_wp2_with fail
        refine (Tryd.strings_Index_one _ 10 _).mono ?_
        rintro e w' ⟨rfl, hw⟩
        rw [hw, Lib.extract_to_end, HJ.out]
        clear hw
        go_wp2_with fail
        have hex : (s.extract start (start + j)).data.toList = (s.data.toList.drop start).take j := by rw [Lib.extract_data, Nat.add_sub_cancel_left]
        have hexl : (s.extract start (start + j)).size = j := by simp; omega
        have HEX := Lib.hid hex
        have hcat : (Lib.byteCells acc ++ Lib.strCells (s.extract start (start + j))).length ≤ 2097152 := by rw [List.length_append, Lib.byteCells_length, Lib.strCells_length, hexl]; omega
        clear hex
        refine (writeString_calls w.heap.size w.heap.size (Lib.byteCells acc) (s.extract start (start + j)) wr HB.out (by rw [Lib.byteCells_length]; omega) hsz).mono ?_
        rintro e w3 ⟨rfl, h3, hb3⟩
        have H3 := Aside0.mk h3
        have HB3 := Aside0.mk (HW.out.trans hb3)
        clear h3 hb3 hexl
        go_wp2_with fail
        refine (writeString_calls w.heap.size w.heap.size (Lib.byteCells acc ++ Lib.strCells (s.extract start (start + j))) ⟨#[]⟩ w3 (Or.inr H3.out) (by have : (⟨#[]⟩ : ByteArray).size = 0 := rfl; omega) HB3.out.size).mono ?_
        rintro e w4 ⟨rfl, h4, hb4⟩
        have hnew : Lib.byteCells acc ++ Lib.strCells (s.extract start (start + j)) ++ Lib.strCells ⟨#[]⟩ = Lib.byteCells (acc ++ (s.data.toList.drop start).take j) := by
          rw [Lib.strCells_eq, HEX.out, Lib.byteCells_append]
          simp [Lib.strCells]
        rw [hnew] at h4
        have H4 := Aside0.mk (Or.inr h4 : Lib.IsBuilder 66 5 w.heap.size w.heap.size _ w4)
        have HB4 := Aside0.mk (HB3.out.trans hb4)
        have hdd : (s.data.toList.drop start).drop (j + 1) = s.data.toList.drop (start + j + 1) := by rw [List.drop_drop]; rfl
        have HR5 := Aside0.mk (show (acc ++ (s.data.toList.drop start).take j) ++ noNl (s.data.toList.drop (start + j + 1)) = noNl s.data.toList by rw [← hdd, List.append_assoc, ← HN.out]; exact HR.out)
        have HC5 := Aside0.mk (show (s.data.toList.drop (start + j + 1)).count 10 + (i + 1) = cn by have := HC.out; have := HC2.out; rw [hdd] at this; omega)
        have hl5 : (acc ++ (s.data.toList.drop start).take j).length ≤ start + j + 1 := by rw [List.length_append, List.length_take]; omega
        clear h4 hb4 hnew hdd
        go_wp2_with fail
        exact ⟨⟨i + 1, start + j + 1, _, by go_num, by go_num, by omega, by omega, hl5, H4, HB4, HR5, HC5⟩, by simp [RowKit.intOf]; omega⟩
      · obtain rfl : i = cn := by omega
        have hz : (s.data.toList.drop start).count 10 = 0 := by have := HC.out; omega
        have hnn : noNl (s.data.toList.drop start) = s.data.toList.drop start := noNl_none _ (fun c hc e => by
          subst e
          have := List.count_pos_iff.2 hc
          omega)
        have HN := Lib.hid hnn
        clear hz hnn
        go_wp2_with fail
        refine (writeString_calls w.heap.size w.heap.size (Lib.byteCells acc) (s.extract start s.size) wr HB.out (by rw [Lib.byteCells_length]; simp; omega) hsz).mono ?_
        rintro e w3 ⟨rfl, h3, hb3⟩
        rw [Lib.strCells_eq, Lib.extract_to_end, ← Lib.byteCells_append] at h3
        have hfin : acc ++ s.data.toList.drop start = noNl s.data.toList := by rw [← HR.out, HN.out]
        rw [hfin] at h3
        have H3 := Aside0.mk (Or.inr h3 : Lib.IsBuilder 66 5 w.heap.size w.heap.size _ w3)
        have HB3 := Aside0.mk (HW.out.trans hb3)
        clear h3 hb3 hfin
        go_wp2_with fail
        refine (Tryd.Builder_String_any w.heap.size w.heap.size _ w3 H3.out HB3.out.size).mono ?_
        rintro e w5 ⟨rfl, hb5⟩
        have HB5 := Aside0.mk (HB3.out.trans hb5)
        clear hb5
        go_wp2_with fail
        go_ret
        exact ⟨rfl, HB5.out⟩

theorem replaceAll_calls (s : ByteArray) (hs : s.size ≤ 1048576) (w : World) :
    Calls Tryd.prog 25 #[.string s, .string ⟨#[10]⟩, .string ⟨#[]⟩] w fun e w' => e = .returned (.string ⟨(noNl s.data.toList).toArray⟩) ∧ Below w.heap.size w w' := by
  obtain ⟨T, hT⟩ : ∃ T : ByteArray, ⟨(noNl s.data.toList).toArray⟩ = T := ⟨_, rfl⟩
  have HT := Lib.hid hT
  rw [hT]
  clear hT
  go_enter Tryd.func25, Tryd.ntmps25
  go_wp2_with fail
  refine (replace_calls s hs _).mono ?_
  rw [HT.out]
  rintro e w' ⟨rfl, hb⟩
  go_wp2_with fail
  go_ret
  exact ⟨rfl, hb⟩
end Go.Proofs.YtbkgcdjbkoeejaaDoor.Print
