/- The contract of name.Plain: has a text bytes from 32 to 126 alone, at most so many; for every text of a length that Go has. -/
import Derived.Test.YtbkgcdjbkoeejaaDoorP0
import Derived.Test.YtbkgcdjbkoeejaaDoorShelf
import Derived.Laws.RangeAny
import Derived.Outline
import Derived.Lib.Hide
namespace Go.Proofs.YtbkgcdjbkoeejaaDoor.Print
open Go.RowKit Go.Lib Go.Shelf Go.Proofs.YtbkgcdjbkoeejaaDoorW.PrintWords Go.Proofs.YtbkgcdjbkoeejaaDoorW.PrintLast Go.Proofs.YtbkgcdjbkoeejaaDoorW.PrintMore

theorem ret_bool {x y : Bool} (h : x = y) : Ending.returned (.bool x) = .returned (.bool y) := by rw [h]

theorem size_nil {s : ByteArray} (h : ¬ 1 ≤ s.size) : s.toList = [] := by
  rw [Lib.toList_data]
  exact List.eq_nil_of_length_eq_zero (by rw [← Lib.size_eq]; omega)
theorem size_some {s : ByteArray} (h : 1 ≤ s.size) : ¬ s.toList = [] := by
  rw [Lib.toList_data]
  intro h2
  have := congrArg List.length h2
  rw [← Lib.size_eq, List.length_nil] at this
  omega

theorem ret_i64 {x y : Int} (h : x = y) : Ending.returned (.int .i64 x) = .returned (.int .i64 y) := by rw [h]
theorem ret_str {x y : ByteArray} (h : x = y) : Ending.returned (.string x) = .returned (.string y) := by rw [h]
theorem bel {w w1 w2 : World} (h : Below w.heap.size w w1) (k : Below w1.heap.size w1 w2) : Below w.heap.size w w2 := h.trans (k.mono h.size)
theorem bcell {W w1 : World} (hb : Below W.heap.size W w1) : (∀ b o, b < W.heap.size → w1.cell? ⟨b, o, none⟩ = W.cell? ⟨b, o, none⟩) ∧ (∀ b o, b < W.heap.size → w1.frozen? ⟨b, o, none⟩ = W.frozen? ⟨b, o, none⟩) :=
  ⟨fun b o h => hb.cell (p := ⟨b, o, none⟩) h, fun b o h => hb.frozen (p := ⟨b, o, none⟩) h⟩
theorem C_max {α : Type} {d : Kd α} {w : World} {A : Option Addr} {n : Nat} {xs : List α} (h : Kd.C d w A n xs) : n ≤ 9223372036854775807 := h.2.1
theorem C_addr {α : Type} {d : Kd α} {w : World} {A : Option Addr} {n : Nat} {xs : List α} (h : Kd.C d w A n xs) (h0 : 0 < n) : ∃ ad, A = some ad := by
  obtain ⟨ad, e, _⟩ := h.2.2 h0
  exact ⟨ad, e⟩
theorem drop_cons (s : ByteArray) (i : Nat) (h : i < s.size) : s.data.toList.drop i = s[i] :: s.data.toList.drop (i + 1) := by
  rw [List.drop_eq_getElem_cons (by simpa using h)]
  rfl
theorem drop_end (s : ByteArray) (i : Nat) (h : s.size ≤ i) : s.data.toList.drop i = [] := List.drop_of_length_le (by have := ByteArray.size_data (a := s); simp only [Array.length_toList]; omega)

def plainL (l : List UInt8) : Bool := l.all fun b => decide (32 ≤ (b.toNat : Int)) && decide ((b.toNat : Int) ≤ 126)
def plainB (s : ByteArray) (m : Int) : Bool := plainL s.data.toList && decide ((s.size : Int) ≤ m)


set_option maxRecDepth 100000 in
theorem plain_calls (s : ByteArray) (m : Int) (w : World) (hs : s.size ≤ 9223372036854775807) :
    Calls Tryd.prog 24 #[.string s, .int .i64 m] w fun e w' => e = .returned (.bool (plainB s m)) ∧ w = w' := by
  go_enter Tryd.func24, Tryd.ntmps24
  go_wp2
  go_loop [8] (fun v8 => ∃ k : Nat, v8 = .int .i64 k ∧ k ≤ s.size ∧ Aside0 (plainL (s.data.toList.drop k) = plainL s.data.toList)) (fun v8 => s.size - (RowKit.intOf v8).toNat)
  case atStart => exact ⟨0, rfl, by omega, ⟨by rw [List.drop_zero]⟩⟩
  case round =>
    obtain ⟨k, rfl, hk, hf⟩ := hrel
    by_cases hlt : k < s.size
    · have hd := drop_cons s k hlt
      have hq : plainL s.data.toList = (decide (32 ≤ (s[k].toNat : Int)) && decide ((s[k].toNat : Int) ≤ 126) && plainL (s.data.toList.drop (k + 1))) := by
        rw [← hf.out, hd]; rfl
      have HQ := Lib.hid hq
      clear hd hq
      go_wp2
      · have h1 : 32 ≤ (s[k].toNat : Int) := by assumption
        have h2 : (s[k].toNat : Int) < 32 ∨ 126 < (s[k].toNat : Int) := by assumption
        have h3 : ¬ (s[k].toNat : Int) ≤ 126 := by omega
        go_ret
        exact ⟨ret_bool (by unfold plainB; rw [HQ.out]; simp [h3]), rfl⟩
      · have h1 : 32 ≤ (s[k].toNat : Int) ∧ (s[k].toNat : Int) ≤ 126 := by assumption
        exact ⟨⟨k + 1, by go_num, by omega, ⟨by rw [HQ.out]; simp [h1.1, h1.2]⟩⟩, by simp [RowKit.intOf]; omega⟩
      · have h2 : (s[k].toNat : Int) < 32 := by assumption
        have h3 : ¬ 32 ≤ (s[k].toNat : Int) := by omega
        go_ret
        exact ⟨ret_bool (by unfold plainB; rw [HQ.out]; simp [h3]), rfl⟩
    · have hd := drop_end s k (by omega)
      have hq : plainL s.data.toList = true := by rw [← hf.out, hd]; rfl
      have HQ := Lib.hid hq
      clear hd hq
      go_wp2
      go_ret
      exact ⟨ret_bool (by unfold plainB; rw [HQ.out]; simp), rfl⟩
end Go.Proofs.YtbkgcdjbkoeejaaDoor.Print
