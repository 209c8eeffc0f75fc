/- The contract of cmp.Or at two texts: the first one, if it is not empty, else the second. What a builder of the call's own is behind a call that makes memory. -/
import Derived.Test.YtbkgcdjbkoeejaaHBuilder
import Derived.Test.YtbkgcdjbkoeejaaHSet
namespace Go.Proofs.Ytbkgcdjbkoeejaa.Print
open Go.RowKit Go.Lib Go.Shelf Go.Proofs.YtbkgcdjbkoeejaaW.PrintWords Go.Proofs.YtbkgcdjbkoeejaaW.PrintLast Go.Proofs.YtbkgcdjbkoeejaaW.PrintMore
set_option linter.unusedVariables false

def orB (a b : ByteArray) : ByteArray := if 1 ≤ a.size then a else b

theorem grown_of_below {w w' : World} (hb : Below w.heap.size w w') : w.grownBy w' none := ⟨hb.os, hb.tape, hb.output, hb.size, fun k hk _ => hb.block k hk⟩
theorem builderAt_below {T e : TypeId} {B b : Nat} {p : Value} {bs : List Value} {w w' : World} (h : Lib.BuilderAt T e B b p bs w) (hb : Below w.heap.size w w') : Lib.BuilderAt T e B b p bs w' := by
  obtain ⟨hB, v, hbk, hown, hne⟩ := h
  have hlt : b < w.heap.size := by
    rcases Nat.lt_or_ge b w.heap.size with h' | h'
    · exact h'
    · simp [Array.getElem?_eq_none h'] at hbk
  refine ⟨hB, v, (hb.block b hlt).trans hbk, hown.kept (grown_of_below hb) ?_, hne⟩
  cases v.ownBlock with
  | none => exact .inl rfl
  | some k => exact .inr (by simp)
theorem builder_below {T e : TypeId} {B b : Nat} {bs : List Value} {w w' : World} (h : Lib.IsBuilder T e B b bs w) (hb : Below w.heap.size w w') : Lib.IsBuilder T e B b bs w' := by
  rcases h with h | h
  · exact .inl (builderAt_below h hb)
  · exact .inr (builderAt_below h hb)

set_option maxHeartbeats 1000000 in
set_option maxRecDepth 100000 in
theorem or_calls (g : Nat) (a b : ByteArray) (w : World) (h0 : w.cell? ⟨g, 0, none⟩ = some (.string a)) (h1 : w.cell? ⟨g, 1, none⟩ = some (.string b)) :
    Calls Try.prog 20 #[.slice (some ⟨g, 0, none⟩) 2 2] w fun e w' => e = .returned (.string (orB a b)) ∧ w = w' := by
  have ho1 : Hid (1 ≤ a.size → orB a b = a) := fun h => by unfold orB; rw [if_pos h]
  have ho2 : Hid (¬ 1 ≤ a.size → orB a b = b) := fun h => by unfold orB; rw [if_neg h]
  have hz : Hid (¬ 1 ≤ a.size → ¬ 1 ≤ b.size → orB a b = ⟨#[]⟩) := fun h h2 => by
    unfold orB; rw [if_neg h]
    exact ByteArray.ext (Array.eq_empty_of_size_eq_zero (by have : b.data.size = b.size := rfl; omega))
  go_enter Try.func20, Try.ntmps20
  go_wp2
  go_loop [8] (fun v8 => ∃ k : Nat, v8 = .int .i64 k ∧ k ≤ 2 ∧ (1 ≤ k → ¬ 1 ≤ a.size) ∧ (2 ≤ k → ¬ 1 ≤ b.size)) (fun v8 => 2 - (intOf v8).toNat)
  case atStart => exact ⟨0, rfl, by omega, by omega, by omega⟩
  case round =>
    obtain ⟨k, rfl, hk, hr1, hr2⟩ := hrel
    have hk3 : k = 0 ∨ k = 1 ∨ k = 2 := by omega
    rcases hk3 with rfl | rfl | rfl
    · by_cases ha : 1 ≤ a.size
      · have hn : (a.toList == []) = false := beq_eq_false_iff_ne.2 (size_some ha)
        go_wp2
        go_ret
        exact ⟨ret_str (ho1.out ha).symm, rfl⟩
      · have hn : a.toList = [] := size_nil ha
        go_wp2
        exact ⟨⟨1, by go_num, by omega, fun _ => ha, by omega⟩, by simp [intOf]⟩
    · have ha := hr1 (by omega)
      by_cases hb : 1 ≤ b.size
      · have hn : (b.toList == []) = false := beq_eq_false_iff_ne.2 (size_some hb)
        go_wp2
        go_ret
        exact ⟨ret_str (ho2.out ha).symm, rfl⟩
      · have hn : b.toList = [] := size_nil hb
        go_wp2
        exact ⟨⟨2, by go_num, by omega, fun _ => ha, fun _ => hb⟩, by simp [intOf]⟩
    · have ha := hr1 (by omega)
      have hb := hr2 (by omega)
      go_wp2
      go_ret
      exact ⟨ret_str (hz.out ha hb).symm, rfl⟩
end Go.Proofs.Ytbkgcdjbkoeejaa.Print
