/- The contract of name.Plain: has a text bytes from 32 to 126 alone, at most so many; for every text of a length that Go has. -/
import Derived.Test.YtbkgcdjbkoeejaaHName
namespace Go.Proofs.Ytbkgcdjbkoeejaa.Print
open Go.RowKit Go.Lib Go.Shelf Go.Proofs.YtbkgcdjbkoeejaaW.PrintWords Go.Proofs.YtbkgcdjbkoeejaaW.PrintLast Go.Proofs.YtbkgcdjbkoeejaaW.PrintMore

def plainL (l : List UInt8) : Bool := l.all fun b => decide (32 ≤ (b.toNat : Int)) && decide ((b.toNat : Int) ≤ 126)
def plainB (s : ByteArray) (m : Int) : Bool := plainL s.data.toList && decide ((s.size : Int) ≤ m)


set_option maxRecDepth 100000 in
theorem plain_calls (s : ByteArray) (m : Int) (w : World) (hs : s.size ≤ 9223372036854775807) :
    Calls Try.prog 29 #[.string s, .int .i64 m] w fun e w' => e = .returned (.bool (plainB s m)) ∧ w = w' := by
  go_enter Try.func29, Try.ntmps29
  go_wp2
  go_loop [8] (fun v8 => ∃ k : Nat, v8 = .int .i64 k ∧ k ≤ s.size ∧ Aside0 (plainL (s.data.toList.drop k) = plainL s.data.toList)) (fun v8 => s.size - (intOf v8).toNat)
  case atStart => exact ⟨0, rfl, by omega, ⟨by rw [List.drop_zero]⟩⟩
  case round =>
    obtain ⟨k, rfl, hk, hf⟩ := hrel
    by_cases hlt : k < s.size
    · have hd := drop_cons s k hlt
      have hq : plainL s.data.toList = (decide (32 ≤ (s[k].toNat : Int)) && decide ((s[k].toNat : Int) ≤ 126) && plainL (s.data.toList.drop (k + 1))) := by
        rw [← hf.out, hd]; rfl
      have HQ := Lib.hid hq
      clear hd hq
      go_wp2
      · have h1 : 32 ≤ (s[k].toNat : Int) := by assumption
        have h2 : (s[k].toNat : Int) < 32 ∨ 126 < (s[k].toNat : Int) := by assumption
        have h3 : ¬ (s[k].toNat : Int) ≤ 126 := by omega
        go_ret
        exact ⟨ret_bool (by unfold plainB; rw [HQ.out]; simp [h3]), rfl⟩
      · have h1 : 32 ≤ (s[k].toNat : Int) ∧ (s[k].toNat : Int) ≤ 126 := by assumption
        exact ⟨⟨k + 1, by go_num, by omega, ⟨by rw [HQ.out]; simp [h1.1, h1.2]⟩⟩, by simp [intOf]; omega⟩
      · have h2 : (s[k].toNat : Int) < 32 := by assumption
        have h3 : ¬ 32 ≤ (s[k].toNat : Int) := by omega
        go_ret
        exact ⟨ret_bool (by unfold plainB; rw [HQ.out]; simp [h3]), rfl⟩
    · have hd := drop_end s k (by omega)
      have hq : plainL s.data.toList = true := by rw [← hf.out, hd]; rfl
      have HQ := Lib.hid hq
      clear hd hq
      go_wp2
      go_ret
      exact ⟨ret_bool (by unfold plainB; rw [HQ.out]; simp), rfl⟩
end Go.Proofs.Ytbkgcdjbkoeejaa.Print
