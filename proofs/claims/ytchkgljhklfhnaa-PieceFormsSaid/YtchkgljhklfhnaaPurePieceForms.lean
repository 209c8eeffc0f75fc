/- Texts that are refused. -/
import Derived.Test.YtchkgljhklfhnaaQPieces
import Derived.Test.YtchkgljhklfhnaaPCruciblelaw3PieceForms
import Derived.Laws.Bits128
namespace Go.Proofs.Ytchkgljhklfhnaa.Pure
open Go.RowKit Go.Lib Go.Proofs.Ytchkgljhklfhnaa.Print Go.Proofs.YtchkgljhklfhnaaW.PrintWords Go.Proofs.YtchkgljhklfhnaaW.PrintLast

theorem bits15 (n : Int) : Go.bits .and .i64 n 15 = n % 16 := by
  have h31 : (BitVec.ofInt 64 15).toNat = 2 ^ 4 - 1 := by decide
  have key : (BitVec.ofInt 64 n &&& BitVec.ofInt 64 15).toNat = (n % ((2 ^ 64 : Nat) : Int)).toNat % 2 ^ 4 := by
    rw [BitVec.toNat_and, BitVec.toNat_ofInt, h31, Nat.and_two_pow_sub_one_eq_mod]
  show IntKind.i64.wrap ((BitVec.ofInt 64 n &&& BitVec.ofInt 64 15).toNat : Nat) = n % 16
  rw [key, IntKind.wrap_i64]
  omega
def badTexts : List ByteArray := [(⟨#[36]⟩ : ByteArray), (⟨#[97, 36]⟩ : ByteArray), (⟨#[36, 45]⟩ : ByteArray), (⟨#[36, 123]⟩ : ByteArray), (⟨#[36, 123, 125]⟩ : ByteArray), (⟨#[36, 123, 97]⟩ : ByteArray), (⟨#[36, 123, 97, 45, 125]⟩ : ByteArray), (⟨#[36, 46]⟩ : ByteArray), (⟨#[36, 10]⟩ : ByteArray), (⟨#[97, 9, 98]⟩ : ByteArray), (⟨#[36, 123, 65, 125]⟩ : ByteArray), (⟨#[36, 65]⟩ : ByteArray), (⟨#[36, 97, 98, 99, 100, 101, 102, 103, 104, 105, 106, 107, 108, 109, 110, 111, 112, 113]⟩ : ByteArray), (⟨#[36, 123, 97, 98, 99, 100, 101, 102, 103, 104, 105, 106, 107, 108, 109, 110, 111, 112, 113, 125]⟩ : ByteArray), (⟨#[127]⟩ : ByteArray), (⟨#[36, 36, 36]⟩ : ByteArray)]
theorem bad_each : ∀ i : Fin 16, (pieces_Cut.f (rdOf ByteArray.empty badTexts ((i.val : Nat) : Int))).map (fun r => (r.1.length, r.2)) = some (0, 300) := by decide +kernel
theorem empty_cut : (pieces_Cut.f (⟨#[]⟩ : ByteArray)).map (fun r => (r.1.length, r.2)) = some (0, 0) := by decide +kernel
theorem as_nil {o : Option (List S57 × Int)} {n : Int} (h : o.map (fun r => (r.1.length, r.2)) = some (0, n)) : o = some ([], n) := by
  obtain ⟨r, hr, hr2⟩ := Option.map_eq_some_iff.1 h
  obtain ⟨a, b⟩ := Prod.mk.inj hr2
  rw [hr, ← b, ← List.length_eq_zero_iff.1 a]
theorem long_cut (s : ByteArray) (h : 2048 < s.size) (h2 : s.size ≤ 140737488355328) : pieces_Cut.f s = some ([], 300) := by
  rw [cut_some s h2]
  unfold refOf
  rw [if_neg (by unfold plainB; simp; omega)]

theorem PieceForms : cruciblelaw3_PieceForms.Pure := by
  intro a b _ _
  obtain ⟨k, hk⟩ : ∃ k, 8 ≤ k := ⟨_, Nat.le_refl _⟩
  refine ⟨k, ?_⟩
  have hb := as_nil (bad_each ⟨(a % 16).toNat, by omega⟩)
  simp only [show (((a % 16).toNat : Nat) : Int) = a % 16 by omega] at hb
  unfold badTexts at hb
  unfold cruciblelaw3_PieceForms.f
  rw [awake3 k hk, Option.bind_some, if_pos rfl, Option.bind_some, bits15, i64_and127]
  have hw : wrap64 (1 + b % 128) = 1 + b % 128 := by unfold wrap64; omega
  have hw2 : wrap64 (2048 + (1 + b % 128)) = 2049 + b % 128 := by unfold wrap64; omega
  have hz : (strOfNums (List.replicate (2049 + b % 128).toNat 0)).size = (2049 + b % 128).toNat := by rw [strOfNums_size, List.length_replicate]
  rw [hw, hw2, if_pos (by omega), if_pos (by simp only [List.length]; omega), hb, Option.bind_some, if_pos (by omega), if_pos (by omega),
    long_cut _ (by omega) (by omega), Option.bind_some, as_nil empty_cut, Option.bind_some]
  rfl

end Go.Proofs.Ytchkgljhklfhnaa.Pure
