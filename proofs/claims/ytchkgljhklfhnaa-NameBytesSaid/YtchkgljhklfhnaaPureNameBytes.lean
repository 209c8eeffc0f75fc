/- Each byte may be in a name just if it is one of those, and as many as one to sixteen: without a condition. -/
import Derived.Test.YtchkgljhklfhnaaQName
import Derived.Test.YtchkgljhklfhnaaPx6
namespace Go.Proofs.Ytchkgljhklfhnaa.Pure
open Go.RowKit Go.Proofs.Ytchkgljhklfhnaa.Print Go.Proofs.YtchkgljhklfhnaaW.PrintWords Go.Proofs.YtchkgljhklfhnaaW.PrintLast

theorem bits31 (n : Int) : Go.bits .and .i64 n 31 = n % 32 := by
  have h31 : (BitVec.ofInt 64 31).toNat = 2 ^ 5 - 1 := by decide
  have key : (BitVec.ofInt 64 n &&& BitVec.ofInt 64 31).toNat = (n % ((2 ^ 64 : Nat) : Int)).toNat % 2 ^ 5 := by
    rw [BitVec.toNat_and, BitVec.toNat_ofInt, h31, Nat.and_two_pow_sub_one_eq_mod]
  show IntKind.i64.wrap ((BitVec.ofInt 64 n &&& BitVec.ofInt 64 31).toNat : Nat) = n % 32
  rw [key, IntKind.wrap_i64]
  omega

/-- As many bytes of a kind. -/
def many (b : UInt8) (n : Nat) : ByteArray := ⟨(List.replicate n b).toArray⟩
theorem many_size (b : UInt8) (n : Nat) : (many b n).size = n := by simp [many, ByteArray.size]
theorem many_succ (b : Int) (n : Nat) : many (UInt8.ofNat b.toNat) n ++ strOfNums [b] = many (UInt8.ofNat b.toNat) (n + 1) := by
  unfold many
  apply ByteArray.ext
  apply Array.ext'
  simp [strOfNums, List.replicate_succ']
theorem many_may (b : Int) (h0 : 0 ≤ b) (h1 : b < 256) (n : Nat) : nameMay (many (UInt8.ofNat b.toNat) n) = (decide (1 ≤ n) && (decide (n ≤ 16) && oneB b)) := by
  have hb : ((UInt8.ofNat b.toNat).toNat : Int) = b := by simp; omega
  unfold nameMay
  rw [many_size]
  by_cases h : 1 ≤ n
  · congr 2
    unfold many
    simp only [List.all_replicate, hb]
    rw [if_neg (by omega)]
  · simp [h]
theorem a_may (b : Int) (h0 : 0 ≤ b) (h1 : b < 256) : nameMay ((⟨#[97]⟩ : ByteArray) ++ strOfNums [b]) = oneB b := by
  have hb : ((UInt8.ofNat b.toNat).toNat : Int) = b := by simp; omega
  have hs : ((⟨#[97]⟩ : ByteArray) ++ strOfNums [b]).data.toList = [97, UInt8.ofNat b.toNat] := by simp [strOfNums]
  have hz : ((⟨#[97]⟩ : ByteArray) ++ strOfNums [b]).size = 2 := by
    rw [ByteArray.size_append, strOfNums_size]; rfl
  unfold nameMay
  rw [hs, hz]
  simp only [List.all_cons, List.all_nil, hb]
  have : oneB ((97 : UInt8).toNat : Int) = true := by decide
  rw [this]
  simp

theorem bytes_loop (b : Int) (h0 : 0 ≤ b) (h1 : b < 256) (m : Int) (hm : m < 32) (d : Nat) : ∀ (k i : Nat), (i : Int) ≤ max m 0 → max m 0 - i = d → d < k →
    cruciblelaw1_NameBytes.l0 k b (oneB b) m (many (UInt8.ofNat b.toNat) i) i = some true := by
  induction d with
  | zero =>
    intro k i hi hd hk
    obtain ⟨k, rfl⟩ : ∃ z, k = z + 1 := ⟨k - 1, by omega⟩
    simp only [cruciblelaw1_NameBytes.l0]
    rw [if_neg (by omega), num_eq]
    simp only [Option.bind_some, may_eq, many_may b h0 h1, a_may b h0 h1, strOfNums_size]
    have hz : ((⟨#[97]⟩ : ByteArray)).size = 1 := rfl
    cases ho : oneB b
    · simp
    · by_cases hi1 : 1 ≤ i
      · have e : (m : Int) = i := by omega
        subst e
        simp [hi1]
        rw [if_pos (by omega), if_pos (by omega)]
      · simp [hi1]
        omega
  | succ d ih =>
    intro k i hi hd hk
    obtain ⟨k, rfl⟩ : ∃ z, k = z + 1 := ⟨k - 1, by omega⟩
    simp only [cruciblelaw1_NameBytes.l0]
    rw [if_pos (by omega)]
    simp only [Option.bind_some, strOfNums_size, many_size, many_succ]
    rw [if_pos (by simp; omega), show wrap64 ((i : Int) + 1) = ((i + 1 : Nat) : Int) by unfold wrap64; omega]
    exact ih k (i + 1) (by omega) (by omega) (by omega)

theorem NameBytes : cruciblelaw1_NameBytes.Pure := by
  intro c m hc hm
  refine ⟨40, ?_⟩
  unfold cruciblelaw1_NameBytes.f
  rw [awake_name]
  simp only [Option.bind_some, if_true]
  have h0 : 0 ≤ c % 256 := by omega
  have h1 : c % 256 < 256 := by omega
  generalize c % 256 = b at *
  have hj : ∀ x, x = oneB b → cruciblelaw1_NameBytes.j0 40 m b x = some true := by
    intro x hx
    subst hx
    simp only [cruciblelaw1_NameBytes.j0, bits31]
    have := bytes_loop b h0 h1 (m % 32) (by omega) (max (m % 32) 0).toNat 39 0 (by omega) (by omega) (by omega)
    exact this
  repeat' split
  all_goals (refine hj _ ?_; unfold oneB varB; rw [Bool.eq_iff_iff]; simp; try omega)

end Go.Proofs.Ytchkgljhklfhnaa.Pure
