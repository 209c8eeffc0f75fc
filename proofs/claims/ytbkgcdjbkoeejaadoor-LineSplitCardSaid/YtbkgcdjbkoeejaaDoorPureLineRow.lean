/- LineRow, plain: lines, remarks, empty ones, deep ones, one behind the other. -/
import Derived.Test.YtbkgcdjbkoeejaaDoorPureLineJoin
import Derived.Test.YtbkgcdjbkoeejaaDoorPCruciblelaw6LineRow
import Derived.Test.YtbkgcdjbkoeejaaDoorOpensInt
namespace Go.Proofs.YtbkgcdjbkoeejaaDoor.Pure
open Go.RowKit Go.Lib Go.Proofs.YtbkgcdjbkoeejaaDoor.Print Go.Proofs.YtbkgcdjbkoeejaaDoorW.PrintWords Go.Proofs.YtbkgcdjbkoeejaaDoorW.PrintLast

theorem and15 (n : Int) : Go.bits .and .i64 n 15 = n % 16 := by
  have h31 : (BitVec.ofInt 64 15).toNat = 2 ^ 4 - 1 := by decide
  have key : (BitVec.ofInt 64 n &&& BitVec.ofInt 64 15).toNat = (n % ((2 ^ 64 : Nat) : Int)).toNat % 2 ^ 4 := by
    rw [BitVec.toNat_and, BitVec.toNat_ofInt, h31, Nat.and_two_pow_sub_one_eq_mod]
  show IntKind.i64.wrap ((BitVec.ofInt 64 n &&& BitVec.ofInt 64 15).toNat : Nat) = n % 16
  rw [key, IntKind.wrap_i64]
  omega
def L (j : Nat) : ByteArray := ⟨#[UInt8.ofNat (97 + j)]⟩
theorem letter (n : Int) : ∃ j : Nat, j < 16 ∧ strOfNums [(wrap64 (97 + (Go.bits .and .i64 n 15))) % 256] = L j := by
  refine ⟨(n % 16).toNat, by omega, ?_⟩
  rw [and15]
  have hw : wrap64 (97 + n % 16) % 256 = 97 + n % 16 := by
    have h0 : 0 ≤ n % 16 := by omega
    have h1 : n % 16 < 16 := by omega
    generalize n % 16 = x at *
    unfold wrap64
    omega
  rw [hw]
  show (⟨#[UInt8.ofNat (97 + n % 16).toNat]⟩ : ByteArray) = ⟨#[UInt8.ofNat (97 + (n % 16).toNat)]⟩
  rw [show (97 + n % 16).toNat = 97 + (n % 16).toNat by omega]
theorem ck0 : ∀ (j : Nat) (_ : j < 16), linesCut (L j ++ ⟨#[10]⟩) = ([⟨false, L j⟩], 0)
  | 0, _ => by kernel_rfl | 1, _ => by kernel_rfl | 2, _ => by kernel_rfl | 3, _ => by kernel_rfl | 4, _ => by kernel_rfl | 5, _ => by kernel_rfl | 6, _ => by kernel_rfl | 7, _ => by kernel_rfl
  | 8, _ => by kernel_rfl | 9, _ => by kernel_rfl | 10, _ => by kernel_rfl | 11, _ => by kernel_rfl | 12, _ => by kernel_rfl | 13, _ => by kernel_rfl | 14, _ => by kernel_rfl | 15, _ => by kernel_rfl | n + 16, h => absurd h (by omega)
theorem ck1 : ∀ (j : Nat) (_ : j < 16), linesCut (⟨#[32, 32]⟩ ++ (L j ++ ⟨#[32, 10]⟩)) = ([⟨true, L j⟩], 0)
  | 0, _ => by kernel_rfl | 1, _ => by kernel_rfl | 2, _ => by kernel_rfl | 3, _ => by kernel_rfl | 4, _ => by kernel_rfl | 5, _ => by kernel_rfl | 6, _ => by kernel_rfl | 7, _ => by kernel_rfl
  | 8, _ => by kernel_rfl | 9, _ => by kernel_rfl | 10, _ => by kernel_rfl | 11, _ => by kernel_rfl | 12, _ => by kernel_rfl | 13, _ => by kernel_rfl | 14, _ => by kernel_rfl | 15, _ => by kernel_rfl | n + 16, h => absurd h (by omega)
theorem ck2 : linesCut ⟨#[10]⟩ = ([], 0) := by kernel_rfl
theorem ck3 : ∀ (j : Nat) (_ : j < 16), linesCut (⟨#[32, 32, 35, 32]⟩ ++ (L j ++ ⟨#[10]⟩)) = ([], 0)
  | 0, _ => by kernel_rfl | 1, _ => by kernel_rfl | 2, _ => by kernel_rfl | 3, _ => by kernel_rfl | 4, _ => by kernel_rfl | 5, _ => by kernel_rfl | 6, _ => by kernel_rfl | 7, _ => by kernel_rfl
  | 8, _ => by kernel_rfl | 9, _ => by kernel_rfl | 10, _ => by kernel_rfl | 11, _ => by kernel_rfl | 12, _ => by kernel_rfl | 13, _ => by kernel_rfl | 14, _ => by kernel_rfl | 15, _ => by kernel_rfl | n + 16, h => absurd h (by omega)
theorem ck4 : ∀ (j : Nat) (_ : j < 16), linesCut (L j ++ (⟨#[36, 10, 32, 32, 32]⟩ ++ (L j ++ ⟨#[10]⟩))) = ([⟨false, L j ++ L j⟩], 0)
  | 0, _ => by kernel_rfl | 1, _ => by kernel_rfl | 2, _ => by kernel_rfl | 3, _ => by kernel_rfl | 4, _ => by kernel_rfl | 5, _ => by kernel_rfl | 6, _ => by kernel_rfl | 7, _ => by kernel_rfl
  | 8, _ => by kernel_rfl | 9, _ => by kernel_rfl | 10, _ => by kernel_rfl | 11, _ => by kernel_rfl | 12, _ => by kernel_rfl | 13, _ => by kernel_rfl | 14, _ => by kernel_rfl | 15, _ => by kernel_rfl | n + 16, h => absurd h (by omega)
theorem ck5 : ∀ (j : Nat) (_ : j < 16), linesCut (L j ++ ⟨#[36, 36, 10]⟩) = ([⟨false, L j ++ ⟨#[36, 36]⟩⟩], 0)
  | 0, _ => by kernel_rfl | 1, _ => by kernel_rfl | 2, _ => by kernel_rfl | 3, _ => by kernel_rfl | 4, _ => by kernel_rfl | 5, _ => by kernel_rfl | 6, _ => by kernel_rfl | 7, _ => by kernel_rfl
  | 8, _ => by kernel_rfl | 9, _ => by kernel_rfl | 10, _ => by kernel_rfl | 11, _ => by kernel_rfl | 12, _ => by kernel_rfl | 13, _ => by kernel_rfl | 14, _ => by kernel_rfl | 15, _ => by kernel_rfl | n + 16, h => absurd h (by omega)
theorem ck6 : linesCut ⟨#[32, 32, 32, 10]⟩ = ([], 0) := by kernel_rfl
theorem ck7 : ∀ (j : Nat) (_ : j < 16), linesCut (⟨#[32]⟩ ++ (L j ++ ⟨#[36, 10, 36, 10, 32, 32, 120, 10]⟩)) = ([⟨true, L j ++ ⟨#[120]⟩⟩], 0)
  | 0, _ => by kernel_rfl | 1, _ => by kernel_rfl | 2, _ => by kernel_rfl | 3, _ => by kernel_rfl | 4, _ => by kernel_rfl | 5, _ => by kernel_rfl | 6, _ => by kernel_rfl | 7, _ => by kernel_rfl
  | 8, _ => by kernel_rfl | 9, _ => by kernel_rfl | 10, _ => by kernel_rfl | 11, _ => by kernel_rfl | 12, _ => by kernel_rfl | 13, _ => by kernel_rfl | 14, _ => by kernel_rfl | 15, _ => by kernel_rfl | n + 16, h => absurd h (by omega)

def Inv (i : Nat) (s : ByteArray) (w : List S39) : Prop := linesCut s = (w, 0) ∧ s.size ≤ 20 * i ∧ w.length ≤ i
theorem inv_next {i : Nat} {s : ByteArray} {w : List S39} (h : Inv i s w) (hi : i < 30) (c : ByteArray) (v : List S39) (hc : linesCut c = (v, 0)) (hz : c.size ≤ 20) (hv : v.length ≤ 1) : Inv (i + 1) (s ++ c) (w ++ v) := by
  obtain ⟨h1, h2, h3⟩ := h
  refine ⟨?_, by rw [ByteArray.size_append]; omega, by rw [List.length_append]; omega⟩
  rw [join_two (by rw [h1]) (by rw [hc]) (by omega), h1, hc]
theorem row_end (i : Nat) (hi : i ≤ 30) (k : Nat) (hk : 100 ≤ k) (x0 : List Int) (s : ByteArray) (w : List S39) (n : Int) (h : Inv i s w) : cruciblelaw6_LineRow.j1 (k + 1) x0 s w n false = some true := by
  rw [cruciblelaw6_LineRow.j1, if_neg (by decide), cut_f (by have := h.2.1; omega), h.1]
  simp only [Option.bind_some, num_eq]
  rw [if_pos trivial, same_self w (by have := h.2.2; omega) k (by have := h.2.2; omega)]
  rfl
theorem row_go (x0 : List Int) (hn : x0.length ≤ 140737488355328) (d : Nat) : ∀ (k i : Nat) (s : ByteArray) (w : List S39), i + d = x0.length → 2 * d + 200 ≤ k → i ≤ 30 → Inv i s w → cruciblelaw6_LineRow.l0 k x0 s w (i : Int) = some true := by
  induction d with
  | zero =>
    intro k i s w hi hk h30 h
    obtain ⟨k, rfl⟩ : ∃ m, k = m + 1 + 1 := ⟨k - 2, by omega⟩
    rw [cruciblelaw6_LineRow.l0, if_neg (by omega)]
    exact row_end i h30 k (by omega) x0 s w _ h
  | succ d ih =>
    intro k i s w hi hk h30 h
    obtain ⟨k, rfl⟩ : ∃ m, k = m + 1 + 1 := ⟨k - 2, by omega⟩
    rw [cruciblelaw6_LineRow.l0, if_pos (by omega)]
    by_cases h3 : (i : Int) < 30
    · obtain ⟨j, hj, hl⟩ := letter (i : Int)
      have hz : (L j).size = 1 := rfl
      have hs := h.2.1
      have hw := h.2.2
      have p0 : 0 ≤ (i : Int) := by omega
      have p1 : (i : Int) < (x0.length : Int) := by omega
      have pw : w.length < 5864062014805 := by omega
      have next : ∀ (c : ByteArray) (v : List S39), linesCut c = (v, 0) → c.size ≤ 20 → v.length ≤ 1 → cruciblelaw6_LineRow.l0 k x0 (s ++ c) (w ++ v) ((i + 1 : Nat) : Int) = some true := fun c v hc hz hv =>
        ih k (i + 1) (s ++ c) (w ++ v) (by omega) (by omega) (by omega) (inv_next h (by omega) c v hc hz hv)
      have hwr := wrap_nat i x0.length (by omega) hn
      rw [decide_eq_true h3, cruciblelaw6_LineRow.j1, if_pos rfl]
      simp only [Option.bind_some]
      rw [if_pos p0, if_pos p1, hl, hwr]
      clear hwr
      have s1 : ∀ a b : ByteArray, (a ++ b).size = a.size + b.size := fun a b => ByteArray.size_append
      have z1 : (⟨#[10]⟩ : ByteArray).size = 1 := rfl
      have z2 : (⟨#[32, 32]⟩ : ByteArray).size = 2 := rfl
      have z3 : (⟨#[32, 10]⟩ : ByteArray).size = 2 := rfl
      have z4 : (⟨#[32, 32, 35, 32]⟩ : ByteArray).size = 4 := rfl
      have z5 : (⟨#[36, 10, 32, 32, 32]⟩ : ByteArray).size = 5 := rfl
      have z6 : (⟨#[36, 36, 10]⟩ : ByteArray).size = 3 := rfl
      have z7 : (⟨#[32, 32, 32, 10]⟩ : ByteArray).size = 4 := rfl
      have z8 : (⟨#[32]⟩ : ByteArray).size = 1 := rfl
      have z9 : (⟨#[36, 10, 36, 10, 32, 32, 120, 10]⟩ : ByteArray).size = 8 := rfl
      generalize wrap64 (Int.tmod (IntKind.u64.wrap (rd x0 (i : Int))) 8) = q
      by_cases q0 : q = 0
      · have := next _ _ (ck0 j hj) (by simp only [s1, z1, hz]; omega) (by simp)
        rw [if_pos q0, if_pos (by omega), if_pos (by simp only [s1]; omega), if_pos pw, ByteArray.append_assoc]
        exact this
      rw [if_neg q0]
      by_cases q1 : q = 1
      · have := next _ _ (ck1 j hj) (by simp only [s1, z2, z3, hz]; omega) (by simp)
        rw [if_pos q1, if_pos (by omega), if_pos (by simp only [s1]; omega), if_pos (by simp only [s1]; omega), if_pos pw, ByteArray.append_assoc, ByteArray.append_assoc]
        exact this
      rw [if_neg q1]
      by_cases q2 : q = 2
      · have := next _ _ ck2 (by decide) (by simp)
        rw [List.append_nil] at this
        rw [if_pos q2, if_pos (by omega)]
        exact this
      rw [if_neg q2]
      by_cases q3 : q = 3
      · have := next _ _ (ck3 j hj) (by simp only [s1, z4, z1, hz]; omega) (by simp)
        rw [List.append_nil] at this
        rw [if_pos q3, if_pos (by omega), if_pos (by simp only [s1]; omega), if_pos (by simp only [s1]; omega), ByteArray.append_assoc, ByteArray.append_assoc]
        exact this
      rw [if_neg q3]
      by_cases q4 : q = 4
      · have := next _ _ (ck4 j hj) (by simp only [s1, z5, z1, hz]; omega) (by simp)
        rw [if_pos q4, if_pos (by omega), if_pos (by simp only [s1]; omega), if_pos (by simp only [s1]; omega), if_pos (by simp only [s1]; omega), if_pos (by omega), if_pos pw, ByteArray.append_assoc, ByteArray.append_assoc, ByteArray.append_assoc]
        exact this
      rw [if_neg q4]
      by_cases q5 : q = 5
      · have := next _ _ (ck5 j hj) (by simp only [s1, z6, hz]; omega) (by simp)
        rw [if_pos q5, if_pos (by omega), if_pos (by simp only [s1]; omega), if_pos (by omega), if_pos pw, ByteArray.append_assoc]
        exact this
      rw [if_neg q5]
      by_cases q6 : q = 6
      · have := next _ _ ck6 (by decide) (by simp)
        rw [List.append_nil] at this
        rw [if_pos q6, if_pos (by omega)]
        exact this
      rw [if_neg q6]
      have := next _ _ (ck7 j hj) (by simp only [s1, z8, z9, hz]; omega) (by simp)
      rw [if_pos (by omega), if_pos (by simp only [s1]; omega), if_pos (by simp only [s1]; omega), if_pos (by omega), if_pos pw, ByteArray.append_assoc, ByteArray.append_assoc]
      exact this
    · rw [decide_eq_false h3]
      exact row_end i h30 k (by omega) x0 s w _ h
theorem LineRow : cruciblelaw6_LineRow.Pure := by
  intro l0 _ hl _
  refine ⟨2 * l0.length + 300, ?_⟩
  unfold cruciblelaw6_LineRow.f
  rw [awake6 _ (by omega)]
  simp only [Option.bind_some, if_true]
  exact row_go l0 (by omega) l0.length _ 0 _ _ (by omega) (by omega) (by omega) ⟨by kernel_rfl, by decide, by decide⟩
end Go.Proofs.YtbkgcdjbkoeejaaDoor.Pure
namespace Go.Proofs.YtbkgcdjbkoeejaaDoor.Print
open Go.RowKit Go.Lib Go.Proofs.YtbkgcdjbkoeejaaDoorW.PrintWords Go.Proofs.YtbkgcdjbkoeejaaDoorW.PrintLast
theorem LineRow_walk (w : World) (A : Option Addr) (c : Nat) (l : List Int) (hr : Kd.C (Kd.int .i64) w A l.length l) (hc : l.length ≤ c) (hs : Small35 l) :
    Calls Tryd.prog 5 #[.slice A l.length c] w fun e w' => e = .returned (.bool true) ∧ Below w.heap.size w w' := by
  obtain ⟨k, hk⟩ := Pure.LineRow l (by unfold maxLen; have := hs.1; omega) hs.1 hs.2
  exact cruciblelaw6_LineRow.calls k A c l true w hr hc hk
end Go.Proofs.YtbkgcdjbkoeejaaDoor.Print
