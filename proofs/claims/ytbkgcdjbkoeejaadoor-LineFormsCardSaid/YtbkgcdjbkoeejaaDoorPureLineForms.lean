/- LineForms, plain: texts that are refused; line ends alone. -/
import Derived.Test.YtbkgcdjbkoeejaaDoorQLines
import Derived.Test.YtbkgcdjbkoeejaaDoorPCruciblelaw6LineForms
namespace Go.Proofs.YtbkgcdjbkoeejaaDoor.Pure
open Go.RowKit Go.Lib Go.Proofs.YtbkgcdjbkoeejaaDoor.Print Go.Proofs.YtbkgcdjbkoeejaaDoorW.PrintWords Go.Proofs.YtbkgcdjbkoeejaaDoorW.PrintLast

theorem and7 (n : Int) : Go.bits .and .i64 n 7 = n % 8 := by
  have h31 : (BitVec.ofInt 64 7).toNat = 2 ^ 3 - 1 := by decide
  have key : (BitVec.ofInt 64 n &&& BitVec.ofInt 64 7).toNat = (n % ((2 ^ 64 : Nat) : Int)).toNat % 2 ^ 3 := by
    rw [BitVec.toNat_and, BitVec.toNat_ofInt, h31, Nat.and_two_pow_sub_one_eq_mod]
  show IntKind.i64.wrap ((BitVec.ofInt 64 n &&& BitVec.ofInt 64 7).toNat : Nat) = n % 8
  rw [key, IntKind.wrap_i64]
  omega
theorem and127 (n : Int) : Go.bits .and .i64 n 127 = n % 128 := by
  have h31 : (BitVec.ofInt 64 127).toNat = 2 ^ 7 - 1 := by decide
  have key : (BitVec.ofInt 64 n &&& BitVec.ofInt 64 127).toNat = (n % ((2 ^ 64 : Nat) : Int)).toNat % 2 ^ 7 := by
    rw [BitVec.toNat_and, BitVec.toNat_ofInt, h31, Nat.and_two_pow_sub_one_eq_mod]
  show IntKind.i64.wrap ((BitVec.ofInt 64 n &&& BitVec.ofInt 64 127).toNat : Nat) = n % 128
  rw [key, IntKind.wrap_i64]
  omega
theorem cut_f {s : ByteArray} (h : s.size ≤ 9223372036854775807) : lines_Cut.f s = some (linesCut s) := by unfold lines_Cut.f; rw [if_pos h]
def bads : List ByteArray := [⟨#[97]⟩, ⟨#[97, 10, 32]⟩, ⟨#[97, 36, 10]⟩, ⟨#[97, 36, 36, 36, 10]⟩, ⟨#[97, 9, 98, 10]⟩, ⟨#[127, 10]⟩, ⟨#[97, 13, 10]⟩, ⟨#[36, 10, 36, 10]⟩]
theorem bad_all : ∀ (i : Nat) (_ : i < 8), lines_Cut.f (rdOf ByteArray.empty bads (i : Int)) = some ([], 600)
  | 0, _ => by kernel_rfl
  | 1, _ => by kernel_rfl
  | 2, _ => by kernel_rfl
  | 3, _ => by kernel_rfl
  | 4, _ => by kernel_rfl
  | 5, _ => by kernel_rfl
  | 6, _ => by kernel_rfl
  | 7, _ => by kernel_rfl
def E (n : Nat) : ByteArray := U (List.replicate n ⟨#[]⟩)
theorem E_size (n : Nat) : (E n).size = n := by
  unfold E
  rw [U_size]
  induction n with
  | zero => rfl
  | succ n ih => rw [List.replicate_succ, unrows_len, ih]; simp [ByteArray.size]; omega
theorem E_list (n : Nat) : (E n).data.toList = List.replicate n 10 := by
  show unrows (List.replicate n ⟨#[]⟩) = _
  induction n with
  | zero => rfl
  | succ n ih => rw [List.replicate_succ, unrows_cons, ih, List.replicate_succ]; rfl
theorem E_succ (n : Nat) : E n ++ ⟨#[10]⟩ = E (n + 1) := by
  apply ByteArray.ext
  apply Array.toList_inj.1
  rw [ByteArray.data_append, Array.toList_append, E_list, E_list, List.replicate_succ']
theorem E_cut (n m : Nat) (h : m ≤ n) : (E n).extract 0 m = E m := by
  apply ByteArray.ext
  apply Array.toList_inj.1
  rw [Lib.extract_data, E_list, E_list]
  simp
  omega
theorem E_noNl (n : Nat) : NoNl (List.replicate n ⟨#[]⟩) := fun r hr => by
  rw [List.eq_of_mem_replicate hr]
  simp
theorem E_go : ∀ (n k : Nat) (out : List S39), linesGo k (List.replicate n ⟨#[]⟩) out = (out, 0) := by
  intro n
  induction n with
  | zero => intro k out; exact linesGo_nil k out
  | succ n ih =>
    intro k out
    cases k with
    | zero => rfl
    | succ k =>
      rw [List.replicate_succ, linesGo_cons, joinGo_off _ (by decide)]
      show linesGo k (List.replicate n ⟨#[]⟩) (addLine out ⟨#[]⟩) = (out, 0)
      rw [show addLine out ⟨#[]⟩ = out by unfold addLine; rw [if_pos (Or.inl (by decide))]]
      exact ih k out
theorem E_lines (n : Nat) : linesCut (E n) = if n ≤ 2048 then ([], 0) else ([], 600) := by
  have hz := E_size n
  unfold E at *
  rw [cut_rows _ (E_noNl n), hz, E_go]
  have hp : plainRows (List.replicate n ⟨#[]⟩) = true := by
    unfold plainRows
    rw [List.all_replicate]
    simp
    right
    rfl
  by_cases h : n ≤ 2048
  · rw [if_pos h, if_pos ⟨h, hp⟩]
  · rw [if_neg h, if_neg (fun e => h e.1)]
theorem forms_go (x5 : Int) (h5 : 1 ≤ x5) (h6 : x5 ≤ 128) (d : Nat) : ∀ (k i : Nat), (i : Int) + d = 2048 + x5 → d < k → cruciblelaw6_LineForms.l0 k x5 [] 600 (E i) (i : Int) = some true := by
  have hw : wrap64 (2048 + x5) = 2048 + x5 := by unfold wrap64; omega
  induction d with
  | zero =>
    intro k i hi hk
    obtain ⟨k, rfl⟩ : ∃ m, k = m + 1 := ⟨k - 1, by omega⟩
    have hz := E_size i
    have hz2 := E_size 2048
    rw [cruciblelaw6_LineForms.l0, hw, if_neg (by omega), cut_f (by omega), E_lines, if_neg (by omega)]
    simp only [Option.bind_some]
    rw [if_pos (by omega), if_pos (by omega), E_cut i 2048 (by omega), cut_f (by omega), E_lines, if_pos (by omega)]
    simp only [Option.bind_some, num_eq]
    rfl
  | succ d ih =>
    intro k i hi hk
    obtain ⟨k, rfl⟩ : ∃ m, k = m + 1 := ⟨k - 1, by omega⟩
    have hz := E_size i
    have hr := ih k (i + 1) (by omega) (by omega)
    have q : (i : Int) < 2048 + x5 := by omega
    have q2 : (E i).size + 1 ≤ 9223372036854775807 := by omega
    have hwi := wrap_nat i 4096 (by omega) (by omega)
    rw [cruciblelaw6_LineForms.l0, hw, if_pos q, if_pos q2, hwi, E_succ]
    exact hr
theorem LineForms : cruciblelaw6_LineForms.Pure := by
  intro a0 a1 _ _
  obtain ⟨i, hi, hi8⟩ : ∃ i : Nat, Go.bits .and .i64 a0 7 = (i : Int) ∧ i < 8 := ⟨(a0 % 8).toNat, by rw [and7]; omega, by omega⟩
  obtain ⟨x, hx⟩ : ∃ x : Int, Go.bits .and .i64 a1 127 = x := ⟨_, rfl⟩
  have hx2 : 0 ≤ x ∧ x ≤ 127 := by rw [← hx, and127]; omega
  refine ⟨3000, ?_⟩
  unfold cruciblelaw6_LineForms.f
  rw [awake6 3000 (by omega), hi, hx]
  simp only [Option.bind_some, if_true]
  rw [if_pos (by omega), if_pos (by simp; omega)]
  have hb := bad_all i hi8
  unfold bads at hb
  rw [hb]
  simp only [Option.bind_some]
  have hw : wrap64 (1 + x) = 1 + x := by unfold wrap64; omega
  rw [hw]
  obtain ⟨n, hn⟩ : ∃ n : Nat, (n : Int) = 2048 + (1 + x) := ⟨(2048 + (1 + x)).toNat, by omega⟩
  exact forms_go (1 + x) (by omega) (by omega) n 3000 0 (by omega) (by omega)
end Go.Proofs.YtbkgcdjbkoeejaaDoor.Pure
namespace Go.Proofs.YtbkgcdjbkoeejaaDoor.Print
open Go.RowKit Go.Lib Go.Proofs.YtbkgcdjbkoeejaaDoorW.PrintWords Go.Proofs.YtbkgcdjbkoeejaaDoorW.PrintLast
theorem LineForms_walk (w : World) (a0 : Int) (h0 : (Lit.int .i64 a0).wf = true) (a1 : Int) (h1 : (Lit.int .i64 a1).wf = true) : Calls Tryd.prog 4 #[.int .i64 a0, .int .i64 a1] w fun e w' => e = .returned (.bool true) ∧ Below w.heap.size w w' :=
  cruciblelaw6_LineForms.walk Pure.LineForms a0 a1 w h0 h1
end Go.Proofs.YtbkgcdjbkoeejaaDoor.Print
