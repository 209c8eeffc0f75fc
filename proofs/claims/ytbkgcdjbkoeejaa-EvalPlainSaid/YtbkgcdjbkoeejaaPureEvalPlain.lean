/- EvalPlain, plain: a text without $ is itself; each $ doubled is one. -/
import Derived.Test.YtbkgcdjbkoeejaaQEvalLaws
import Derived.Test.YtbkgcdjbkoeejaaPCruciblelaw5EvalPlain
import Derived.Test.YtbkgcdjbkoeejaaOpens
namespace Go.Proofs.Ytbkgcdjbkoeejaa.Print
open Go.RowKit Go.Lib Go.Proofs.YtbkgcdjbkoeejaaW.PrintWords Go.Proofs.YtbkgcdjbkoeejaaW.PrintLast

theorem extract_one (a : ByteArray) (i : Nat) (h : i < a.size) : a.extract i (i + 1) = ⟨#[a[i]]⟩ := by
  apply ByteArray.ext
  rw [ByteArray.data_extract]
  apply Array.toList_inj.1
  have hl : i < a.data.toList.length := by simpa using h
  rw [Array.toList_extract]
  show List.take (i + 1 - i) (List.drop i a.data.toList) = [a[i]]
  rw [List.drop_eq_getElem_cons hl, show i + 1 - i = 0 + 1 by omega, List.take_succ_cons, List.take_zero]
  rfl
theorem wrap_nat (i n : Nat) (h : i < n) (hn : n ≤ 140737488355328) : wrap64 ((i : Int) + 1) = ((i + 1 : Nat) : Int) := by
  rw [wrap_succ (n := n) (by omega) (by omega) hn]
  omega
def Ok (t u : ByteArray) : Prop := t.data.toList = enc u.data.toList ∧ plainL u.data.toList = true ∧ t.size ≤ 201
theorem ok_size {t u : ByteArray} (h : Ok t u) : u.size ≤ 201 := by
  have h1 := enc_len u.data.toList
  rw [← h.1] at h1
  have e1 := Lib.size_eq u
  have e2 := Lib.size_eq t
  have := h.2.2
  omega
theorem ok_next {t u : ByteArray} (h : Ok t u) (ht : t.size < 200) (c : UInt8) (h1 : 32 ≤ (c.toNat : Int)) (h2 : (c.toNat : Int) ≤ 126) :
    (c = 36 → Ok ((t ++ ⟨#[c]⟩) ++ ⟨#[36]⟩) (u ++ ⟨#[c]⟩)) ∧ (c ≠ 36 → Ok (t ++ ⟨#[c]⟩) (u ++ ⟨#[c]⟩)) := by
  have hp : plainL (u ++ ⟨#[c]⟩).data.toList = true := by
    rw [plain_app, h.2.1]
    unfold plainL
    simp [h1, h2]
  refine ⟨fun hc => ?_, fun hc => ?_⟩
  · subst hc
    refine ⟨?_, hp, ?_⟩
    · simp only [ByteArray.data_append, Array.toList_append, h.1, enc_app]
      simp [enc]
    · rw [ByteArray.size_append, ByteArray.size_append]
      have : (⟨#[36]⟩ : ByteArray).size = 1 := rfl
      omega
  · refine ⟨?_, hp, ?_⟩
    · simp only [ByteArray.data_append, Array.toList_append, h.1, enc_app]
      simp [enc, hc]
    · rw [ByteArray.size_append]
      have : (⟨#[c]⟩ : ByteArray).size = 1 := rfl
      omega
theorem ok_eval {t u : ByteArray} (h : Ok t u) (l1 : List S34) (hm : scopeMay l1 = true) : evalOf t l1 [] = (u, 0) := by
  have ht : t = ⟨(enc u.data.toList).toArray⟩ := by
    rw [← h.1]
  have hp : plainB t 2048 = true := by
    unfold plainB
    rw [h.1, enc_plain, h.2.1]
    have := h.2.2
    simp only [Bool.true_and, decide_eq_true_eq]
    omega
  obtain ⟨e1, e2⟩ := enc_all l1 [] u.data.toList []
  have hv : val l1 [] t = u.data.toList := by
    unfold val
    rw [ht, e2]
    simp [evalOut]
  rw [eval_ref hp (by rw [ht]; exact e1) hm (by decide +kernel), hv, if_pos (by have := ok_size h; have := Lib.size_eq u; omega)]
theorem no_eval (t : ByteArray) (l1 l2 : List S34) (hm : scopeMay l1 = false) : evalOf t l1 l2 = (⟨#[]⟩, 500) := by
  unfold evalOf
  rw [if_neg (by rw [hm]; simp)]
theorem plain_end (D : Nat) (hD : D ≤ 140737488355328) (a0 : ByteArray) (l1 : List S34) (hn : l1.length ≤ 140737488355328) (ht : textsOk D l1) (k : Nat) (hk : enough D l1 ≤ k) (t u : ByteArray) (i : Int) (h : Ok t u) :
    cruciblelaw5_EvalPlain.j1 (k + 1) a0 l1 t u i false = some true := by
  have hz := h.2.2
  simp only [cruciblelaw5_EvalPlain.j1, Bool.false_eq_true, if_false]
  rw [eval_f (by omega) (long_of ht hD) (by decide), refScopeMay D hD l1 hn ht k hk]
  simp only [Option.bind_some]
  cases hm : scopeMay l1
  · rw [no_eval t l1 [] hm]
    simp [num_eq]
  · rw [ok_eval h l1 hm]
    simp [num_eq]
theorem plain_rounds (D : Nat) (hD : D ≤ 140737488355328) (a0 : ByteArray) (ha : a0.size ≤ 140737488351232) (l1 : List S34) (hn : l1.length ≤ 140737488355328) (htx : textsOk D l1) (d : Nat) : ∀ (k i : Nat) (t u : ByteArray), i + d = a0.size → 3 * d + enough D l1 + 2 ≤ k → Ok t u →
    cruciblelaw5_EvalPlain.l0 k a0 l1 t u (i : Int) = some true := by
  induction d with
  | zero =>
    intro k i t u hi hk h
    obtain ⟨k, rfl⟩ : ∃ m, k = m + 1 + 1 := ⟨k - 2, by omega⟩
    simp only [cruciblelaw5_EvalPlain.l0]
    rw [if_neg (by omega)]
    exact plain_end D hD a0 l1 hn htx k (by omega) t u _ h
  | succ d ih =>
    intro k i t u hi hk h
    obtain ⟨k, rfl⟩ : ∃ m, k = m + 1 + 1 + 1 := ⟨k - 3, by omega⟩
    have hlt : i < a0.size := by omega
    rw [cruciblelaw5_EvalPlain.l0, if_pos (by omega)]
    by_cases h2 : (t.size : Int) < 200
    · rw [decide_eq_true h2, cruciblelaw5_EvalPlain.j1, if_pos rfl, if_pos (by omega), if_pos (by omega), bt_nat a0 i hlt]
      have hw := wrap_nat i a0.size hlt (by omega)
      have skip : cruciblelaw5_EvalPlain.j2 (k + 1) a0 l1 t u (i : Int) true = some true := by
        rw [cruciblelaw5_EvalPlain.j2, if_pos rfl, hw]
        exact ih k (i + 1) t u (by omega) (by omega) h
      by_cases c1 : (a0[i].toNat : Int) < 32
      · rw [if_pos c1]; exact skip
      · rw [if_neg c1]
        by_cases c2 : (a0[i].toNat : Int) > 126
        · rw [decide_eq_true c2]; exact skip
        · rw [decide_eq_false c2, cruciblelaw5_EvalPlain.j2, if_neg (by decide), bt_nat a0 i hlt]
          have he : a0.extract ((i : Int)).toNat (wrap64 ((i : Int) + 1)).toNat = ⟨#[a0[i]]⟩ := by
            rw [hw, Int.toNat_natCast, Int.toNat_natCast]
            exact extract_one a0 i hlt
          have hs1 : (⟨#[a0[i]]⟩ : ByteArray).size = 1 := rfl
          have hz := h.2.2
          have hzu := ok_size h
          obtain ⟨n1, n2⟩ := ok_next h (by omega) a0[i] (by omega) (by omega)
          rw [he, hw]
          clear hw he skip
          rw [if_pos (by omega), if_pos (by omega), if_pos (by omega), if_pos (by rw [hs1]; omega), if_pos (by rw [hs1]; omega), if_pos (by omega)]
          by_cases c3 : a0[i] = 36
          · rw [if_pos (by rw [c3]; rfl), if_pos (by rw [ByteArray.size_append, hs1]; omega)]
            exact ih k (i + 1) _ _ (by omega) (by omega) (n1 c3)
          · rw [if_neg (fun e => c3 (UInt8.toNat_inj.1 (by have : (36 : UInt8).toNat = 36 := rfl; omega)))]
            exact ih k (i + 1) _ _ (by omega) (by omega) (n2 c3)
    · rw [decide_eq_false h2]
      exact plain_end D hD a0 l1 hn htx (k + 1) (by omega) t u _ h
theorem texts22 {l : List S34} (h : Small22 l) : textsOk 140737488351232 l := fun k hk => by
  have := h.2 l[k] (List.getElem_mem hk)
  rw [rd_get l k hk]
  exact this
theorem EvalPlain_walk (w : World) (a0 : ByteArray) (h0 : a0.size ≤ 140737488351232) (A1 : Option Addr) (c1 : Nat) (l1 : List S34) (hr1 : Kd.C k34 w A1 l1.length l1) (hc1 : l1.length ≤ c1) (hs1 : Small22 l1) :
    Calls Try.prog 5 #[.string a0, .slice A1 l1.length c1] w fun e w' => e = .returned (.bool true) ∧ Below w.heap.size w w' := by
  obtain ⟨K, hK⟩ : ∃ K : Nat, 3 * a0.size + enough 140737488351232 l1 + 500 ≤ K := ⟨_, Nat.le_refl _⟩
  refine cruciblelaw5_EvalPlain.calls K a0 A1 c1 l1 true w hr1 hc1 ?_
  unfold cruciblelaw5_EvalPlain.f
  rw [awake5 K (by omega)]
  simp only [Option.bind_some, if_true]
  exact plain_rounds 140737488351232 (by decide) a0 h0 l1 (by have := hs1.1; omega) (texts22 hs1) a0.size K 0 ⟨#[]⟩ ⟨#[]⟩ (by omega) (by omega) ⟨rfl, rfl, by decide⟩
end Go.Proofs.Ytbkgcdjbkoeejaa.Print
