/- The law ScopeOther answers true for all binds, names and texts. -/
import Derived.Test.YtchkgljhklfhnaaQSet
import Derived.Test.YtchkgljhklfhnaaOpens
import Derived.Test.YtchkgljhklfhnaaPCruciblelaw4ScopeOther
namespace Go.Proofs.Ytchkgljhklfhnaa.Print
open Go.RowKit Go.Proofs.YtchkgljhklfhnaaW.PrintWords Go.Proofs.YtchkgljhklfhnaaW.PrintLast

theorem awake_scope (k : Nat) (hk : 8 ≤ k) : cruciblelaw4_awake.f k = some true := by
  have h : cruciblelaw4_awake.f 8 = some true := by decide +kernel
  exact at_rounds (g := fun k => cruciblelaw4_awake.f k) (fun k => cruciblelaw4_awake.mono k) hk h

theorem texts_of {l : List S42} (h : Small30 l) : textsOk 140737488351232 l := fun k hk => by
  have := h.2 l[k] (List.getElem_mem hk)
  rw [rd_get l k hk]
  exact this

theorem ScopeOther_pure (l : List S42) (s t o : ByteArray) (hl : Small30 l) (hs : s.size ≤ 140737488351232) (ht : t.size ≤ 140737488351232) :
    ∃ k, cruciblelaw4_ScopeOther.f k l s t o = some true := by
  have hD := texts_of hl
  have hL := long_of hD (by omega)
  have hn : l.length ≤ 140737488355328 := by have := hl.1; omega
  obtain ⟨K, hK⟩ : ∃ K : Nat, 140737488351232 + 10010 ≤ K := ⟨_, Nat.le_refl _⟩
  refine ⟨K, ?_⟩
  unfold cruciblelaw4_ScopeOther.f
  rw [awake_scope K (by omega), Option.bind_some, if_pos rfl]
  have hset : scope_Set.f l s t = some (scopeSet l s t) := by unfold scope_Set.f; rw [if_pos ⟨hL, by omega⟩]
  have hget : ∀ x, scope_Get.f l x = some (scopeGet l x) := fun x => by unfold scope_Get.f; rw [if_pos hL]
  rw [hset, Option.bind_some]
  simp only [show ∀ x, cruciblelaw0_Num.f x = some x from fun _ => rfl, Option.bind_some]
  by_cases h0 : (scopeSet l s t).2 = 0
  · rw [if_pos h0]
    by_cases hok : (scopeMay l && (nameMay s && plainB t 256)) = true
    · have hss : scopeSet l s t = setIn l s t := by unfold scopeSet; rw [if_pos hok]
      rw [hss] at h0 ⊢
      rw [Bool.and_eq_true, Bool.and_eq_true] at hok
      obtain ⟨h1, h2, h3, h4, h5⟩ := set_ok l s t hok.1 hok.2.1 hok.2.2 h0
      have hD2 := h5 _ hD hs ht
      have hL2 := long_of hD2 (by omega)
      have hlen := may_len h1
      generalize (setIn l s t).1 = a at *
      have hget2 : ∀ x, scope_Get.f a x = some (scopeGet a x) := fun x => by unfold scope_Get.f; rw [if_pos hL2]
      have hset2 : scope_Set.f a s t = some (a, 0) := by
        unfold scope_Set.f scopeSet
        rw [if_pos ⟨hL2, by omega⟩, h1, hok.2.1, hok.2.2, if_pos (by rfl), h4]
      have hmay2 : scope_May.f a = some true := by unfold scope_May.f; rw [if_pos hL2, h1]
      have hj : cruciblelaw4_ScopeOther.j0 K s t a false = some true := by
        obtain ⟨K, rfl⟩ : ∃ m, K = m + 1 := ⟨K - 1, by omega⟩
        simp only [cruciblelaw4_ScopeOther.j0]
        have he : enough 140737488351232 a ≤ 140737488351232 + 9000 := by
          unfold enough
          have : a.length * (a.length + 3) ≤ 16 * 19 := Nat.mul_le_mul hlen (by omega)
          omega
        rw [if_neg (by simp), hset2, Option.bind_some, hget2, Option.bind_some, h2, if_pos rfl, hmay2, Option.bind_some, if_pos rfl, refScopeMay 140737488351232 (by omega) a (by omega) hD2 _ (by omega), Option.bind_some, h1, if_pos rfl]
        simp only [show ∀ x, cruciblelaw0_Num.f x = some x from fun _ => rfl, Option.bind_some]
        rw [if_pos trivial, sameBinds_eq a a (by omega) _ (by omega), Option.bind_some, sameBinds_self]
      by_cases ho : o.toList = s.toList
      · rw [if_pos ho]
        exact hj
      · rw [if_neg ho, hget2, Option.bind_some, hget, Option.bind_some, h3 o ho]
        have : ((scopeGet l o).toList != (scopeGet l o).toList) = false := by simp
        rw [this]
        exact hj
    · have hss : scopeSet l s t = ([], 400) := by unfold scopeSet; rw [if_neg hok]
      rw [hss] at h0
      exact absurd h0 (by decide)
  · rw [if_neg h0]
    have he : (scopeSet l s t).1 = [] := by
      unfold scopeSet at h0 ⊢
      split at h0
      · rename_i hc
        rw [if_pos hc]
        unfold setIn at h0 ⊢
        split at h0
        · exact absurd rfl h0
        · rename_i h1
          rw [if_neg h1]
          split at h0
          · rename_i h2; rw [if_pos h2]
          · exact absurd rfl h0
      · rename_i hc
        rw [if_neg hc]
    rw [he]
    rfl

theorem ScopeOther_walk (w : World) (A : Option Addr) (c : Nat) (l : List S42) (hr : Kd.C k42 w A l.length l) (hc : l.length ≤ c) (hs : Small30 l) (a1 : ByteArray) (h1 : a1.size ≤ 140737488351232) (a2 : ByteArray) (h2 : a2.size ≤ 140737488351232) (a3 : ByteArray) (_h3 : a3.size ≤ 140737488351232) :
    Calls Try.prog 10 #[.slice A l.length c, .string a1, .string a2, .string a3] w fun e w' => e = .returned (.bool true) ∧ Below w.heap.size w w' := by
  obtain ⟨k, hk⟩ := ScopeOther_pure l a1 a2 a3 hs h1 h2
  exact cruciblelaw4_ScopeOther.calls k A c l a1 a2 a3 true w hr hc hk
end Go.Proofs.Ytchkgljhklfhnaa.Print
