/- The contract of slices.Clone at binds: a list of its own, with the same binds. -/
import Derived.Test.YtchkgljhklfhnaaHScope
import Derived.WalkSpells
namespace Go.Proofs.Ytchkgljhklfhnaa.Print
open Go.RowKit Go.Lib Go.Shelf Go.Proofs.YtchkgljhklfhnaaW.PrintWords Go.Proofs.YtchkgljhklfhnaaW.PrintLast Go.Proofs.YtchkgljhklfhnaaW.PrintMore

set_option maxHeartbeats 1000000 in
set_option maxRecDepth 100000 in
theorem clone_calls (A0 : Option Addr) (c0 : Nat) (l : List S42) (w : World) (hr : Kd.C k42 w A0 l.length l) (hl : l.length < 4398046511104) :
    Calls Try.prog 46 #[.slice A0 l.length c0] w fun e w' => ∃ v : Value, e = .returned v ∧ Kd.R k42 42 w' w.heap.size (fun _ => True) v l ∧ Below w.heap.size w w' := by
  have HR := Aside0.mk hr
  have HB := Aside0.mk (Below.refl w.heap.size w)
  have h0 : A0 = none → l = [] := by
    intro h
    rcases Nat.eq_zero_or_pos l.length with h1 | h1
    · exact List.length_eq_zero_iff.1 h1
    · obtain ⟨ad, e⟩ := C_addr hr h1
      rw [h] at e
      exact absurd e (by simp)
  clear hr
  have qs := fun (w : World) (a : Option Addr) (n c : Nat) => Lib.run_eql_slice_nil (P := Try.prog) w 30 42 a n c 0 0 Try.underlying30
  cases A0 with
  | none =>
    obtain rfl := h0 rfl
    go_enter Try.func46, Try.ntmps46
    go_wp2
    go_ret
    exact ⟨_, rfl, Kd.R_nil _ _ _ _ _, Below.refl _ _⟩
  | some ad =>
    clear h0
    go_enter Try.func46, Try.ntmps46
    go_wp2_with (first | ((with_reducible refine gate_dst (N := 5) rfl ?_); refine Kd.R_lit k42 _ 42 ?hg (N := 5) ?hd (xs := ([] : List (S42))) (inner := []) (ok := fun _ => True) (okp := fun _ => True) ?hr ?hp (fun _ hk => hk) trivial (Below.refl _ _) (Nat.le_refl _) (by simp) ?_; (case hd => rfl); (case hg => rfl); (case hr => first | (go_simp; done) | (go_simp; rfl)); (case hp => exact (Reps.none _ _)); intro v1 w1 ho1 hb1 hg_ hnew_; clear hg_ hnew_) | ((with_reducible refine gate_builtin (b := .append) (xs := #[.tmp 5, .tmp 6]) rfl ?_); at_builtin; refine Kd.R_append_rows k42 (w0 := w) w.heap.size rfl (.tmp 5) (.tmp 6) 30 42 (.agg #[(.string ⟨#[]⟩), (.string ⟨#[]⟩)]) 32 rfl Try.underlying30 info42 rfl (by decide) (by omega) v1 [] l _ _ _ (fun _ => True) (fun _ => False) rfl rfl ho1 (Kd.C_below HR.out hb1) (fun _ _ h => h) (fun _ h => h.elim) (fun _ _ => trivial) hb1 hb1.size ?aL ?_; (case aL => simp only [List.length_nil]; omega); intro v2 w2 ho2 hb2 hg hat; clear hg hat))
    go_ret
    exact ⟨v2, rfl, by simpa using ho2, hb2⟩
end Go.Proofs.Ytchkgljhklfhnaa.Print
