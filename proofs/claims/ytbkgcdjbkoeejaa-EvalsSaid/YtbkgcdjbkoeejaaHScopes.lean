/- The memory that the laws on scopes lend: binds with marked room behind them. -/
import Derived.Test.YtbkgcdjbkoeejaaQSet
import Derived.Test.YtbkgcdjbkoeejaaPCruciblelaw0LendBinds
namespace Go.Proofs.Ytbkgcdjbkoeejaa.Print
open Go.RowKit Go.Lib Go.Shelf Go.Proofs.YtbkgcdjbkoeejaaW.PrintWords Go.Proofs.YtbkgcdjbkoeejaaW.PrintLast Go.Proofs.YtbkgcdjbkoeejaaW.PrintMore
attribute [local go_sem] max2_int min2_int max_two min_two max_three min_three max_four min_four
set_option linter.unusedVariables false
set_option linter.unusedSimpArgs false
def markB : S34 := ⟨⟨#[]⟩, ⟨#[120]⟩⟩
set_option maxHeartbeats 8000000 in
set_option maxRecDepth 100000 in
theorem lend_calls (A0 : Option Addr) (c0 : Nat) (l0 : List S34) (w : World) (hr0 : Kd.C k34 w A0 l0.length l0) (hc0 : l0.length ≤ c0) (hlong : l0.length + 2 < 4398046511104) :
    Calls Try.prog 8 #[.slice A0 l0.length c0] w fun e w' => ∃ (A : Option Addr) (c : Nat), e = .returned (.slice A l0.length c) ∧ Kd.R k34 34 w' w.heap.size (fun _ => True) (.slice A (l0.length + 2) c) (l0 ++ [markB, markB]) ∧ Below w.heap.size w w' := by
  have hf : cruciblelaw0_CopyBinds.f l0 = some l0 := by
    unfold cruciblelaw0_CopyBinds.f
    rw [Option.bind_some, if_pos (by simp; omega), List.nil_append]
  have hu42 := Try.underlying34
  have HR0 := Aside0.mk hr0
  have HC0 := Aside0.mk hc0
  clear hr0 hc0
  have HB := Aside0.mk (Below.refl w.heap.size w)
  obtain ⟨t134, ht134⟩ : ∃ t_, l0 = t_ := ⟨_, rfl⟩
  have A2 := Aside0.mk (show cruciblelaw0_CopyBinds.f l0 = some t134 from by rw [hf, ht134])
  obtain ⟨y137, hy137⟩ : ∃ y_ : List (S34), y_ = (([(⟨(⟨#[]⟩ : ByteArray), (⟨#[120]⟩ : ByteArray)⟩ : S34), (⟨(⟨#[]⟩ : ByteArray), (⟨#[120]⟩ : ByteArray)⟩ : S34)] : List (S34))) := ⟨_, rfl⟩
  have Ny137 := Aside0.mk hy137
  have LMc3 := Aside0.mk (show t134.length + y137.length < 4398046511104 from by rw [hy137, ← ht134]; exact hlong)
  obtain ⟨y140, hy140⟩ : ∃ y_ : List (S34), y_ = (t134 ++ y137) := ⟨_, rfl⟩
  have Ny140 := Aside0.mk hy140
  have hlen : y140.length = l0.length + 2 := by rw [hy140, hy137, ← ht134]; simp
  have hfin : Hid (y140 = l0 ++ [markB, markB]) := Lib.hid (by rw [hy140, hy137, ← ht134]; rfl)
  obtain ⟨y143, hy143⟩ : ∃ y_ : List (S34), y_ = (y140.take ((l0.length : Int) : Int).toNat) := ⟨_, rfl⟩
  have hl43 : y143.length = l0.length := by rw [hy143, List.length_take, hlen]; omega
  have Ny143 := Aside0.mk hy143
  have HLEN := Lib.hid hlen
  have HL43 := Lib.hid hl43
  have c4b1 : decide (0 ≤ (l0.length : Int)) = true := by simp
  have c5b1 : decide ((l0.length : Int) ≤ (y140.length : Int)) = true := decide_eq_true (by rw [hlen]; omega)
  clear hy137 hy140 hy143 ht134 hf hlen hl43 hlong
  go_enter Try.func8, Try.ntmps8
  go_wp2_with (first | ((with_reducible refine gate_callee (f := 17) rfl ?_); refine goesL_ (some 5) rfl rfl Try.func17 (by kernel_rfl) rfl #[.slice A0 l0.length c0] rfl (by (try simp only [List.map_toArray, List.map_cons, List.map_nil]); first | done | rfl | (simp only [List.length_drop, List.length_take]; rfl)) ?_; (with_reducible refine (cruciblelaw0_CopyBinds.calls _ _ l0 t134 _ ?side1 ?side2 A2.out).mono ?_); (case side1 => repeat (first | exact HR0.out | (with_reducible refine Kd.C_alloc ?_ _) | (with_reducible refine Kd.C_drewN ?_ _) | (with_reducible refine Kd.C_drew ?_))); (case side2 => exact HC0.out); rintro e w6 ⟨v135, rfl, ho0, hb⟩; refine ⟨_, rfl, ?_⟩; have n0_ := Aside0.mk (Kd.R_lower ho0 (below_size (by repeat (first | (with_reducible first | exact HB.out | apply below_alloc | apply pw_below_drewN | apply below_drew1) | exact HB.out)))); have n1_ := Aside0.mk (below_step (by repeat (first | (with_reducible first | exact HB.out | apply below_alloc | apply pw_below_drewN | apply below_drew1) | exact HB.out)) hb); clear HB; have HO136 := n0_; have HB := n1_; clear n0_ n1_; (try clear hb); (try clear hb2); (try clear hk); (try clear hi); (try clear ho0)) | ((with_reducible refine gate_dst (N := 8) rfl ?_); refine Kd.R_lit k34 _ 34 ?hg (N := 8) ?hd (xs := ([(⟨(⟨#[]⟩ : ByteArray), (⟨#[120]⟩ : ByteArray)⟩ : S34), (⟨(⟨#[]⟩ : ByteArray), (⟨#[120]⟩ : ByteArray)⟩ : S34)] : List (S34))) (inner := [.string (⟨#[]⟩ : ByteArray), .string (⟨#[120]⟩ : ByteArray), .string (⟨#[]⟩ : ByteArray), .string (⟨#[120]⟩ : ByteArray)]) (ok := fun _ => True) (okp := fun _ => True) ?hr ?hp (fun _ hk => hk) trivial (Below.refl _ _) (Nat.le_refl _) (by simp) ?_; (case hd => rfl); (case hg => rfl); (case hr => first | (go_simp; done) | (go_simp; rfl)); (case hp => exact (Reps.c2 (show Kd.M k34 _ _ _ (⟨(⟨#[]⟩ : ByteArray), (⟨#[120]⟩ : ByteArray)⟩ : S34) [.string (⟨#[]⟩ : ByteArray), .string (⟨#[120]⟩ : ByteArray)] from (k34_mkM _ _ _ (⟨(⟨#[]⟩ : ByteArray), (⟨#[120]⟩ : ByteArray)⟩ : S34) )) (Reps.c2 (show Kd.M k34 _ _ _ (⟨(⟨#[]⟩ : ByteArray), (⟨#[120]⟩ : ByteArray)⟩ : S34) [.string (⟨#[]⟩ : ByteArray), .string (⟨#[120]⟩ : ByteArray)] from (k34_mkM _ _ _ (⟨(⟨#[]⟩ : ByteArray), (⟨#[120]⟩ : ByteArray)⟩ : S34) )) (Reps.none _ _)))); intro v138 w7 ho8 hb hg_ hnew_; clear hg_ hnew_; (first | rw [← Ny137.out] at ho8 | (simp only [Int.reduceToNat] at ho8; rw [← Ny137.out] at ho8)); have n0_ := Aside0.mk (Kd.R_elder' (by (with_reducible repeat (first | apply Kd.R_alloc | apply Kd.R_drewN | apply Kd.R_drew)); exact HO136.out) (Kd.R_base ho8) hb); have n1_ := Aside0.mk (Kd.R_lower (Kd.R_new' ho8 (Kd.R_lt (by (with_reducible repeat (first | apply Kd.R_alloc | apply Kd.R_drewN | apply Kd.R_drew)); exact HO136.out))) (below_size (by repeat (first | (with_reducible first | exact HB.out | apply below_alloc | apply pw_below_drewN | apply below_drew1) | exact HB.out)))); have n2_ := Aside0.mk (below_step (by repeat (first | (with_reducible first | exact HB.out | apply below_alloc | apply pw_below_drewN | apply below_drew1) | exact HB.out)) hb); clear HO136; clear HB; have HO136 := n0_; have HO139 := n1_; have HB := n2_; clear n0_ n1_ n2_; clear hb ho8; obtain ⟨Ao10, co10, eo10⟩ := Kd.R_slice HO139.out; subst eo10) | ((with_reducible refine gate_builtin (b := .append) (xs := #[.tmp 5, .tmp 8]) rfl ?_); at_builtin; refine Kd.R_append_rows k34 (w0 := w) w.heap.size rfl (.tmp 5) (.tmp 8) 22 34 (.agg #[(.string ⟨#[]⟩), (.string ⟨#[]⟩)]) 32 rfl Try.underlying22 info34 rfl (by decide) (by omega) v135 t134 y137 _ _ _ (fun k_ => some k_ ≠ (.slice Ao10 y137.length co10 : Value).ownBlock) (fun _ => False) rfl rfl ?aO ?aR (fun _ _ h => h) (fun _ h => h.elim) ?aF ?aB ?aS ?aL ?_; (case aR => repeat (first | exact (Kd.R_reads' HO139.out).2.2 | (with_reducible refine Kd.C_alloc ?_ _) | (with_reducible refine Kd.C_drewN ?_ _) | (with_reducible refine Kd.C_drew ?_))); (case aB => exact (by repeat (first | (with_reducible first | exact HB.out | apply below_alloc | apply pw_below_drewN | apply below_drew1) | exact HB.out))); (case aF => exact (fun k_ hk => Kd.fresh' (Kd.R_lt (by (with_reducible repeat (first | apply Kd.R_alloc | apply Kd.R_drewN | apply Kd.R_drew)); exact HO139.out)) k_ hk)); (case aO => exact (by (with_reducible repeat (first | apply Kd.R_alloc | apply Kd.R_drewN | apply Kd.R_drew)); exact Kd.R_mono HO136.out (fun _ hk => hk.2))); (case aS => exact (below_size (by repeat (first | (with_reducible first | exact HB.out | apply below_alloc | apply pw_below_drewN | apply below_drew1) | exact HB.out)))); (case aL => have := LMc3.out; omega); intro v141 w9 ho hb hg hat; rw [← Ny140.out] at ho; have n0_ := Aside0.mk (Kd.R_after (ok := (fun _ => True)) (by (with_reducible repeat (first | apply Kd.R_alloc | apply Kd.R_drewN | apply Kd.R_drew)); exact HO139.out) hg hat); have n1_ := Aside0.mk (hb); have n2_ := Aside0.mk (ho); clear HO139; clear HB; clear HO136; have HO139 := n0_; have HB := n1_; have HO142 := n2_; clear n0_ n1_ n2_; clear ho hb hg hat; obtain ⟨Ao11, co11, eo11⟩ := Kd.R_slice HO142.out; subst eo11; have q12 : ((l0.length : Int) : Int) ≤ ((y140.length : Int) : Int) := of_decide_eq_true (by first | (with_reducible assumption) | assumption); obtain ⟨i012, hi012, _, hsz12, _⟩ := info_parts info34; have hcut12 := cut_to (P := Try.prog) 22 34 .i64 Try.underlying22 hi012 Ao11 y140.length co11 (l0.length : Int) (of_decide_eq_true (by first | (with_reducible assumption) | assumption)) q12 (Kd.R_reads' HO142.out).2.1; have hr12 := Kd.R_take (m := ((l0.length : Int) : Int).toNat) HO142.out (by omega); have hy12 : y143.length = ((l0.length : Int) : Int).toNat := (by rw [Ny143.out, List.length_take]; omega); rw [← Ny143.out] at hr12; rw [← hy12] at hr12 hcut12; clear hi012 hsz12; clear hr12; replace q12 := eq_true q12))
  go_ret
  refine ⟨Ao11, co11, ?_, ?_, HB.out⟩
  · rfl
  · have h_ := HO142.out
    rw [hfin.out] at h_
    have h2_ := Kd.R_mono h_ (fun _ _ => trivial) (ok' := fun _ => True)
    simpa using h2_

theorem cut_more {P : Program} (t e : TypeId) (kh : IntKind) {i : TypeInfo} (ht : P.underlying t = some (.slice e)) (hi : P.info? e = some i) (A : Option Addr) (n c : Nat) (j : Int) (h0 : 0 ≤ j) (hm : j ≤ c) (hc : n ≤ c) :
    ∀ W : World, (Instr.slice t (.slice A n c) none (some (.int kh j)) none).run P W = .ok (.slice A j.toNat c) W := by
  intro W
  have hel : P.elem t = e := by simp [Program.elem, ht]
  have hu : P.underlying t = some (.slice (P.elem t)) := by rw [hel]; exact ht
  have ha : (A.map fun x => x.add 0) = A := by cases A <;> simp [Addr.add]
  rw [run_slice_h W t A n c hu kh j h0 (by omega), hel]
  simp [sizeOf, typeInfo, hi, sliced, Result.andThen, ha]
theorem rd_tail (l : List S34) : rd_T34 (l ++ [markB, markB]) (l.length : Int) = markB ∧ rd_T34 (l ++ [markB, markB]) ((l.length : Int) + 1) = markB := by
  constructor
  · simp [rd_T34]
  · simp only [rd_T34, show ((l.length : Int) + 1).toNat = l.length + 1 by omega]
    simp
set_option maxHeartbeats 4000000 in
set_option maxRecDepth 100000 in
theorem kept_calls (A0 : Option Addr) (c0 : Nat) (l : List S34) (A1 : Option Addr) (c1 : Nat) (w : World) (hf : Kd.C k34 w A0 (l.length + 2) (l ++ [markB, markB])) (hc0 : l.length + 2 ≤ c0) (hr1 : Kd.C k34 w A1 l.length l) (hc1 : l.length ≤ c1) (hl : l.length ≤ 4398046511104)
    (k : Nat) (hs : cruciblelaw0_SameBinds.f k l l = some true) :
    Calls Try.prog 12 #[.slice A0 l.length c0, .slice A1 l.length c1] w fun e w' => e = .returned (.bool true) ∧ Drawn0 w w' := by
  have hlen : (l ++ [markB, markB]).length = l.length + 2 := by simp
  have hr0 : Kd.C k34 w A0 l.length l := by
    have h_ := Kd.C_take (m := l.length) (show Kd.C k34 w A0 (l ++ [markB, markB]).length (l ++ [markB, markB]) by rw [hlen]; exact hf) (by omega)
    rw [List.take_left] at h_
    exact h_
  obtain ⟨ad, e0, hx0, hx1⟩ := at_T34 hf (l.length : Int) (by omega) (by omega)
  obtain ⟨ad', e1, hy0, hy1⟩ := at_T34 hf ((l.length : Int) + 1) (by omega) (by omega)
  subst e0
  obtain rfl : ad = ad' := by injection e1
  rw [(rd_tail l).1] at hx0 hx1
  rw [(rd_tail l).2] at hy0 hy1
  have HR0 := Aside0.mk hr0
  have HR1 := Aside0.mk hr1
  obtain ⟨i0, hi0, _, hsz, _⟩ := info_parts info34
  have hcut := cut_more (P := Try.prog) 22 34 .i64 Try.underlying22 hi0 (some ad) l.length c0 ((l.length : Int) + 2) (by omega) (by omega) (by omega)
  rw [show ((l.length : Int) + 2).toNat = l.length + 2 by omega] at hcut
  rw [show ((l.length : Int)).toNat * 2 = l.length * 2 by omega] at hx0 hx1
  rw [show ((l.length : Int) + 1).toNat * 2 = (l.length + 1) * 2 by omega] at hy0 hy1
  have hu42 := Try.underlying34
  clear hr0 hr1 hi0 hsz hf e1
  have m0 : markB.f0.toList = [] := by rw [Lib.toList_data]; rfl
  have m1 : markB.f1.toList = [120] := by rw [Lib.toList_data]; rfl
  have b1 : (l.length : Int) < (l.length + 2 : Nat) := by omega
  have b2 : (l.length : Int) + 1 < (l.length + 2 : Nat) := by omega
  go_enter Try.func12, Try.ntmps12
  go_wp2_with fail
  refine (cruciblelaw0_SameBinds.calls k _ _ l _ _ l true _ HR0.out (by omega) HR1.out hc1 hs).mono ?_
  rintro e w' ⟨rfl, ⟨nd, rfl⟩⟩
  go_wp2_with fail
  go_ret
  exact ⟨by simp, ⟨_, rfl⟩⟩

end Go.Proofs.Ytbkgcdjbkoeejaa.Print
