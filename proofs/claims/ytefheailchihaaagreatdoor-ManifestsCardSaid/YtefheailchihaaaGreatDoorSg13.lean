import Derived.Deep.DeepCutAuto
import Derived.Deep.QuietTactic
import Derived.BigQuiet
import Derived.Test.YtefheailchihaaaGreatDoorSg12
set_option maxHeartbeats 8000000
set_option maxRecDepth 100000
set_option linter.unusedVariables false
set_option linter.unusedSimpArgs false
section
namespace Go.Proofs.YtefheailchihaaaGreatDoor.Print
open Go.RowKit Go.Lib Go.Shelf Go.Proofs.YtefheailchihaaaGreatDoorW.PrintWords Go.Proofs.YtefheailchihaaaGreatDoorW.PrintLast Go.Proofs.YtefheailchihaaaGreatDoorW.PrintMore
attribute [local go_sem ↓] Go.wp_at_zero Go.wp_at_succ
theorem poolAt_go (ps : List S44) (nm : ByteArray) (hl : ps.length ≤ 1000) : ∀ (d i k : Nat), i + d = ps.length → d < k → Bw.l0 k ps nm (i : Int) = some (Dy (fun x : S44 => x.f0.toList == nm.toList) (ps.drop i) i)
 | _, _, 0, _, h => absurd h (by omega)
 | 0, i, k + 1, h, _ => by
  unfold Bw.l0
  rw [if_neg (by omega), List.drop_of_length_le (by omega)]
  rfl
 | d + 1, i, k + 1, h, hk => by
  have hi : i < ps.length := by omega
  have hr : Ds ps (i : Int) = ps[i] := by simp [Ds, List.getD_eq_getElem?_getD, hi]
  conv => lhs; unfold Bw.l0
  rw [if_pos (by omega), if_pos (by omega), hr, Gm _ ps i hi, wrapM i (by omega)]
  by_cases hc : ps[i].f0.toList = nm.toList
  ·rw [if_pos hc, if_pos (beq_iff_eq.2 hc)]
  ·rw [if_neg hc, if_neg (fun e => hc (beq_iff_eq.1 e))]
   exact poolAt_go ps nm hl d (i + 1) k (by omega) (by omega)
theorem r32 (ps : List S44) (hl : ps.length ≤ 1000) (s : ByteArray) (A : Option Addr) (c : Nat) (w : World) (hr : Kd.C k44 w A ps.length ps) (hc : ps.length ≤ c) : Calls Tryz.prog 32 #[.slice A ps.length c, .string s] w fun e w' => e = .returned (.int .i64 (idxP (fun x : S44 => x.f0.toList == s.toList) ps)) ∧ Below w.heap.size w w' :=
 (Bw.calls 2000 A c ps s _ w hr hc (by unfold Bw.f; exact poolAt_go ps s hl ps.length 0 2000 (by omega) (by omega))).mono (fun e w' h => ⟨h.1, h.2.below⟩)
theorem r96 (xs : List ByteArray) (hx : ∀ x ∈ xs, x.size ≤ 1048576) (hl : xs.length ≤ 1048577) (s : ByteArray) (hs : s.size ≤ 16) (A : Option Addr) (c : Nat) (w : World) (hr : Kd.C Kd.string w A xs.length xs) (hc : xs.length ≤ c) : Calls Tryz.prog 96 #[.slice A xs.length c, .string s] w fun e w' => e = .returned (.string (Em xs s)) ∧ Below w.heap.size w w' :=
 (Bh.calls 2000000 A c xs s _ w hr hc (refJoin xs s hx hl hs 2000000 (by omega))).mono (fun e w' h => ⟨h.1, h.2.below⟩)
theorem r54 (xs : List ByteArray) (hl : xs.length ≤ 1048577) (s : ByteArray) (A : Option Addr) (c : Nat) (w : World) (hr : Kd.C Kd.string w A xs.length xs) (hc : xs.length ≤ c) : Calls Tryz.prog 54 #[.slice A xs.length c, .string s] w fun e w' => e = .returned (.bool (xs.any fun x => x.toList == s.toList)) ∧ Below w.heap.size w w' :=
 (Cd.calls 2000000 A c xs s _ w hr hc (refHas xs s hl 2000000 (by omega))).mono (fun e w' h => ⟨h.1, h.2.below⟩)
theorem r56 (s : ByteArray) (hs : s.size ≤ 1048576) (w : World) : Calls Tryz.prog 56 #[.string s] w fun e w' => e = .returned (.tuple #[.string (cutC 32 s).1, .string (cutC 32 s).2.1]) ∧ Below w.heap.size w w' :=
 (B8.calls 2000000 s _ _ w (refHead s hs 2000000 (by omega))).mono (fun e w' h => ⟨h.1, h.2.below⟩)
theorem r61 (xs : List ByteArray) (hx : ∀ x ∈ xs, x.size ≤ 1048576) (hl : xs.length ≤ 1048577) (A : Option Addr) (c : Nat) (w : World) (hr : Kd.C Kd.string w A xs.length xs) (hc : xs.length ≤ c) : Calls Tryz.prog 61 #[.slice A xs.length c] w fun e w' => ∃ v0_ : Value, e = .returned (.tuple #[v0_, .bool (En xs).2]) ∧ Kd.R Kd.string 9 w' w.heap.size (fun _ => True) v0_ (En xs).1 ∧ Below w.heap.size w w' :=
 Bo.calls 10000000 A c xs _ _ w hr hc (refCleaned 1048576 (by omega) xs hx hl 10000000 (by omega))
theorem r21 (s : ByteArray) (hs : s.size ≤ 140737488355328) (w : World) : Calls Tryz.prog 21 #[.string s] w fun e w' => ∃ v0_ : Value, e = .returned (.tuple #[v0_, .int .i64 (Ef s).2]) ∧ Kd.R k59 59 w' w.heap.size (fun _ => True) v0_ (Ef s).1 ∧ Below w.heap.size w w' :=
 Ah.calls 20000 s _ _ w (Go.Proofs.YtefheailchihaaaGreatDoor.Pure.refLines s hs 20000 (by omega))
theorem below_size_alloc (w : World) (o : Obj) : Below w.heap.size w (w.alloc o) := (Below.refl _ _).alloc (Nat.le_refl _) o
theorem r60 (a b c d : List ByteArray) (s : ByteArray) (ha : ∀ x ∈ a, x.size ≤ 1048576) (hb : ∀ x ∈ b, x.size ≤ 1048576) (hc : ∀ x ∈ c, x.size ≤ 1048576) (hd : ∀ x ∈ d, x.size ≤ 1048576) (la : a.length ≤ 1048577) (lb : b.length ≤ 1048577) (lc : c.length ≤ 1048577) (ld : d.length ≤ 1048577)
 (A0 A2 A3 A4 : Option Addr) (c0 c2 c3 c4 : Nat) (w : World) (r0 : Kd.C Kd.string w A0 a.length a) (k0 : a.length ≤ c0) (r2 : Kd.C Kd.string w A2 b.length b) (k2 : b.length ≤ c2) (r3 : Kd.C Kd.string w A3 c.length c) (k3 : c.length ≤ c3) (r4 : Kd.C Kd.string w A4 d.length d) (k4 : d.length ≤ c4) :
 Calls Tryz.prog 60 #[.agg #[.slice A0 a.length c0, .string s, .slice A2 b.length c2, .slice A3 c.length c3, .slice A4 d.length c4]] w fun e w' => ∃ v0 v2 v3 v4 : Value, e = .returned (.tuple #[.agg #[v0, .string s, v2, v3, v4], .bool ((En a).2 && ((En b).2 && ((En c).2 && (En d).2)))]) ∧ Kd.R Kd.string 9 w' w.heap.size (fun _ => True) v0 (En a).1 ∧ Kd.R Kd.string 9 w' w.heap.size (fun _ => True) v2 (En b).1 ∧ Kd.R Kd.string 9 w' w.heap.size (fun _ => True) v3 (En c).1 ∧ Kd.R Kd.string 9 w' w.heap.size (fun _ => True) v4 (En d).1 ∧ Below w.heap.size w w' := by
 obtain ⟨⟨q0, b0⟩, hq0⟩ : ∃ q, En a = q := ⟨_, rfl⟩
 have H0 : ∀ W, Below w.heap.size w W → Calls Tryz.prog 61 #[.slice A0 a.length c0] W fun e w' => ∃ D d, e = .returned (.tuple #[.slice D q0.length d, .bool b0]) ∧ Kd.R Kd.string 9 w' w.heap.size (fun _ => True) (.slice D q0.length d) q0 ∧ Below W.heap.size W w' := fun W hW => by
  have h := r61 a ha la A0 c0 W (Kd.Bb r0 hW) k0
  rw [hq0] at h
  refine h.mono ?_
  rintro e w' ⟨v, he, hr, hb⟩
  obtain ⟨D, d, rfl⟩ := Kd.Bd hr
  exact ⟨D, d, he, Kd.Dv hr hW.size, hb⟩
 obtain ⟨⟨q2, b2⟩, hq2⟩ : ∃ q, En b = q := ⟨_, rfl⟩
 have H2 : ∀ W, Below w.heap.size w W → Calls Tryz.prog 61 #[.slice A2 b.length c2] W fun e w' => ∃ D d, e = .returned (.tuple #[.slice D q2.length d, .bool b2]) ∧ Kd.R Kd.string 9 w' w.heap.size (fun _ => True) (.slice D q2.length d) q2 ∧ Below W.heap.size W w' := fun W hW => by
  have h := r61 b hb lb A2 c2 W (Kd.Bb r2 hW) k2
  rw [hq2] at h
  refine h.mono ?_
  rintro e w' ⟨v, he, hr, hb⟩
  obtain ⟨D, d, rfl⟩ := Kd.Bd hr
  exact ⟨D, d, he, Kd.Dv hr hW.size, hb⟩
 obtain ⟨⟨q3, b3⟩, hq3⟩ : ∃ q, En c = q := ⟨_, rfl⟩
 have H3 : ∀ W, Below w.heap.size w W → Calls Tryz.prog 61 #[.slice A3 c.length c3] W fun e w' => ∃ D d, e = .returned (.tuple #[.slice D q3.length d, .bool b3]) ∧ Kd.R Kd.string 9 w' w.heap.size (fun _ => True) (.slice D q3.length d) q3 ∧ Below W.heap.size W w' := fun W hW => by
  have h := r61 c hc lc A3 c3 W (Kd.Bb r3 hW) k3
  rw [hq3] at h
  refine h.mono ?_
  rintro e w' ⟨v, he, hr, hb⟩
  obtain ⟨D, d, rfl⟩ := Kd.Bd hr
  exact ⟨D, d, he, Kd.Dv hr hW.size, hb⟩
 obtain ⟨⟨q4, b4⟩, hq4⟩ : ∃ q, En d = q := ⟨_, rfl⟩
 have H4 : ∀ W, Below w.heap.size w W → Calls Tryz.prog 61 #[.slice A4 d.length c4] W fun e w' => ∃ D d, e = .returned (.tuple #[.slice D q4.length d, .bool b4]) ∧ Kd.R Kd.string 9 w' w.heap.size (fun _ => True) (.slice D q4.length d) q4 ∧ Below W.heap.size W w' := fun W hW => by
  have h := r61 d hd ld A4 c4 W (Kd.Bb r4 hW) k4
  rw [hq4] at h
  refine h.mono ?_
  rintro e w' ⟨v, he, hr, hb⟩
  obtain ⟨D, d, rfl⟩ := Kd.Bd hr
  exact ⟨D, d, he, Kd.Dv hr hW.size, hb⟩
 rw [hq0, hq2, hq3, hq4]
 have HA := Aa.mk ((below_size_alloc w (.cells #[.slice A0 a.length c0, .string s, .slice A2 b.length c2, .slice A3 c.length c3, .slice A4 d.length c4] 66)).trans ((Below.refl _ _).alloc (by simp) (.cells #[.slice none 0 0, .string ⟨#[]⟩, .slice none 0 0, .slice none 0 0, .slice none 0 0] 66)))
 have HX := Aa.mk (Cw (Cv w (.cells #[.slice A0 a.length c0, .string s, .slice A2 b.length c2, .slice A3 c.length c3, .slice A4 d.length c4] 66)) (.cells #[.slice none 0 0, .string ⟨#[]⟩, .slice none 0 0, .slice none 0 0, .slice none 0 0] 66))
 have HY := Aa.mk (Cv (w.alloc (.cells #[.slice A0 a.length c0, .string s, .slice A2 b.length c2, .slice A3 c.length c3, .slice A4 d.length c4] 66)) (.cells #[.slice none 0 0, .string ⟨#[]⟩, .slice none 0 0, .slice none 0 0, .slice none 0 0] 66))
 have hsz : (w.alloc (.cells #[.slice A0 a.length c0, .string s, .slice A2 b.length c2, .slice A3 c.length c3, .slice A4 d.length c4] 66)).heap.size = w.heap.size + 1 := by simp
 rw [hsz] at HY
 clear hsz
 replace H0 := Lib.hid H0
 replace H2 := Lib.hid H2
 replace H3 := Lib.hid H3
 replace H4 := Lib.hid H4
 clear hq0 hq2 hq3 hq4 r0 r2 r3 r4 ha hb hc hd
 go_enter Tryz.func60, Tryz.ntmps60
 go_upto_region 5 with (first | (go_at_call 61; (with_reducible refine (H0.out _ HA.out).mono ?_); rintro x w1 ⟨D0, d0, rfl, hr, hb⟩; have HR0 := Aa.mk hr; have H01 := Aa.mk hb; have HB1 := Aa.mk (HA.out.trans (hb.mono HA.out.size)); have HX1 := Aa.mk (Aj HX.out hb); have HY1 := Aa.mk (Aj HY.out hb); have x1 := Ab HX1.out 2; clear hr hb) | (go_at_call 61; (with_reducible refine (H2.out _ HB1.out).mono ?_); rintro x w2 ⟨D2, d2, rfl, hr, hb⟩; have HR2 := Aa.mk hr; have H02 := Aa.mk hb; have HB2 := Aa.mk (HB1.out.trans (hb.mono HB1.out.size)); have HX2 := Aa.mk (Aj HX1.out hb); have HY2 := Aa.mk (Aj HY1.out hb); have x2 := Ab HX2.out 3; clear hr hb) | (go_at_call 61; (with_reducible refine (H3.out _ HB2.out).mono ?_); rintro x w3 ⟨D3, d3, rfl, hr, hb⟩; have HR3 := Aa.mk hr; have H03 := Aa.mk hb; have HB3 := Aa.mk (HB2.out.trans (hb.mono HB2.out.size)); have HX3 := Aa.mk (Aj HX2.out hb); have HY3 := Aa.mk (Aj HY2.out hb); have x3 := Ab HX3.out 4; clear hr hb) | (go_at_call 61; (with_reducible refine (H4.out _ HB3.out).mono ?_); rintro x w4 ⟨D4, d4, rfl, hr, hb⟩; have HR4 := Aa.mk hr; have H04 := Aa.mk hb; have HB4 := Aa.mk (HB3.out.trans (hb.mono HB3.out.size)); have HX4 := Aa.mk (Aj HX3.out hb); have HY4 := Aa.mk (Aj HY3.out hb); have x4 := Ab HX4.out 1; clear hr hb))
 have y0 := Ab HY4.out 0
 have y1 := Ab HY4.out 1
 have y2 := Ab HY4.out 2
 have y3 := Ab HY4.out 3
 have y4 := Ab HY4.out 4
 have f0 := As HY4.out 0
 have f1 := As HY4.out 1
 have f2 := As HY4.out 2
 have f3 := As HY4.out 3
 have f4 := As HY4.out 4
 have HYN : (((((w4.setCell ⟨w.heap.size + 1, 0, none⟩ (.slice D0 q0.length d0)).setCell ⟨w.heap.size + 1, 1, none⟩ (.string s)).setCell ⟨w.heap.size + 1, 2, none⟩ (.slice D2 q2.length d2)).setCell ⟨w.heap.size + 1, 3, none⟩ (.slice D3 q3.length d3)).setCell ⟨w.heap.size + 1, 4, none⟩ (.slice D4 q4.length d4)).heap[w.heap.size + 1]? = some (.cells #[.slice D0 q0.length d0, .string s, .slice D2 q2.length d2, .slice D3 q3.length d3, .slice D4 q4.length d4] 66 (0, 0)) := (Az (Az (Az (Az (Az HY4.out 0 (.slice D0 q0.length d0) rfl) 1 (.string s) rfl) 2 (.slice D2 q2.length d2) rfl) 3 (.slice D3 q3.length d3) rfl) 4 (.slice D4 q4.length d4) rfl)
 have HBN : Below w.heap.size w (((((w4.setCell ⟨w.heap.size + 1, 0, none⟩ (.slice D0 q0.length d0)).setCell ⟨w.heap.size + 1, 1, none⟩ (.string s)).setCell ⟨w.heap.size + 1, 2, none⟩ (.slice D2 q2.length d2)).setCell ⟨w.heap.size + 1, 3, none⟩ (.slice D3 q3.length d3)).setCell ⟨w.heap.size + 1, 4, none⟩ (.slice D4 q4.length d4)) := (C7 (j := 4) (v := (.slice D4 q4.length d4)) (C7 (j := 3) (v := (.slice D3 q3.length d3)) (C7 (j := 2) (v := (.slice D2 q2.length d2)) (C7 (j := 1) (v := (.string s)) (C7 (j := 0) (v := (.slice D0 q0.length d0)) HB4.out (by omega)) (by omega)) (by omega)) (by omega)) (by omega))
 have hk : Kept w4 (((((w4.setCell ⟨w.heap.size + 1, 0, none⟩ (.slice D0 q0.length d0)).setCell ⟨w.heap.size + 1, 1, none⟩ (.string s)).setCell ⟨w.heap.size + 1, 2, none⟩ (.slice D2 q2.length d2)).setCell ⟨w.heap.size + 1, 3, none⟩ (.slice D3 q3.length d3)).setCell ⟨w.heap.size + 1, 4, none⟩ (.slice D4 q4.length d4)) (fun k => k = w.heap.size + 1) := (Kept.then_ (Kept.then_ (Kept.then_ (Kept.then_ (Kept.then_ (Kept.of_below (Below.refl _ _) _) (Bm _ (w.heap.size + 1) 0 (.slice D0 q0.length d0)) (fun k hk => .inl hk)) (Bm _ (w.heap.size + 1) 1 (.string s)) (fun k hk => .inl hk)) (Bm _ (w.heap.size + 1) 2 (.slice D2 q2.length d2)) (fun k hk => .inl hk)) (Bm _ (w.heap.size + 1) 3 (.slice D3 q3.length d3)) (fun k hk => .inl hk)) (Bm _ (w.heap.size + 1) 4 (.slice D4 q4.length d4)) (fun k hk => .inl hk))
 have hS : ∀ k, k = w.heap.size + 1 → ∃ cells q, w4.heap[k]? = some (.cells cells q (0, 0)) ∧ q ∉ [9] := fun k hk => by subst hk; exact ⟨_, 66, HY4.out, by decide⟩
 have HF := Aa.mk (And.intro (Bf (Kd.Bj (Kd.Bj (Kd.Bj HR0.out H02.out) H03.out) H04.out) hk hS) (And.intro (Bf (Kd.Bj (Kd.Bj HR2.out H03.out) H04.out) hk hS) (And.intro (Bf (Kd.Bj HR3.out H04.out) hk hS) (Bf HR4.out hk hS))))
 have z0 := Ab HYN 0
 have z1 := Ab HYN 1
 have z2 := Ab HYN 2
 have z3 := Ab HYN 3
 have z4 := Ab HYN 4
 have HBN := Aa.mk HBN
 clear hk hS HYN
 cases b0 <;> cases b2 <;> cases b3 <;> (go_wp2_with (fail); first | (refine bodyPost_ret (v := .tuple #[.agg #[.slice D0 q0.length d0, .string s, .slice D2 q2.length d2, .slice D3 q3.length d3, .slice D4 q4.length d4], .bool false]) (by simp [results, Tryz.results60, go_sem, z0, z1, z2, z3, z4]) rfl ?_; exact ⟨_, _, _, _, rfl, HF.out.1, HF.out.2.1, HF.out.2.2.1, HF.out.2.2.2, HBN.out⟩) | (refine bodyPost_ret (v := .tuple #[.agg #[.slice D0 q0.length d0, .string s, .slice D2 q2.length d2, .slice D3 q3.length d3, .slice D4 q4.length d4], .bool b4]) (by simp [results, Tryz.results60, go_sem, z0, z1, z2, z3, z4]) rfl ?_; exact ⟨_, _, _, _, rfl, HF.out.1, HF.out.2.1, HF.out.2.2.1, HF.out.2.2.2, HBN.out⟩))
def RE (w : World) (base B : Nat) (p : Pst) (vE vP vD vR vO : Value) (op : Int) (v6 : Value) (nm : ByteArray) (v8 v9 v10 v11 : Value) (ok : Nat → Prop) (outs ins imp ord : List ByteArray) (own : List S174) : Prop :=
 Rb w B vE vP vD vR vO op v6 nm v8 v9 v10 v11 ∧ Ha w base p vE vP vD vR vO ok ∧ Kd.R Kd.string 9 w base (fun k => some k ≠ vD.ownBlock) v6 outs ∧ Kd.R Kd.string 9 w base (fun k => some k ≠ vD.ownBlock) v8 ins ∧ Kd.R Kd.string 9 w base (fun k => some k ≠ vD.ownBlock) v9 imp ∧ Kd.R Kd.string 9 w base (fun k => some k ≠ vD.ownBlock) v10 ord ∧ Kd.R k174 174 w base (fun _ => True) v11 own
theorem re_below {w w1 : World} {base B : Nat} {p : Pst} {vE vP vD vR vO : Value} {op : Int} {v6 : Value} {nm : ByteArray} {v8 v9 v10 v11 : Value} {ok : Nat → Prop} {outs ins imp ord : List ByteArray} {own : List S174} (h : RE w base B p vE vP vD vR vO op v6 nm v8 v9 v10 v11 ok outs ins imp ord own) (hb : Below w.heap.size w w1) : RE w1 base B p vE vP vD vR vO op v6 nm v8 v9 v10 v11 ok outs ins imp ord own :=
 ⟨Aj h.1 hb, D8 h.2.1 hb, Kd.Bj h.2.2.1 hb, Kd.Bj h.2.2.2.1 hb, Kd.Bj h.2.2.2.2.1 hb, Kd.Bj h.2.2.2.2.2.1 hb, Kd.Bj h.2.2.2.2.2.2 hb⟩
theorem paths_join {xs : List ByteArray} (h : Paths xs) : (Em xs ⟨#[32]⟩).size ≤ 2048 := by
 have h1 := join_le 16 xs [32] (fun x hx => pathOk_size (h.1 x hx))
 have h2 := h.2
 simp only [List.length_cons, List.length_nil] at h1
 show (Lib.join (xs.map (·.data.toList)) [32]).toArray.size ≤ _
 rw [List.size_toArray]
 omega
theorem paths_big {xs : List ByteArray} (h : Paths xs) : ∀ x ∈ xs, x.size ≤ 1048576 := fun x hx => Nat.le_trans (pathOk_size (h.1 x hx)) (by omega)
theorem Ic (l : List S174) (s t : ByteArray) : (Cn l s t).2 = 0 ∨ (Cn l s t).2 = 400 ∨ (Cn l s t).2 = 401 := by
 unfold Cn
 split
 ·unfold setIn
  split
  ·exact Or.inl rfl
  ·split
   ·exact Or.inr (Or.inr rfl)
   ·exact Or.inl rfl
 ·exact Or.inr (Or.inl rfl)
theorem scopeSet_put {l : List S174} {s t : ByteArray} (h : (Cn l s t).2 = 0) : (Cn l s t).1 = putL l s t := by
 unfold putL
 rw [if_pos h]
theorem scopeSet_small {l : List S174} (hl : Gq l) (s t : ByteArray) : Gq (Cn l s t).1 := by
 by_cases h : (Cn l s t).2 = 0
 ·rw [scopeSet_put h]; exact smallS_put hl s t
 ·unfold Cn at h ⊢
  split
  ·rename_i hc
   rw [if_pos hc] at h
   unfold setIn at h ⊢
   split
   ·rename_i h0
    rw [if_pos h0] at h
    exact absurd rfl h
   ·rename_i h0
    rw [if_neg h0] at h
    split
    ·exact smallS_nil
    ·rename_i h1
     rw [if_neg h1] at h
     exact absurd rfl h
  ·exact smallS_nil
def setsE (outs ins : List ByteArray) (own : List S174) : Int := if (Cn own sIn (Em ins ⟨#[32]⟩)).2 = 0 then (Cn (Ii ins own) sOut (Em outs ⟨#[32]⟩)).2 else (Cn own sIn (Em ins ⟨#[32]⟩)).2
theorem finE_eq (outer : List S174) (outs ins : List ByteArray) (r : S116) (own : List S174) : finE outer outs ins r own 0 = if setsE outs ins own = 401 then 801 else if setsE outs ins own = 0 ∧ (finC outer outs ins r own).2 = 0 ∧ (finC outer outs ins r own).1.toList ≠ [] then 0 else 800 := by
 have hc : (finC outer outs ins r own).2 ≠ 401 := evalOf_err _ _ _
 unfold finE setsE
 rcases Ic own sIn (Em ins ⟨#[32]⟩) with h1 | h1 | h1
 ·rw [h1, if_pos rfl]
  rcases Ic (Ii ins own) sOut (Em outs ⟨#[32]⟩) with h2 | h2 | h2
  ·rw [h2]
   rw [show Db (Db 0 0) 0 = 0 by decide, if_neg (by decide)]
   by_cases he : (finC outer outs ins r own).2 = 0
   ·rw [he, show Db 0 0 = 0 by decide]
    cases hl : (finC outer outs ins r own).1.toList with
    | nil => rw [if_neg (fun h => h.2.2 rfl)]; rfl
    | cons a l => rw [if_pos ⟨rfl, rfl, by simp⟩]; rfl
   ·rw [if_neg (fun h => he h.2.1)]
    have e1 : Db 0 (finC outer outs ins r own).2 = 800 := by
     unfold Db
     rw [bne_iff_ne.2 hc, beq_false_of_ne he]
     rfl
    rw [e1]
    unfold B9
    rw [if_neg (fun h => absurd h.2 (by decide))]
  ·rw [h2]
   rw [show Db (Db 0 0) 400 = 800 by decide, if_neg (by decide), if_neg (fun h => absurd h.1 (by decide))]
   unfold Db B9 Gr
   simp
  ·rw [h2]
   rw [show Db (Db 0 0) 401 = 801 by decide, if_pos rfl]
   unfold Db B9 Gr
   simp
 ·rw [h1, if_neg (show ¬ (400 : Int) = 0 by decide), if_neg (show ¬ (400 : Int) = 401 by decide), if_neg (fun h => absurd h.1 (by decide)), show Db 0 400 = 800 by decide]
  unfold Db B9 Gr
  simp
 ·rw [h1, if_neg (show ¬ (401 : Int) = 0 by decide), if_pos rfl, show Db 0 401 = 801 by decide]
  unfold Db B9 Gr
  simp
theorem Hi {w : World} {base B : Nat} {p : Pst} {vE vP vD vR vO : Value} {cs : Array Value} {ok : Nat → Prop} (h : Ha w base p vE vP vD vR vO ok) (hb : w.heap[B]? = some (.cells cs 68 (0, 0))) (j : Nat) (u : Value) : Ha (w.setCell ⟨B, j, none⟩ u) base p vE vP vD vR vO ok := by
 obtain ⟨h1, h2, h3, h4, h5⟩ := h
 exact ⟨Bf h1 (Bm w B j u) (Dt hb (by decide)), Bf h2 (Bm w B j u) (Dt hb (by decide)), Bf h3 (Bm w B j u) (Dt hb (by decide)), Bf h4 (Bm w B j u) (Dt hb (by decide)), Bf h5 (Bm w B j u) (Dt hb (by decide))⟩
theorem rules_at {w : World} {base : Nat} {ok : Nat → Prop} {vR : Value} {l : List S116} (h : Kd.R kq 95 w base ok vR l) (k : Nat) (hk : k < l.length) : ∃ g c A4 n4 c4, vR = .slice (some ⟨g, 0, none⟩) l.length c ∧ l.length ≤ c ∧ w.cell? ⟨g, k * 5, none⟩ = some (.string (Eh l (k : Int)).f0) ∧ w.cell? ⟨g, k * 5 + 1, none⟩ = some (.string (Eh l (k : Int)).f1) ∧ w.cell? ⟨g, k * 5 + 2, none⟩ = some (.bool (Eh l (k : Int)).f3) ∧ w.cell? ⟨g, k * 5 + 3, none⟩ = some (.string (Eh l (k : Int)).f2) ∧ w.cell? ⟨g, k * 5 + 4, none⟩ = some (.slice A4 n4 c4) := by
 obtain ⟨g, c, rfl, _, _, _⟩ := Kd.Gy h (by omega)
 obtain ⟨_, hc, hC⟩ := Kd.R_reads' h
 obtain ⟨ad, A4, n4, c4, e, f0, f1, f2, f3, f4⟩ := at_q hC (k : Int) (by omega) (by omega)
 injection e with e
 subst e
 have ea : (⟨g, 0, none⟩ : Addr).add (k * 5) = ⟨g, k * 5, none⟩ := by unfold Addr.add; split <;> simp_all
 simp only [Int.toNat_natCast, ea] at f0 f1 f2 f3 f4
 exact ⟨g, c, A4, n4, c4, rfl, hc, f0, f1, f2, f3, f4⟩
theorem edge55_calls (base B : Nat) (p : Pst) (vE vP vD vR vO : Value) (op : Int) (v6 : Value) (nm : ByteArray) (v8 v9 v10 v11 : Value) (ok : Nat → Prop) (outs ins imp ord : List ByteArray) (r : S116) (own : List S174) (w : World) (hbB : base ≤ B) (h : RE w base B p vE vP vD vR vO op v6 nm v8 v9 v10 v11 ok outs ins imp ord own) (hS : Gq p.outer) (hS2 : Gq own) (hidx : 0 ≤ idxP (fun x : S116 => x.f0.toList == nm.toList) p.rules) (hrd : Eh p.rules (idxP (fun x : S116 => x.f0.toList == nm.toList) p.rules) = r) (hO : Paths outs) (hI : Paths ins) (hr : r.f1.size ≤ 1048576) (hlen : p.edges.length ≤ 1048576) :
 Calls Tryz.prog 55 #[.pointer (some ⟨B, 0, none⟩)] w fun x w' => x = .returned (.int .i64 (finE p.outer outs ins r own 0)) ∧ Below base w w' ∧ (finE p.outer outs ins r own 0 = 0 → ∃ vE' ok', Rb w' B vE' vP vD vR vO op v6 nm v8 v9 v10 v11 ∧ Ha w' base (finP p outs ins imp ord r own) vE' vP vD vR vO ok') := by
 obtain ⟨k, hk⟩ : ∃ k : Nat, idxP (fun x : S116 => x.f0.toList == nm.toList) p.rules = (k : Int) := ⟨_, (Int.toNat_of_nonneg hidx).symm⟩
 have hkl : k < p.rules.length := by have := idxP_lt (fun x : S116 => x.f0.toList == nm.toList) p.rules; omega
 rw [hk] at hrd
 obtain ⟨g, cR, A4, n4, c4, rfl, hcR, g0, g1, g2, g3, g4⟩ := rules_at h.2.1.2.2.2.1 k hkl
 rw [hrd] at g0 g1 g2 g3
 obtain ⟨A6, c6, rfl⟩ := Kd.Bd h.2.2.1
 obtain ⟨A8, c8, rfl⟩ := Kd.Bd h.2.2.2.1
 obtain ⟨A9, c9, rfl⟩ := Kd.Bd h.2.2.2.2.1
 obtain ⟨A10, c10, rfl⟩ := Kd.Bd h.2.2.2.2.2.1
 obtain ⟨A11, c11, rfl⟩ := Kd.Bd h.2.2.2.2.2.2
 obtain ⟨Ae, ce, rfl⟩ := Kd.Bd h.2.1.1
 obtain ⟨AO, cO, rfl⟩ := Kd.Bd h.2.1.2.2.2.2
 have hbw : base ≤ w.heap.size := Nat.le_trans hbB (Nat.le_of_lt (Cq h.1))
 have HK := Aa.mk hk
 have HR0 := Aa.mk h
 have HSO := Aa.mk hS
 have HSW := Aa.mk hS2
 have HPO := Aa.mk hO
 have HPI := Aa.mk hI
 have HJI := Aa.mk (paths_join hI)
 have HJO := Aa.mk (paths_join hO)
 have hm := Hb (R_readC h.2.1.2.2.2.1)
 have HBa := Aa.mk (Below.refl base w)
 have HG := Aa.mk (And.intro g0 (And.intro g1 (And.intro g2 (And.intro g3 g4))))
 clear h hS hS2 hidx hrd hO hI g0 g1 g2 g3 g4 hk
 have hk0 : (0 : Int) ≤ (k : Int) := by omega
 have hk1 : (k : Int) < (p.rules.length : Int) := by omega
 have ES : ∀ w' : World, Below w.heap.size w w' → w'.cell? ⟨B, 3, none⟩ = some (.slice (some ⟨g, 0, none⟩) p.rules.length cR) ∧ w'.cell? ⟨B, 7, none⟩ = some (.string nm) ∧ w'.cell? ⟨g, k * 5, none⟩ = some (.string r.f0) ∧ w'.cell? ⟨g, k * 5 + 1, none⟩ = some (.string r.f1) ∧ w'.cell? ⟨g, k * 5 + 2, none⟩ = some (.bool r.f3) ∧ w'.cell? ⟨g, k * 5 + 3, none⟩ = some (.string r.f2) ∧ w'.cell? ⟨g, k * 5 + 4, none⟩ = some (.slice A4 n4 c4) := fun w' hb => ⟨Be hb (Ab HR0.out.1 3), Be hb (Ab HR0.out.1 7), Be hb HG.out.1, Be hb HG.out.2.1, Be hb HG.out.2.2.1, Be hb HG.out.2.2.2.1, Be hb HG.out.2.2.2.2⟩
 replace ES := Lib.hid ES
 have H58 : ∀ w' : World, Below w.heap.size w w' → Calls Tryz.prog 58 #[.pointer (some ⟨B, 0, none⟩), .string nm] w' fun e w2 => e = .returned (.int .i64 (k : Int)) ∧ Below w'.heap.size w' w2 := fun w' hb => by
  have := find58_calls base B _ _ _ _ _ _ _ _ _ _ _ _ nm p.rules nm _ (re_below HR0.out hb).1 (re_below HR0.out hb).2.1.2.2.2.1
  rw [HK.out] at this
  exact this
 replace H58 := Lib.hid H58
 have FE : ∀ W : World, Below w.heap.size w W → RE W base B p (.slice Ae p.edges.length ce) vP vD (.slice (some ⟨g, 0, none⟩) p.rules.length cR) (.slice AO p.outer.length cO) op (.slice A6 outs.length c6) nm (.slice A8 ins.length c8) (.slice A9 imp.length c9) (.slice A10 ord.length c10) (.slice A11 own.length c11) ok outs ins imp ord own := fun W hb => re_below HR0.out hb
 have hjz := HJI.out
 have hjy := HJO.out
 obtain ⟨ji, hji⟩ : ∃ q, Em ins ⟨#[32]⟩ = q := ⟨_, rfl⟩
 obtain ⟨jo, hjo⟩ : ∃ q, Em outs ⟨#[32]⟩ = q := ⟨_, rfl⟩
 rw [hji] at hjz
 rw [hjo] at hjy
 have H96i : ∀ W : World, Below w.heap.size w W → Calls Tryz.prog 96 #[.slice A8 ins.length c8, .string ⟨#[32]⟩] W fun e w' => e = .returned (.string ji) ∧ Below W.heap.size W w' := fun W hb => hji ▸ r96 ins (paths_big HPI.out) (by have := HPI.out.2; omega) ⟨#[32]⟩ (by decide) A8 c8 W (Kd.R_reads' (FE W hb).2.2.2.1).2.2 (Kd.R_reads' (FE W hb).2.2.2.1).2.1
 have H96o : ∀ W : World, Below w.heap.size w W → Calls Tryz.prog 96 #[.slice A6 outs.length c6, .string ⟨#[32]⟩] W fun e w' => e = .returned (.string jo) ∧ Below W.heap.size W w' := fun W hb => hjo ▸ r96 outs (paths_big HPO.out) (by have := HPO.out.2; omega) ⟨#[32]⟩ (by decide) A6 c6 W (Kd.R_reads' (FE W hb).2.2.1).2.2 (Kd.R_reads' (FE W hb).2.2.1).2.1
 have q1 := scopeSet_small HSW.out sIn ji
 have z1 := Ic own sIn ji
 have u1 := scopeSet_put (l := own) (s := sIn) (t := ji)
 obtain ⟨⟨L1, e1⟩, hs1⟩ : ∃ q, Cn own sIn ji = q := ⟨_, rfl⟩
 rw [hs1] at q1 z1 u1
 have H95i : ∀ W : World, Below w.heap.size w W → Calls Tryz.prog 95 #[.slice A11 own.length c11, .string ⟨#[105, 110]⟩, .string ji] W fun e w' => ∃ A c, e = .returned (.tuple #[.slice A L1.length c, .int .i64 e1]) ∧ Kd.C k174 w' A L1.length L1 ∧ L1.length ≤ c ∧ Below W.heap.size W w' := fun W hb => by
  have := r95 own HSW.out sIn ji (by decide) hjz A11 c11 W (Kd.R_reads' (FE W hb).2.2.2.2.2.2).2.2 (Kd.R_reads' (FE W hb).2.2.2.2.2.2).2.1
  rw [hs1] at this
  refine this.mono ?_
  rintro e w' ⟨v, he, hr, hb'⟩
  obtain ⟨A, c, rfl, hc, hC⟩ := Kd.Dl hr
  exact ⟨A, c, he, hC, hc, hb'⟩
 have q2 := scopeSet_small q1 sOut jo
 have z2 := Ic L1 sOut jo
 have u2 := scopeSet_put (l := L1) (s := sOut) (t := jo)
 obtain ⟨⟨L2, e2⟩, hs2⟩ : ∃ q, Cn L1 sOut jo = q := ⟨_, rfl⟩
 rw [hs2] at q2 z2 u2
 have H95o : ∀ (W : World) (A : Option Addr) (c : Nat), Kd.C k174 W A L1.length L1 → L1.length ≤ c → Calls Tryz.prog 95 #[.slice A L1.length c, .string ⟨#[111, 117, 116]⟩, .string jo] W fun e w' => ∃ A c, e = .returned (.tuple #[.slice A L2.length c, .int .i64 e2]) ∧ Kd.C k174 w' A L2.length L2 ∧ L2.length ≤ c ∧ Below W.heap.size W w' := fun W A c hC hc => by
  have := r95 L1 q1 sOut jo (by decide) hjy A c W hC hc
  rw [hs2] at this
  refine this.mono ?_
  rintro e w' ⟨v, he, hr, hb'⟩
  obtain ⟨A, c, rfl, hc, hC⟩ := Kd.Dl hr
  exact ⟨A, c, he, hC, hc, hb'⟩
 have H94 : ∀ (W : World) (l : List S174) (A : Option Addr) (c : Nat), Gq l → Kd.C k174 W A l.length l → l.length ≤ c → Below w.heap.size w W → Calls Tryz.prog 94 #[.string r.f1, .slice A l.length c, .slice AO p.outer.length cO] W fun e w' => e = .returned (.tuple #[.string (C3 r.f1 l p.outer).1, .int .i64 (C3 r.f1 l p.outer).2]) ∧ Below W.heap.size W w' := fun W l A c hl hC hc hb => r94 r.f1 hr l p.outer hl HSO.out A AO c cO W hC hc (Kd.R_reads' (FE W hb).2.1.2.2.2.2).2.2 (Kd.R_reads' (FE W hb).2.1.2.2.2.2).2.1
 obtain ⟨E, hE⟩ : ∃ q, (if e1 = 0 then e2 else e1) = q := ⟨_, rfl⟩
 have hset : setsE outs ins own = E := by
  unfold setsE Ii
  rw [hji, hjo, hs1, ← hE]
  by_cases h1 : e1 = 0
  ·rw [if_pos h1, if_pos h1, ← u1 h1, hs2]
  ·rw [if_neg h1, if_neg h1]
 have hfin : E = 0 → finS2 outs ins own = L2 := fun h0 => by
  rw [← hE] at h0
  by_cases h1 : e1 = 0
  ·rw [if_pos h1] at h0
   unfold finS2 Ii
   rw [hji, hjo, ← u1 h1, ← u2 h0]
  ·rw [if_neg h1] at h0
   exact absurd h0 h1
 have HFE := Aa.mk (show ∀ l, (E = 0 → l = L2) → finE p.outer outs ins r own 0 = if E = 401 then 801 else if E = 0 ∧ (C3 r.f1 l p.outer).2 = 0 ∧ (C3 r.f1 l p.outer).1.toList ≠ [] then 0 else 800 from fun l hl => by
  rw [finE_eq, hset]
  by_cases h0 : E = 0
  ·unfold finC
   rw [hfin h0, hl h0]
  ·rw [if_neg (show ¬ (E = 0 ∧ _) from fun h => h0 h.1), if_neg (show ¬ (E = 0 ∧ _) from fun h => h0 h.1)])
 have HFC := Aa.mk (show ∀ l, (E = 0 → l = L2) → E = 0 → finC p.outer outs ins r own = C3 r.f1 l p.outer from fun l hl h0 => by
  unfold finC
  rw [hfin h0, hl h0])
 have HCZ := Aa.mk (show E ≠ 401 → E = 0 ∨ E = 400 from fun h => by
  rw [← hE] at h ⊢
  by_cases h1 : e1 = 0
  ·rw [if_pos h1] at h ⊢
   rcases z2 with z | z | z
   ·exact Or.inl z
   ·exact Or.inr z
   ·exact absurd z h
  ·rw [if_neg h1] at h ⊢
   rcases z1 with z | z | z
   ·exact Or.inl z
   ·exact Or.inr z
   ·exact absurd z h)
 replace FE := Lib.hid FE
 replace H96i := Lib.hid H96i
 replace H96o := Lib.hid H96o
 replace H95i := Lib.hid H95i
 replace H95o := Lib.hid H95o
 replace H94 := Lib.hid H94
 have HE := Aa.mk hE
 clear hset hfin z1 z2 u1 u2 hs1 hs2 hji hjo hjz hjy hE
 go_enter Tryz.func55, Tryz.ntmps55
 go_upto_region 1 with (fail)
 refine sX 15 (S := fun w' => w'.cell? ⟨B, 3, none⟩ = some (.slice (some ⟨g, 0, none⟩) p.rules.length cR) ∧ w'.cell? ⟨B, 7, none⟩ = some (.string nm) ∧ w'.cell? ⟨g, k * 5, none⟩ = some (.string r.f0) ∧ w'.cell? ⟨g, k * 5 + 1, none⟩ = some (.string r.f1) ∧ w'.cell? ⟨g, k * 5 + 2, none⟩ = some (.bool r.f3) ∧ w'.cell? ⟨g, k * 5 + 3, none⟩ = some (.string r.f2) ∧ w'.cell? ⟨g, k * 5 + 4, none⟩ = some (.slice A4 n4 c4)) (ds := [14]) ⟨(ES.out _ (Below.refl _ _)).1, (ES.out _ (Below.refl _ _)).2.1, (ES.out _ (Below.refl _ _)).2.2.1, (ES.out _ (Below.refl _ _)).2.2.2.1, (ES.out _ (Below.refl _ _)).2.2.2.2.1, (ES.out _ (Below.refl _ _)).2.2.2.2.2.1, (ES.out _ (Below.refl _ _)).2.2.2.2.2.2⟩ (fun hHeld => ?_)
 have HBd := Aa.mk ((Below.refl w.heap.size w).drew)
 generalize w.drew = wd at HBd hHeld ⊢
 refine pX 0 9 ?_
 refine pX 1 10 ?_
 refine pX 2 11 ?_
 refine pX 4 13 ?_
 refine pX 5 14 ?_
 refine pX 6 15 ?_
 refine pX 7 16 ?_
 refine pX 8 17 ?_
 refine tX 3 12 hHeld ?_
 refine tX 9 18 hHeld ?_
 refine join_ (σ := Nat) 1 #[true, true, true, true, true, true, true, true, true, true, true, true, true, true, false] (fun X1 => [(19, .int .i64 (k : Int)), (20, .pointer (some ⟨g, k * 5, none⟩)), (21, .agg #[.string r.f0, .string r.f1, .bool r.f3, .string r.f2, .slice A4 n4 c4]), (3, .pointer (some ⟨X1, 0, none⟩))]) (fun X1 w' => Below w.heap.size w w' ∧ w'.heap[X1]? = some (.cells #[.string ⟨#[]⟩, .string ⟨#[]⟩, .bool false, .string ⟨#[]⟩, .slice none 0 0] 95 (0, 0)) ∧ w.heap.size ≤ X1) ?_ ?_
 rotate_left
 ·intro hCont
  refine two_ (i := 10) (j := 13) (Ni := some 19) (Nj := some 3) #[true, true, true, true, true, true, true, true, true, true, true, false, false, false, false] #[true, true, true, true, true, true, true, true, true, true, false, false, false, true, false] rfl rfl rfl rfl (by kernel_rfl) (by decide) (by decide) (fun K hK => ?_) (fun K hK => ?_)
  ·skip
   refine gX Tryz.func58 #[.pointer (some ⟨B, 0, none⟩), .string nm] ?_
   with_reducible refine (H58.out _ HBd.out).mono ?_
   rintro x w2 ⟨rfl, hb⟩
   refine ⟨_, rfl, ?_⟩
   have HB2 := Aa.mk (HBd.out.trans (hb.mono HBd.out.size))
   clear hb
   refine hK.out _ _ ⟨(ES.out _ HB2.out).1, (ES.out _ HB2.out).2.1, (ES.out _ HB2.out).2.2.1, (ES.out _ HB2.out).2.2.2.1, (ES.out _ HB2.out).2.2.2.2.1, (ES.out _ HB2.out).2.2.2.2.2.1, (ES.out _ HB2.out).2.2.2.2.2.2⟩ (fun hHeld => ?_)
   clear hK K
   refine nX ?_
   refine pX 11 20 ?_
   refine tX 12 21 hHeld ?_
   refine oX 13 (some 3) (fun K hK => ?_)
   refine vX ?_
   refine hK.out _ _ ⟨(ES.out _ (HB2.out.alloc HB2.out.size _)).1, (ES.out _ (HB2.out.alloc HB2.out.size _)).2.1, (ES.out _ (HB2.out.alloc HB2.out.size _)).2.2.1, (ES.out _ (HB2.out.alloc HB2.out.size _)).2.2.2.1, (ES.out _ (HB2.out.alloc HB2.out.size _)).2.2.2.2.1, (ES.out _ (HB2.out.alloc HB2.out.size _)).2.2.2.2.2.1, (ES.out _ (HB2.out.alloc HB2.out.size _)).2.2.2.2.2.2⟩ (fun hHeld => ?_)
   clear hK K
   refine nX ?_
   exact norm_ (by simp only [putAll, Act.put, List.setIfInBounds_toArray, List.set_cons_zero, List.set_cons_succ]) (hCont w2.heap.size _ ⟨HB2.out.alloc HB2.out.size _, Cv _ _, HB2.out.size⟩)
  ·skip
   refine vX ?_
   refine hK.out _ _ ⟨(ES.out _ (HBd.out.alloc HBd.out.size _)).1, (ES.out _ (HBd.out.alloc HBd.out.size _)).2.1, (ES.out _ (HBd.out.alloc HBd.out.size _)).2.2.1, (ES.out _ (HBd.out.alloc HBd.out.size _)).2.2.2.1, (ES.out _ (HBd.out.alloc HBd.out.size _)).2.2.2.2.1, (ES.out _ (HBd.out.alloc HBd.out.size _)).2.2.2.2.2.1, (ES.out _ (HBd.out.alloc HBd.out.size _)).2.2.2.2.2.2⟩ (fun hHeld => ?_)
   clear hK K
   refine nX ?_
   refine oX 10 (some 19) (fun K hK => ?_)
   refine gX Tryz.func58 #[.pointer (some ⟨B, 0, none⟩), .string nm] ?_
   with_reducible refine (H58.out _ (HBd.out.alloc HBd.out.size _)).mono ?_
   rintro x w2 ⟨rfl, hb⟩
   refine ⟨_, rfl, ?_⟩
   have HB2 := Aa.mk ((HBd.out.alloc HBd.out.size _).trans (hb.mono (HBd.out.alloc HBd.out.size _).size))
   have HX2 := Aa.mk (Aj (Cv wd (.cells #[.string ⟨#[]⟩, .string ⟨#[]⟩, .bool false, .string ⟨#[]⟩, .slice none 0 0] 95)) hb)
   clear hb
   refine hK.out _ _ ⟨(ES.out _ HB2.out).1, (ES.out _ HB2.out).2.1, (ES.out _ HB2.out).2.2.1, (ES.out _ HB2.out).2.2.2.1, (ES.out _ HB2.out).2.2.2.2.1, (ES.out _ HB2.out).2.2.2.2.2.1, (ES.out _ HB2.out).2.2.2.2.2.2⟩ (fun hHeld => ?_)
   clear hK K
   refine nX ?_
   refine pX 11 20 ?_
   refine tX 12 21 hHeld ?_
   exact norm_ (by simp only [putAll, Act.put, List.setIfInBounds_toArray, List.set_cons_zero, List.set_cons_succ]) (hCont wd.heap.size _ ⟨HB2.out, HX2.out, HBd.out.size⟩)
 rintro X1 w3 ⟨hb3, hX3, hx1⟩
 have HB3 := Aa.mk hb3
 have HX3 := Aa.mk hX3
 have hHeld := ES.out _ hb3
 clear hb3 hX3
 refine norm_ (a' := ?_) ?_ ?_
 rotate_left
 ·simp only [putAll, Act.put, List.setIfInBounds_toArray, List.set_cons_zero, List.set_cons_succ]
  rfl
 refine lX 14 none (fun K hK => ?_)
 have x0 := Ab HX3.out 0
 have y0 := As HX3.out 0
 have x1 := Ab HX3.out 1
 have y1 := As HX3.out 1
 have x2 := Ab HX3.out 2
 have y2 := As HX3.out 2
 have x3 := Ab HX3.out 3
 have y3 := As HX3.out 3
 have x4 := Ab HX3.out 4
 have y4 := As HX3.out 4
 refine kX ?_
 refine hK.out _ _ ?_
 clear hK K
 refine dX ?_
 have HX4 : Aa ((((((w3.setCell ⟨X1, 0, none⟩ (.string r.f0)).setCell ⟨X1, 1, none⟩ (.string r.f1)).setCell ⟨X1, 2, none⟩ (.bool r.f3)).setCell ⟨X1, 3, none⟩ (.string r.f2)).setCell ⟨X1, 4, none⟩ (.slice A4 n4 c4)).heap[X1]? = some (.cells #[.string r.f0, .string r.f1, .bool r.f3, .string r.f2, .slice A4 n4 c4] 95 (0, 0))) := ⟨(Az (Az (Az (Az (Az HX3.out 0 (.string r.f0) rfl) 1 (.string r.f1) rfl) 2 (.bool r.f3) rfl) 3 (.string r.f2) rfl) 4 (.slice A4 n4 c4) rfl)⟩
 have HB4 := Aa.mk (C7 (j := 4) (v := (.slice A4 n4 c4)) (C7 (j := 3) (v := (.string r.f2)) (C7 (j := 2) (v := (.bool r.f3)) (C7 (j := 1) (v := (.string r.f1)) (C7 (j := 0) (v := (.string r.f0)) HB3.out hx1) hx1) hx1) hx1) hx1)
 generalize ((((w3.setCell ⟨X1, 0, none⟩ (.string r.f0)).setCell ⟨X1, 1, none⟩ (.string r.f1)).setCell ⟨X1, 2, none⟩ (.bool r.f3)).setCell ⟨X1, 3, none⟩ (.string r.f2)).setCell ⟨X1, 4, none⟩ (.slice A4 n4 c4) = w4 at HX4 HB4 ⊢
 clear x0 x1 x2 x3 x4 y0 y1 y2 y3 y4 HX3 HB3 hHeld ES H58 HK HG
 have HE4 := Aa.mk (re_below HR0.out HB4.out)
 have b6 : w4.cell? ⟨B, 6, none⟩ = some (.slice A6 outs.length c6) := Ab HE4.out.1 6
 have b7 : w4.cell? ⟨B, 7, none⟩ = some (.string nm) := Ab HE4.out.1 7
 have b8 : w4.cell? ⟨B, 8, none⟩ = some (.slice A8 ins.length c8) := Ab HE4.out.1 8
 have b9 : w4.cell? ⟨B, 9, none⟩ = some (.slice A9 imp.length c9) := Ab HE4.out.1 9
 have b10 : w4.cell? ⟨B, 10, none⟩ = some (.slice A10 ord.length c10) := Ab HE4.out.1 10
 go_upto_region 3 with (fail)
 have HY5 : Aa ((w4.alloc (.cells #[.slice A6 outs.length c6, .string nm, .slice A8 ins.length c8, .slice A9 imp.length c9, .slice A10 ord.length c10] 66)).heap[w4.heap.size]? = some (.cells #[.slice A6 outs.length c6, .string nm, .slice A8 ins.length c8, .slice A9 imp.length c9, .slice A10 ord.length c10] 66 (0, 0))) := ⟨Cv w4 _⟩
 have HX5 := Aa.mk (Cw HX4.out (.cells #[.slice A6 outs.length c6, .string nm, .slice A8 ins.length c8, .slice A9 imp.length c9, .slice A10 ord.length c10] 66))
 have HB5 := Aa.mk (HB4.out.alloc HB4.out.size (.cells #[.slice A6 outs.length c6, .string nm, .slice A8 ins.length c8, .slice A9 imp.length c9, .slice A10 ord.length c10] 66))
 obtain ⟨X2, hX2⟩ : ∃ q, w4.heap.size = q := ⟨_, rfl⟩
 rw [hX2] at HY5 ⊢
 generalize w4.alloc (.cells #[.slice A6 outs.length c6, .string nm, .slice A8 ins.length c8, .slice A9 imp.length c9, .slice A10 ord.length c10] 66) = w5 at HX5 HY5 HB5 ⊢
 clear b6 b7 b8 b9 b10 HX4 HB4 HE4 hX2
 have HE5 := Aa.mk (FE.out _ HB5.out)
 refine sX 13 (S := fun w' => w'.cell? ⟨B, 11, none⟩ = some (.slice A11 own.length c11) ∧ w'.cell? ⟨X2, 2, none⟩ = some (.slice A8 ins.length c8)) (ds := []) ⟨Ab HE5.out.1 11, Ab HY5.out 2⟩ (fun hHeld => ?_)
 have hb := (Below.refl w5.heap.size w5).drew
 have HX6 := Aa.mk (Aj HX5.out hb)
 have HY6 := Aa.mk (Aj HY5.out hb)
 have HB6 := Aa.mk (HB5.out.trans (hb.mono HB5.out.size))
 have HE6 := Aa.mk (FE.out _ HB6.out)
 clear HX5 HY5 HB5 HE5
 clear hb
 generalize w5.drew = w6 at HX6 HY6 HB6 HE6 hHeld ⊢
 refine pX 0 27 ?_
 refine pX 1 28 ?_
 refine pX 2 29 ?_
 refine pX 4 31 ?_
 refine tX 3 30 hHeld ?_
 refine tX 5 32 hHeld ?_
 refine oX 6 (some 33) (fun K hK => ?_)
 refine gX Tryz.func96 #[.slice A8 ins.length c8, .string ⟨#[32]⟩] ?_
 with_reducible refine (H96i.out _ HB6.out).mono ?_
 rintro x w7 ⟨rfl, hb⟩
 refine ⟨_, rfl, ?_⟩
 have HX7 := Aa.mk (Aj HX6.out hb)
 have HY7 := Aa.mk (Aj HY6.out hb)
 have HB7 := Aa.mk (HB6.out.trans (hb.mono HB6.out.size))
 have HE7 := Aa.mk (FE.out _ HB7.out)
 clear HX6 HY6 HB6 HE6
 clear hb
 refine hK.out _ _ ⟨Ab HE7.out.1 11, Ab HY7.out 2⟩ (fun hHeld => ?_)
 clear hK K
 refine nX ?_
 refine oX 7 (some 34) (fun K hK => ?_)
 refine gX Tryz.func95 #[.slice A11 own.length c11, .string ⟨#[105, 110]⟩, .string ji] ?_
 with_reducible refine (H95i.out _ HB7.out).mono ?_
 rintro x w8 ⟨AL, cL, rfl, hC, hcL, hb⟩
 refine ⟨_, rfl, ?_⟩
 have HX8 := Aa.mk (Aj HX7.out hb)
 have HY8 := Aa.mk (Aj HY7.out hb)
 have HB8 := Aa.mk (HB7.out.trans (hb.mono HB7.out.size))
 have HE8 := Aa.mk (FE.out _ HB8.out)
 clear HX7 HY7 HB7 HE7
 have HC8 := Aa.mk hC
 clear hb hC
 refine hK.out _ _ ⟨Ab HE8.out.1 11, Ab HY8.out 2⟩ (fun hHeld => ?_)
 clear hK K
 refine nX ?_
 refine pX 8 26 ?_
 refine pX 9 35 ?_
 refine pX 10 36 ?_
 refine pX 11 5 ?_
 refine pX 12 6 ?_
 refine dX ?_
 go_upto_if 38 with (fail)
 go_cut [5, 6] (fun s5 s6 wx => ∃ (l : List S174) (A : Option Addr) (c : Nat), s5 = .slice A l.length c ∧ s6 = .int .i64 E ∧ l.length ≤ c ∧ Aa (Gq l) ∧ Aa (Kd.C k174 wx A l.length l) ∧ Aa (E = 0 → l = L2) ∧ Aa (Below w.heap.size w wx) ∧ Aa (wx.heap[X1]? = some (.cells #[.string r.f0, .string r.f1, .bool r.f3, .string r.f2, .slice A4 n4 c4] 95 (0, 0))) ∧ Aa (wx.heap[X2]? = some (.cells #[.slice A6 outs.length c6, .string nm, .slice A8 ins.length c8, .slice A9 imp.length c9, .slice A10 ord.length c10] 66 (0, 0))))
 case first =>
  by_cases h1 : e1 = 0
  ·have b1 : (e1 == 0) = true := beq_iff_eq.2 h1
   have y0 : w8.cell? ⟨X2, 0, none⟩ = some (.slice A6 outs.length c6) := Ab HY8.out 0
   go_wp2_with (first | (go_at_call 96; refine (H96o.out _ HB8.out).mono ?_; rintro x w9 ⟨rfl, hb⟩; have HX9 := Aa.mk (Aj HX8.out hb); have HY9 := Aa.mk (Aj HY8.out hb); have HB9 := Aa.mk (HB8.out.trans (hb.mono HB8.out.size)); have HE9 := Aa.mk (FE.out _ HB9.out); clear HX8 HY8 HB8 HE8; have HC9 := Aa.mk (Kd.Bb HC8.out hb); clear hb) | (go_at_call 95; refine (H95o.out _ AL cL HC9.out hcL).mono ?_; rintro x w10 ⟨AM, cM, rfl, hC, hcM, hb⟩; have HX10 := Aa.mk (Aj HX9.out hb); have HY10 := Aa.mk (Aj HY9.out hb); have HB10 := Aa.mk (HB9.out.trans (hb.mono HB9.out.size)); have HE10 := Aa.mk (FE.out _ HB10.out); clear HX9 HY9 HB9 HE9; have HC10 := Aa.mk hC; clear hb hC))
   go_meet
   exact ⟨L2, AM, cM, rfl, by rw [← HE.out, if_pos h1], hcM, ⟨q2⟩, HC10, ⟨fun _ => rfl⟩, HB10, HX10, HY10⟩
  ·have b1 : (e1 == 0) = false := beq_false_of_ne h1
   go_wp2_with (fail)
   go_meet
   exact ⟨L1, AL, cL, rfl, by rw [← HE.out, if_neg h1], hcL, ⟨q1⟩, HC8, ⟨fun h0 => absurd (by rw [← HE.out, if_neg h1] at h0; exact h0) h1⟩, HB8, HX8, HY8⟩
 case rest =>
  obtain ⟨l, A, c, rfl, rfl, hcl, HSL, HCL, HL2, HBr, HXr, HYr⟩ := hcut
  have hfe := HFE.out l HL2.out
  have hfc := HFC.out l HL2.out
  obtain ⟨⟨cmd, ec⟩, hev⟩ : ∃ q, C3 r.f1 l p.outer = q := ⟨_, rfl⟩
  have H94l := fun (W : World) hC hb => H94.out W l A c HSL.out hC hcl hb
  simp only [hev] at H94l hfe hfc
  replace H94l := Lib.hid H94l
  have HFE2 := Aa.mk hfe
  have HFC2 := Aa.mk hfc
  have hec : ec ≠ 401 := by have := evalOf_err r.f1 l p.outer; rw [hev] at this; exact this
  have HEr := Aa.mk (FE.out _ HBr.out)
  clear HFE HFC HE q1 q2 HB8 HX8 HY8 HE8 HC8 hcL H94 HSL hfe hfc hev H95o H96i H96o HL2
  by_cases h4 : E = 401
  ·have b4 : (E == 401) = true := beq_iff_eq.2 h4
   go_wp2_with (fail)
   go_ret
   have q := HFE2.out
   rw [if_pos h4] at q
   rw [q]
   exact ⟨rfl, HBr.out.mono hbw, fun h0 => absurd h0 (by decide)⟩
  have b4 : (E == 401) = false := beq_false_of_ne h4
  go_upto_region 8 with (fail)
  refine sX 13 (S := fun w' => w'.cell? ⟨X1, 1, none⟩ = some (.string r.f1) ∧ w'.cell? ⟨B, 4, none⟩ = some (.slice AO p.outer.length cO)) (ds := []) ⟨Ab HXr.out 1, Ab HEr.out.1 4⟩ (fun hHeld => ?_)
  have hb := (Below.refl wc.heap.size wc).drew
  have HCe := Aa.mk (Kd.Bb HCL.out hb)
  clear HCL
  have HXe := Aa.mk (Aj HXr.out hb)
  have HYe := Aa.mk (Aj HYr.out hb)
  have HBe := Aa.mk (HBr.out.trans (hb.mono HBr.out.size))
  have HEe := Aa.mk (FE.out _ HBe.out)
  clear HXr HYr HBr HEr
  clear hb
  generalize wc.drew = we at HXe HYe HBe HEe HCe hHeld ⊢
  refine pX 0 50 ?_
  refine pX 2 52 ?_
  refine pX 3 53 ?_
  refine pX 4 54 ?_
  refine pX 5 55 ?_
  refine tX 1 51 hHeld ?_
  refine tX 6 56 hHeld ?_
  refine oX 7 (some 57) (fun K hK => ?_)
  refine gX Tryz.func94 #[.string r.f1, .slice A l.length c, .slice AO p.outer.length cO] ?_
  with_reducible refine (H94l.out _ HCe.out HBe.out).mono ?_
  rintro x wf ⟨rfl, hb⟩
  refine ⟨_, rfl, ?_⟩
  have HXf := Aa.mk (Aj HXe.out hb)
  have HYf := Aa.mk (Aj HYe.out hb)
  have HBf := Aa.mk (HBe.out.trans (hb.mono HBe.out.size))
  have HEf := Aa.mk (FE.out _ HBf.out)
  clear HXe HYe HBe HEe
  clear hb
  refine hK.out _ _ ⟨Ab HXf.out 1, Ab HEf.out.1 4⟩ (fun hHeld => ?_)
  clear hK K
  refine nX ?_
  refine pX 8 49 ?_
  refine pX 9 58 ?_
  refine pX 10 59 ?_
  refine pX 11 7 ?_
  refine pX 12 8 ?_
  refine dX ?_
  have HBAD : ∀ w', ¬ (E = 0 ∧ ec = 0 ∧ cmd.toList ≠ []) → Below w.heap.size w w' → (Ending.returned (.int .i64 800) = Ending.returned (.int .i64 (finE p.outer outs ins r own 0)) ∧ Below base w w' ∧ (finE p.outer outs ins r own 0 = 0 → ∃ vE' ok', Rb w' B vE' vP vD (.slice (some ⟨g, 0, none⟩) p.rules.length cR) (.slice AO p.outer.length cO) op (.slice A6 outs.length c6) nm (.slice A8 ins.length c8) (.slice A9 imp.length c9) (.slice A10 ord.length c10) (.slice A11 own.length c11) ∧ Ha w' base (finP p outs ins imp ord r own) vE' vP vD (.slice (some ⟨g, 0, none⟩) p.rules.length cR) (.slice AO p.outer.length cO) ok')) := fun w' hn hb => by
   have q := HFE2.out
   rw [if_neg h4, if_neg hn] at q
   rw [q]
   exact ⟨rfl, hb.mono hbw, fun h0 => absurd h0 (by decide)⟩
  replace HBAD := Lib.hid HBAD
  clear hHeld
  by_cases h0 : E = 0
  case neg =>
   have b0 : (E != 0) = true := bne_iff_ne.2 h0
   go_wp2_with (fail)
   go_ret
   exact HBAD.out _ (fun q => h0 q.1) HBf.out
  have b0 : (E != 0) = false := bne_eq_false_iff_eq.2 h0
  by_cases hc : ec = 0
  case neg =>
   have bc : (ec != 0) = true := bne_iff_ne.2 hc
   go_wp2_with (fail)
   go_ret
   exact HBAD.out _ (fun q => hc q.2.1) HBf.out
  have bc : (ec != 0) = false := bne_eq_false_iff_eq.2 hc
  by_cases hn : cmd.toList = []
  ·have bn : (cmd.toList == ([] : List UInt8)) = true := beq_iff_eq.2 hn
   go_wp2_with (fail)
   go_ret
   exact HBAD.out _ (fun q => q.2.2 hn) HBf.out
  have bn : (cmd.toList == ([] : List UInt8)) = false := beq_false_of_ne hn
  have HN := Lib.hid hn
  have hEQ := HFE2.out
  rw [if_neg h4, if_pos ⟨h0, hc, hn⟩] at hEQ
  have hPQ : finP p outs ins imp ord r own = { p with edges := p.edges ++ [⟨outs, ins, imp, ord, cmd, r.f3, r.f2⟩] } := by unfold finP; rw [HFC2.out h0]
  have HEQ := Aa.mk hEQ
  have HPQ := Aa.mk hPQ
  obtain ⟨LE, hLE⟩ : ∃ q, p.edges ++ [(⟨outs, ins, imp, ord, cmd, r.f3, r.f2⟩ : S42)] = q := ⟨_, rfl⟩
  rw [hLE] at HPQ
  have HLE := Lib.hid hLE
  clear hEQ hPQ HBAD HFE2 HFC2 hn hLE H94l
  go_upto_region 11 with (fail)
  refine sX 26 (S := fun w' => w'.cell? ⟨B, 0, none⟩ = some (.slice Ae p.edges.length ce) ∧ w'.cell? ⟨X2, 0, none⟩ = some (.slice A6 outs.length c6) ∧ w'.cell? ⟨X2, 2, none⟩ = some (.slice A8 ins.length c8) ∧ w'.cell? ⟨X2, 3, none⟩ = some (.slice A9 imp.length c9) ∧ w'.cell? ⟨X2, 4, none⟩ = some (.slice A10 ord.length c10) ∧ w'.cell? ⟨X1, 2, none⟩ = some (.bool r.f3) ∧ w'.cell? ⟨X1, 3, none⟩ = some (.string r.f2)) (ds := [25]) ⟨Ab HEf.out.1 0, Ab HYf.out 0, Ab HYf.out 2, Ab HYf.out 3, Ab HYf.out 4, Ab HXf.out 2, Ab HXf.out 3⟩ (fun hHeld => ?_)
  have hb := (Below.refl wf.heap.size wf).drew
  have HXz := Aa.mk (Aj HXf.out hb)
  have HYz := Aa.mk (Aj HYf.out hb)
  have HBz := Aa.mk (HBf.out.trans (hb.mono HBf.out.size))
  have HEz := Aa.mk (FE.out _ HBz.out)
  clear HXf HYf HBf HEf
  clear hb
  have HGz := Aa.mk (Kd.De (ok' := fun k => some k ≠ vD.ownBlock) HEz.out.2.1.1 (fun k hk => hk.1))
  generalize wf.drew = wz at HXz HYz HBz HEz HGz hHeld ⊢
  refine pX 0 70 ?_
  refine pX 1 71 ?_
  refine pX 2 72 ?_
  refine pX 3 73 ?_
  refine pX 4 74 ?_
  refine pX 6 76 ?_
  refine pX 8 78 ?_
  refine pX 10 80 ?_
  refine pX 12 82 ?_
  refine pX 14 84 ?_
  refine pX 15 85 ?_
  refine pX 17 87 ?_
  refine tX 5 75 hHeld ?_
  refine tX 7 77 hHeld ?_
  refine tX 9 79 hHeld ?_
  refine tX 11 81 hHeld ?_
  refine tX 13 83 hHeld ?_
  refine tX 16 86 hHeld ?_
  refine tX 18 88 hHeld ?_
  refine pX 19 89 ?_
  refine oX 20 (some 90) (fun K hK => ?_)
  refine vX ?_
  refine hK.out _ _ ⟨Ab (Cw HEz.out.1 _) 0, Ab (Cw HYz.out _) 0, Ab (Cw HYz.out _) 2, Ab (Cw HYz.out _) 3, Ab (Cw HYz.out _) 4, Ab (Cw HXz.out _) 2, Ab (Cw HXz.out _) 3⟩ (fun hHeld => ?_)
  clear hK K
  refine nX ?_
  refine oX 21 (some 91) (fun K hK => ?_)
  refine Kd.Hp k42 (w0 := w) base (by rfl) (.tmp 75) (.tmp 90) 22 42 (.agg #[.slice none 0 0, .slice none 0 0, .slice none 0 0, .slice none 0 0, .string ⟨#[]⟩, .bool false, .string ⟨#[]⟩]) 136 rfl Tryz.underlying22 infoD42 rfl (by decide) (by omega) (.slice Ae p.edges.length ce) p.edges ⟨outs, ins, imp, ord, cmd, r.f3, r.f2⟩ _ (fun k => some k ≠ vD.ownBlock) (fun k => some k ≠ vD.ownBlock ∧ some k ≠ (Value.slice Ae p.edges.length ce).ownBlock) rfl rfl (k42_mkM _ _ _ ⟨outs, ins, imp, ord, cmd, r.f3, r.f2⟩ (row_not HEz.out.2.2.1 HGz.out) (row_not HEz.out.2.2.2.1 HGz.out) (row_not HEz.out.2.2.2.2.1 HGz.out) (row_not HEz.out.2.2.2.2.2.1 HGz.out)) (fun k hk => hk) (fun k hk he => by have := Kd.R_lt HEz.out.2.1.2.2.1 k he.symm; omega) HGz.out (HBz.out.mono hbw) (Nat.le_trans hbw HBz.out.size) (by omega) ?_
  intro v5 w5 ho5 hb5 hg5 hat5
  clear hat5
  rw [HLE.out] at ho5
  obtain ⟨A5, c5, rfl⟩ := Kd.Bd ho5
  have HP5 := Aa.mk (show Rb w5 B (.slice Ae p.edges.length ce) vP vD (.slice (some ⟨g, 0, none⟩) p.rules.length cR) (.slice AO p.outer.length cO) op (.slice A6 outs.length c6) nm (.slice A8 ins.length c8) (.slice A9 imp.length c9) (.slice A10 ord.length c10) (.slice A11 own.length c11) from Dw HEz.out.1 HGz.out hg5 (by decide))
  have HY5 := Aa.mk (Dw HYz.out HGz.out hg5 (by decide))
  have HX5 := Aa.mk (Dw HXz.out HGz.out hg5 (by decide))
  have HR5 := Aa.mk (show Ha w5 base { p with edges := LE } (.slice A5 LE.length c5) vP vD (.slice (some ⟨g, 0, none⟩) p.rules.length cR) (.slice AO p.outer.length cO) (fun _ => True) from ⟨Kd.De ho5 (fun k hk => ⟨hk, trivial⟩), Dd HEz.out.2.1.2.1 HGz.out hg5 (by decide), Kd.De (Dd HEz.out.2.1.2.2.1 HGz.out hg5 (by decide)) (fun _ _ => trivial), Dd HEz.out.2.1.2.2.2.1 HGz.out hg5 (by decide), Dd HEz.out.2.1.2.2.2.2 HGz.out hg5 (by decide)⟩)
  have HB5 := Aa.mk hb5
  have hfr5 := As HP5.out 0
  clear ho5 hb5 hg5 HEz HXz HYz HBz HGz
  refine hK.out _ _ ⟨Ab HP5.out 0, Ab HY5.out 0, Ab HY5.out 2, Ab HY5.out 3, Ab HY5.out 4, Ab HX5.out 2, Ab HX5.out 3⟩ (fun hHeld => ?_)
  clear hK K
  refine nX ?_
  refine pX 22 92 ?_
  refine pX 23 93 ?_
  refine pX 24 94 ?_
  refine lX 25 none (fun K hK => ?_)
  refine kX ?_
  refine hK.out _ _ ?_
  clear hK K
  refine dX ?_
  go_wp2_with (fail)
  go_ret
  rw [HEQ.out, HPQ.out]
  exact ⟨rfl, HB5.out.setCell (p := ⟨B, 0, none⟩) hbB _, fun _ => ⟨_, _, Az HP5.out 0 _ rfl, Hi HR5.out HP5.out 0 _⟩⟩
theorem over23_build (base B : Nat) (p : Pst) (outs ins imp ord : List ByteArray) (r : S116) (own : List S174) (w : World) (h : RSt w base B p (.build outs ins imp ord r own)) (hO : Paths outs) (hI : Paths ins) (hr : r.f1.size ≤ 1048576) (hlen : p.edges.length ≤ 1048576) :
 Calls Tryz.prog 23 #[.pointer (some ⟨B, 0, none⟩)] w fun x w' => x = .returned (.int .i64 (finE p.outer outs ins r own 0)) ∧ Below base w w' ∧ (finE p.outer outs ins r own 0 = 0 → RSt w' base B (finP p outs ins imp ord r own) .none) := by
 obtain ⟨vE, vP, vD, vR, vO, op, v6, nm, v8, v9, v10, v11, ok, hbB, hb, hR, hS, ho⟩ := h
 obtain ⟨rfl, h6, h8, h9, h10, h11, hS2, hidx, hrd⟩ := ho
 have c5 : w.cell? ⟨B, 5, none⟩ = some (.int .i64 3) := Ab hb 5
 have f5 := As hb 5
 have hk := Bm w B 5 (.int .i64 0)
 have h0 : RE (w.setCell ⟨B, 5, none⟩ (.int .i64 0)) base B p vE vP vD vR vO 0 v6 nm v8 v9 v10 v11 ok outs ins imp ord own := ⟨Az hb 5 _ rfl, Hi hR hb 5 _, Bf h6 hk (Dt hb (by decide)), Bf h8 hk (Dt hb (by decide)), Bf h9 hk (Dt hb (by decide)), Bf h10 hk (Dt hb (by decide)), Bf h11 hk (Dt hb (by decide))⟩
 have HC := Lib.hid (edge55_calls base B p vE vP vD vR vO 0 v6 nm v8 v9 v10 v11 ok outs ins imp ord r own _ hbB h0 hS hS2 hidx hrd hO hI hr hlen)
 have HB := Aa.mk ((Below.refl base w).setCell (p := ⟨B, 5, none⟩) hbB (.int .i64 0))
 obtain ⟨E, hE⟩ : ∃ q, finE p.outer outs ins r own 0 = q := ⟨_, rfl⟩
 rw [hE] at HC ⊢
 clear hR hb h6 h8 h9 h10 h11 h0 hk hE hidx hrd
 go_enter Tryz.func23, Tryz.ntmps23
 go_wp2_with (first | (go_at_call 55; refine HC.out.mono ?_; rintro x w1 ⟨rfl, hb1, h1⟩; have HB1 := Aa.mk hb1; have H1 := Aa.mk h1; clear hb1 h1))
 go_ret
 refine ⟨rfl, HB.out.trans HB1.out, fun h0 => ?_⟩
 obtain ⟨vE', ok', q1, q2⟩ := H1.out h0
 exact ⟨vE', vP, vD, vR, vO, 0, v6, nm, v8, v9, v10, v11, ok', hbB, q1, q2, hS, rfl⟩
theorem over23_calls (base B : Nat) (p : Pst) (o : Opn) (w : World) (h : RSt w base B p o) (hG : GM p o) (hI : Inv p o) :
 Calls Tryz.prog 23 #[.pointer (some ⟨B, 0, none⟩)] w fun x w' => x = .returned (.int .i64 (Hn p o 0)) ∧ Below base w w' ∧ (Hn p o 0 = 0 → RSt w' base B (Gs p o) .none) := by
 cases o with
 | none => exact (over23_none base B p w h).mono (fun x w' q => ⟨q.1, q.2.2, fun _ => q.2.1⟩)
 | rule => exact (over23_rule base B p w h).mono (fun x w' q => ⟨q.1, q.2.2, fun _ => q.2.1⟩)
 | pool =>
  have hp : 0 < p.pools.length := hG.opn
  have hm : C8 p.pools ∈ p.pools := by
   unfold C8
   rw [List.getD_eq_getElem?_getD, List.getElem?_eq_getElem (by omega)]
   exact List.getElem_mem _
  exact (over23_pool base B p w h (hG.deep _ hm).1).mono (fun x w' q => ⟨q.1, q.2.2, fun _ => q.2.1⟩)
 | build outs ins imp ord r own => exact over23_build base B p outs ins imp ord r own w h hG.opn.2.1 hG.opn.2.2.1 hI.2.2.2.2.2.2.2.2.2.1 (by have := hG.elen; omega)
theorem r57 (s : ByteArray) (hs : s.size ≤ 1048576) (w : World) : Calls Tryz.prog 57 #[.string s] w fun e w' => ∃ v0_ : Value, e = .returned v0_ ∧ Kd.R Kd.string 9 w' w.heap.size (fun _ => True) v0_ (Cj s) ∧ Below w.heap.size w w' :=
 Bv.calls 2000000 s _ w (refWords s hs 2000000 (by omega))
theorem r97 (xs : List ByteArray) (hx : ∀ x ∈ xs, x.size ≤ 1048576) (hl : xs.length ≤ 1048577) (A : Option Addr) (c : Nat) (w : World) (hr : Kd.C Kd.string w A xs.length xs) (hc : xs.length ≤ c) : Calls Tryz.prog 97 #[.slice A xs.length c] w fun e w' => e = .returned (.int .i64 (Cm xs : Int)) ∧ Below w.heap.size w w' :=
 (By.calls 3000000 A c xs _ w hr hc (refNames 1048576 (by omega) xs hx hl 3000000 (by omega))).mono (fun e w' h => ⟨h.1, h.2.below⟩)
theorem r31 (x : ByteArray) (hx : x.size ≤ 1048576) (w : World) : Calls Tryz.prog 31 #[.string x] w fun e w' => e = .returned (.bool (Ce x)) ∧ Below w.heap.size w w' :=
 (Ag.calls 3000000 x _ w (Hu x (by omega) 3000000 (by omega))).mono (fun e w' h => ⟨h.1, h.2.below⟩)
def Ev (ws : List ByteArray) : Bl :=
 if (decide (Cm ws < 1) || decide (8 < Cm ws)) = true then ([], ⟨#[]⟩, [], [], [], 700) else
 if signB (ws.drop (Cm ws)) ⟨#[58]⟩ = false then ([], ⟨#[]⟩, [], [], [], 700) else
 match (ws.drop (Cm ws)).drop 1 with
 | [] => ([], ⟨#[]⟩, [], [], [], 700)
 | r :: ws3 =>
  if Ce r = false then ([], ⟨#[]⟩, [], [], [], 700) else
  if (decide (8 < Cm ws3) || (E7 (ws3.drop (Cm ws3)) ⟨#[124]⟩).2.2 || (E7 (E7 (ws3.drop (Cm ws3)) ⟨#[124]⟩).2.1 ⟨#[124, 124]⟩).2.2 || decide (0 < (E7 (E7 (ws3.drop (Cm ws3)) ⟨#[124]⟩).2.1 ⟨#[124, 124]⟩).2.1.length)) = true then ([], ⟨#[]⟩, [], [], [], 700)
  else (ws.take (Cm ws), r, ws3.take (Cm ws3), (E7 (ws3.drop (Cm ws3)) ⟨#[124]⟩).1, (E7 (E7 (ws3.drop (Cm ws3)) ⟨#[124]⟩).2.1 ⟨#[124, 124]⟩).1, 0)
theorem buildR_W (s : ByteArray) : Cr s = Ev (Cj s) := by
 unfold Cr buildB Ev
 simp only
 by_cases h1 : (decide (Cm (Cj s) < 1) || decide (8 < Cm (Cj s))) = true
 ·rw [if_pos h1, if_pos h1]
 ·rw [if_neg h1, if_neg h1]
  by_cases h2 : signB ((Cj s).drop (Cm (Cj s))) ⟨#[58]⟩ = false
  ·rw [if_pos h2, if_pos h2]
  ·rw [if_neg h2, if_neg h2]
   cases (List.drop 1 (List.drop (Cm (Cj s)) (Cj s))) with
   | nil => rfl
   | cons r ws3 =>
    simp only
    by_cases h3 : Ce r = false
    ·rw [if_pos h3, if_pos h3]
    ·rw [if_neg h3, if_neg h3]
     cases (decide (8 < Cm ws3) || (E7 (ws3.drop (Cm ws3)) ⟨#[124]⟩).2.2 || (E7 (E7 (ws3.drop (Cm ws3)) ⟨#[124]⟩).2.1 ⟨#[124, 124]⟩).2.2 || decide (0 < (E7 (E7 (ws3.drop (Cm ws3)) ⟨#[124]⟩).2.1 ⟨#[124, 124]⟩).2.1.length)) <;> rfl
def WAns (w' : World) (r : Bl) (e : Ending) : Prop := ∃ A0 c0 A2 c2 A3 c3 A4 c4, e = .returned (.tuple #[.agg #[.slice A0 r.1.length c0, .string r.2.1, .slice A2 r.2.2.1.length c2, .slice A3 r.2.2.2.1.length c3, .slice A4 r.2.2.2.2.1.length c4], .int .i64 r.2.2.2.2.2]) ∧
 (Kd.C Kd.string w' A0 r.1.length r.1 ∧ r.1.length ≤ c0) ∧ (Kd.C Kd.string w' A2 r.2.2.1.length r.2.2.1 ∧ r.2.2.1.length ≤ c2) ∧ (Kd.C Kd.string w' A3 r.2.2.2.1.length r.2.2.2.1 ∧ r.2.2.2.1.length ≤ c3) ∧ (Kd.C Kd.string w' A4 r.2.2.2.2.1.length r.2.2.2.2.1 ∧ r.2.2.2.2.1.length ≤ c4)
def wFail : Bl := ([], ⟨#[]⟩, [], [], [], 700)
theorem Gh (w' : World) : WAns w' wFail (.returned (.tuple #[.agg #[.slice none 0 0, .string ⟨#[]⟩, .slice none 0 0, .slice none 0 0, .slice none 0 0], .int .i64 700])) :=
 ⟨none, 0, none, 0, none, 0, none, 0, rfl, ⟨Kd.C_nil _ _, Nat.le_refl _⟩, ⟨Kd.C_nil _ _, Nat.le_refl _⟩, ⟨Kd.C_nil _ _, Nat.le_refl _⟩, ⟨Kd.C_nil _ _, Nat.le_refl _⟩⟩
theorem Dc {w w1 : World} {o : Obj} (h : Below (w.alloc o).heap.size (w.alloc o) w1) : Below w.heap.size w w1 :=
 ((Below.refl w.heap.size w).alloc (Nat.le_refl _) o).trans (h.mono ((Below.refl w.heap.size w).alloc (Nat.le_refl _) o).size)
theorem drop_two {ws ws3 : List ByteArray} {n : Nat} {x r : ByteArray} (h : ws.drop n = x :: r :: ws3) : n + 1 < ws.length ∧ rdOf ByteArray.empty ws (n : Int) = x ∧ rdOf ByteArray.empty ws ((n + 1 : Nat) : Int) = r ∧ ws.drop (n + 2) = ws3 := by
 have hl := congrArg List.length h
 rw [List.length_drop] at hl
 simp only [List.length_cons] at hl
 have h0 : ws[n]? = some x := by rw [← List.head?_drop, h]; rfl
 have h1 : ws[n + 1]? = some r := by rw [← List.head?_drop, ← List.drop_drop, h]; rfl
 refine ⟨by omega, by simp [rdOf, List.getD_eq_getElem?_getD, h0], by simp only [rdOf, Int.toNat_natCast, List.getD_eq_getElem?_getD, h1]; rfl, ?_⟩
 rw [← List.drop_drop, h]
 rfl
theorem Hr {a b : World} (h : a.grownBy b none) : Below a.heap.size a b := ⟨h.os, h.tape, h.output, h.size, fun k hk => h.block k hk (by simp)⟩
structure WSt (w : World) (X : Nat) (wx : World) (v4 : Value) (rs : List ByteArray) (v0 v2 v3 v5 : Value) (nm : ByteArray) (outs ins imp ord : List ByteArray) : Prop where
 hb : Below w.heap.size w wx
 hY : wx.heap[w.heap.size]? = some (.cells #[.slice none 0 0, .string ⟨#[]⟩, .slice none 0 0, .slice none 0 0, .slice none 0 0] 66 (0, 0))
 hX : wx.heap[X]? = some (.cells #[v0, .string nm, v2, v3, v5] 66 (0, 0))
 lt : w.heap.size < X
 ws : Vs wx (fun k => k ≠ X ∧ k ≠ w.heap.size) v4 rs
 r0 : Kd.R Kd.string 9 wx w.heap.size (fun _ => True) v0 outs
 r2 : Kd.R Kd.string 9 wx w.heap.size (fun _ => True) v2 ins
 r3 : Kd.R Kd.string 9 wx w.heap.size (fun _ => True) v3 imp
 r5 : Kd.R Kd.string 9 wx w.heap.size (fun _ => True) v5 ord
section
variable {w wx wy : World} {X : Nat} {v4 v0 v2 v3 v5 : Value} {rs outs ins imp ord : List ByteArray} {nm : ByteArray}
theorem WSt.below (h : WSt w X wx v4 rs v0 v2 v3 v5 nm outs ins imp ord) (hb : Below wx.heap.size wx wy) : WSt w X wy v4 rs v0 v2 v3 v5 nm outs ins imp ord :=
 ⟨h.hb.trans (hb.mono h.hb.size), Aj h.hY hb, Aj h.hX hb, h.lt, Dz h.ws hb, Kd.Bj h.r0 hb, Kd.Bj h.r2 hb, Kd.Bj h.r3 hb, Kd.Bj h.r5 hb⟩
theorem WSt.left (h : WSt w X wx v4 rs v0 v2 v3 v5 nm outs ins imp ord) {v : Value} {l : List ByteArray} (hv : Vs wx (fun k => k ≠ X ∧ k ≠ w.heap.size) v l) : WSt w X wx v l v0 v2 v3 v5 nm outs ins imp ord := ⟨h.hb, h.hY, h.hX, h.lt, hv, h.r0, h.r2, h.r3, h.r5⟩
theorem Fe (h : WSt w X wx v4 rs v0 v2 v3 v5 nm outs ins imp ord) (j : Nat) (u : Value) {v : Value} {l : List ByteArray} (hr : Kd.R Kd.string 9 wx w.heap.size (fun _ => True) v l) : Kd.R Kd.string 9 (wx.setCell ⟨X, j, none⟩ u) w.heap.size (fun _ => True) v l :=
 Kd.De (Bf hr (Bm wx X j u) (fun k hk => by have hk' : k = X := hk; subst hk'; exact ⟨_, 66, h.hX, by decide⟩)) (fun _ _ => trivial)
theorem wst_vs (h : WSt w X wx v4 rs v0 v2 v3 v5 nm outs ins imp ord) (j : Nat) (u : Value) : Vs (wx.setCell ⟨X, j, none⟩ u) (fun k => k ≠ X ∧ k ≠ w.heap.size) v4 rs := Fa h.ws (Bm wx X j u) (fun k hk => hk.1)
theorem wst_y (h : WSt w X wx v4 rs v0 v2 v3 v5 nm outs ins imp ord) (j : Nat) (u : Value) : (wx.setCell ⟨X, j, none⟩ u).heap[w.heap.size]? = some (.cells #[.slice none 0 0, .string ⟨#[]⟩, .slice none 0 0, .slice none 0 0, .slice none 0 0] 66 (0, 0)) := E9 h.hY (Nat.ne_of_lt h.lt) u
theorem wst_b (h : WSt w X wx v4 rs v0 v2 v3 v5 nm outs ins imp ord) (j : Nat) (u : Value) : Below w.heap.size w (wx.setCell ⟨X, j, none⟩ u) := h.hb.setCell (p := ⟨X, j, none⟩) (Nat.le_of_lt h.lt) u
theorem WSt.put0 (h : WSt w X wx v4 rs v0 v2 v3 v5 nm outs ins imp ord) {v : Value} {l : List ByteArray} (hr : Kd.R Kd.string 9 wx w.heap.size (fun _ => True) v l) : WSt w X (wx.setCell ⟨X, 0, none⟩ v) v4 rs v v2 v3 v5 nm l ins imp ord :=
 ⟨wst_b h 0 v, wst_y h 0 v, Az h.hX 0 v rfl, h.lt, wst_vs h 0 v, Fe h 0 v hr, Fe h 0 v h.r2, Fe h 0 v h.r3, Fe h 0 v h.r5⟩
theorem WSt.put1 (h : WSt w X wx v4 rs v0 v2 v3 v5 nm outs ins imp ord) (s : ByteArray) : WSt w X (wx.setCell ⟨X, 1, none⟩ (.string s)) v4 rs v0 v2 v3 v5 s outs ins imp ord :=
 ⟨wst_b h 1 _, wst_y h 1 _, Az h.hX 1 _ rfl, h.lt, wst_vs h 1 _, Fe h 1 _ h.r0, Fe h 1 _ h.r2, Fe h 1 _ h.r3, Fe h 1 _ h.r5⟩
theorem WSt.put2 (h : WSt w X wx v4 rs v0 v2 v3 v5 nm outs ins imp ord) {v : Value} {l : List ByteArray} (hr : Kd.R Kd.string 9 wx w.heap.size (fun _ => True) v l) : WSt w X (wx.setCell ⟨X, 2, none⟩ v) v4 rs v0 v v3 v5 nm outs l imp ord :=
 ⟨wst_b h 2 v, wst_y h 2 v, Az h.hX 2 v rfl, h.lt, wst_vs h 2 v, Fe h 2 v h.r0, Fe h 2 v hr, Fe h 2 v h.r3, Fe h 2 v h.r5⟩
theorem WSt.put3 (h : WSt w X wx v4 rs v0 v2 v3 v5 nm outs ins imp ord) {v : Value} {l : List ByteArray} (hr : Kd.R Kd.string 9 wx w.heap.size (fun _ => True) v l) : WSt w X (wx.setCell ⟨X, 3, none⟩ v) v4 rs v0 v2 v v5 nm outs ins l ord :=
 ⟨wst_b h 3 v, wst_y h 3 v, Az h.hX 3 v rfl, h.lt, wst_vs h 3 v, Fe h 3 v h.r0, Fe h 3 v h.r2, Fe h 3 v hr, Fe h 3 v h.r5⟩
theorem WSt.put4 (h : WSt w X wx v4 rs v0 v2 v3 v5 nm outs ins imp ord) {v : Value} {l : List ByteArray} (hr : Kd.R Kd.string 9 wx w.heap.size (fun _ => True) v l) : WSt w X (wx.setCell ⟨X, 4, none⟩ v) v4 rs v0 v2 v3 v nm outs ins imp l :=
 ⟨wst_b h 4 v, wst_y h 4 v, Az h.hX 4 v rfl, h.lt, wst_vs h 4 v, Fe h 4 v h.r0, Fe h 4 v h.r2, Fe h 4 v h.r3, Fe h 4 v hr⟩
theorem WSt.from_ (h : WSt w X wx v4 rs v0 v2 v3 v5 nm outs ins imp ord) (j : Nat) (hj : j ≤ rs.length) : ∃ A c A' c', v4 = .slice A rs.length c ∧ (∀ W : World, (Instr.slice 24 (.slice A rs.length c) (some (.int .i64 (j : Int))) none none).run Tryz.prog W = .ok (.slice A' (rs.drop j).length c') W) ∧ WSt w X wx (.slice A' (rs.drop j).length c') (rs.drop j) v0 v2 v3 v5 nm outs ins imp ord := by
 obtain ⟨A, c, rfl, hlc, hC⟩ := Fh h.ws
 obtain ⟨i9, hi9, _, hi9s, _⟩ := info_parts Hh
 refine ⟨A, c, (if c = j then A else A.map (·.add (j * 1))), c - j, rfl, fun W => ?_, h.left ?_⟩
 ·have := cut_from (P := Tryz.prog) 24 9 .i64 Tryz.underlying24 hi9 1 hi9s A rs.length c (j : Int) (by omega) (by omega) W
  rw [Int.toNat_natCast] at this
  rw [List.length_drop]
  exact this
 ·have := Vs_drop h.ws hj
  rw [List.length_drop]
  exact this
end
theorem wst_new {w w1 : World} {v : Value} {ws : List ByteArray} (hv : Kd.R Kd.string 9 w1 (w.alloc (.cells #[.slice none 0 0, .string ⟨#[]⟩, .slice none 0 0, .slice none 0 0, .slice none 0 0] 66)).heap.size (fun _ => True) v ws) (hb : Below (w.alloc (.cells #[.slice none 0 0, .string ⟨#[]⟩, .slice none 0 0, .slice none 0 0, .slice none 0 0] 66)).heap.size (w.alloc (.cells #[.slice none 0 0, .string ⟨#[]⟩, .slice none 0 0, .slice none 0 0, .slice none 0 0] 66)) w1) :
 WSt w w1.heap.size (w1.alloc (.cells #[.slice none 0 0, .string ⟨#[]⟩, .slice none 0 0, .slice none 0 0, .slice none 0 0] 66)) v ws (.slice none 0 0) (.slice none 0 0) (.slice none 0 0) (.slice none 0 0) ⟨#[]⟩ [] [] [] [] := by
 have hY := Aj (Cv w (.cells #[.slice none 0 0, .string ⟨#[]⟩, .slice none 0 0, .slice none 0 0, .slice none 0 0] 66)) hb
 have hlt := Cq hY
 have hba := Fc (Below.refl w1.heap.size w1) (.cells #[.slice none 0 0, .string ⟨#[]⟩, .slice none 0 0, .slice none 0 0, .slice none 0 0] 66)
 refine ⟨(Dc hb).trans (hba.mono (Nat.le_of_lt hlt)), Cw hY _, Cv w1 _, hlt, ?_, Kd.Di _ _ _ _ _, Kd.Di _ _ _ _ _, Kd.Di _ _ _ _ _, Kd.Di _ _ _ _ _⟩
 have hsz : (w.alloc (.cells #[.slice none 0 0, .string ⟨#[]⟩, .slice none 0 0, .slice none 0 0, .slice none 0 0] 66)).heap.size = w.heap.size + 1 := by show (w.heap.push _).size = _; rw [Array.size_push]
 have hvs := Vs_of_R (ok := fun k => k ≠ w.heap.size) (Kd.De (Kd.Ex hv) (fun k hk => by have := hk.2.1; rw [hsz] at this; show k ≠ w.heap.size; omega))
 exact Vs_mono (Vs_old hvs hba) (fun k hk => ⟨by have := hk.2; omega, hk.1⟩)
theorem wst_C {w wx : World} {X c : Nat} {A : Option Addr} {v0 v2 v3 v5 : Value} {rs outs ins imp ord : List ByteArray} {nm : ByteArray} (h : WSt w X wx (.slice A rs.length c) rs v0 v2 v3 v5 nm outs ins imp ord) : Kd.C Kd.string wx A rs.length rs := (vs_idx h.ws).2
theorem wst_le {w wx : World} {X c : Nat} {A : Option Addr} {v0 v2 v3 v5 : Value} {rs outs ins imp ord : List ByteArray} {nm : ByteArray} (h : WSt w X wx (.slice A rs.length c) rs v0 v2 v3 v5 nm outs ins imp ord) : rs.length ≤ c := (vs_idx h.ws).1
theorem C_takeN {w : World} {A : Option Addr} {xs : List ByteArray} (h : Kd.C Kd.string w A xs.length xs) (m : Nat) (hm : m ≤ xs.length) : Kd.C Kd.string w A m (xs.take m) := by
 have q := Kd.C_take h hm
 rw [List.length_take, Nat.min_eq_left hm] at q
 exact q
theorem wst_mid {w wx : World} {X c : Nat} {A : Option Addr} {v0 v2 v3 v5 : Value} {rs outs ins imp ord : List ByteArray} {nm : ByteArray} (h : WSt w X wx (.slice A rs.length c) rs v0 v2 v3 v5 nm outs ins imp ord) (k : Nat) (hk : k + 1 ≤ rs.length) :
 ∃ A' c', (∀ W : World, (Instr.slice 24 (.slice A rs.length c) (some (.int .i64 1)) (some (.int .i64 ((k : Int) + 1))) none).run Tryz.prog W = .ok (.slice A' k c') W) ∧ k ≤ c' ∧ ∀ wy, Kd.C Kd.string wy A rs.length rs → Kd.C Kd.string wy A' k ((rs.drop 1).take k) := by
 have hle := wst_le h
 obtain ⟨i9, hi9, _, hi9s, _⟩ := info_parts Hh
 refine ⟨(if c = 1 then A else A.map (·.add (1 * 1))), c - 1, fun W => ?_, by omega, fun wy hC => ?_⟩
 ·have := cut_mid (P := Tryz.prog) 24 9 .i64 .i64 Tryz.underlying24 hi9 1 hi9s A rs.length c 1 ((k : Int) + 1) (by omega) (by omega) (by omega) hle W
  rw [show ((k : Int) + 1).toNat = k + 1 by omega, show ((1 : Int)).toNat = 1 from rfl, Nat.add_sub_cancel] at this
  exact this
 ·have := Kd.C_mid (lo := 1) (hi := k + 1) hC (by omega) hk hle
  have e : (rs.take (k + 1)).drop 1 = (rs.drop 1).take k := by rw [List.drop_take, Nat.add_sub_cancel]
  rw [e, List.length_take, List.length_drop, Nat.min_eq_left (by omega)] at this
  exact this
def Fx (rs : List ByteArray) (s : ByteArray) : List ByteArray × List ByteArray := if signB rs s = true then ((rs.drop 1).take (Cm (rs.drop 1)), (rs.drop 1).drop (Cm (rs.drop 1))) else ([], rs)
def badQ (rs : List ByteArray) (s : ByteArray) : Bool := signB rs s && decide (Cm (rs.drop 1) < 1)
theorem part_BQ (rs : List ByteArray) (s : ByteArray) : (E7 rs s).1 = (Fx rs s).1 ∧ (E7 rs s).2.1 = (Fx rs s).2 ∧ (E7 rs s).2.2 = (badQ rs s || decide (8 < (Fx rs s).1.length)) := by
 unfold E7 Fx badQ
 cases signB rs s
 ·exact ⟨rfl, rfl, rfl⟩
 ·have := F5 (rs.drop 1)
  refine ⟨rfl, rfl, ?_⟩
  show (decide _ || decide _) = (true && decide _ || decide (8 < ((rs.drop 1).take _).length))
  rw [List.length_take, Nat.min_eq_left this, Bool.true_and]
theorem buildW_z {ws ws3 rs : List ByteArray} {n m : Nat} {x r : ByteArray} (hn : Cm ws = n) (h1 : ¬ n < 1) (h2 : ¬ 8 < n) (hd : ws.drop n = x :: r :: ws3) (h4 : x.toList = [58]) (h5 : Ce r = true) (hm : Cm ws3 = m) (hrs : ws3.drop m = rs) :
 Ev ws = if (decide (8 < m) || (badQ rs ⟨#[124]⟩ || decide (8 < (Fx rs ⟨#[124]⟩).1.length)) || (badQ (Fx rs ⟨#[124]⟩).2 ⟨#[124, 124]⟩ || decide (8 < (Fx (Fx rs ⟨#[124]⟩).2 ⟨#[124, 124]⟩).1.length)) || decide (0 < (Fx (Fx rs ⟨#[124]⟩).2 ⟨#[124, 124]⟩).2.length)) = true then wFail
  else (ws.take n, r, ws3.take m, (Fx rs ⟨#[124]⟩).1, (Fx (Fx rs ⟨#[124]⟩).2 ⟨#[124, 124]⟩).1, 0) := by
 obtain ⟨a1, a2, a3⟩ := part_BQ rs ⟨#[124]⟩
 obtain ⟨b1, b2, b3⟩ := part_BQ (Fx rs ⟨#[124]⟩).2 ⟨#[124, 124]⟩
 unfold Ev
 rw [hn, if_neg (by rw [decide_eq_false h1, decide_eq_false h2]; decide), hd, if_neg (by show ¬ (x.toList == _) = false; rw [h4, show (⟨#[58]⟩ : ByteArray).toList = [58] by decide +kernel]; decide)]
 show (if Ce r = false then _ else _) = _
 rw [if_neg (by rw [h5]; decide), hm, hrs, a1, a2, a3, b1, b2, b3]
 rfl
theorem signB_rd {rs : List ByteArray} (s : ByteArray) (h : 0 < rs.length) : signB rs s = ((rdOf ByteArray.empty rs 0).toList == s.toList) := by
 cases rs with
 | nil => exact absurd h (by decide)
 | cons y l => rfl
theorem signB_nil {rs : List ByteArray} (s : ByteArray) (h : ¬ 0 < rs.length) : signB rs s = false := by
 cases rs with
 | nil => rfl
 | cons y l => exact absurd (by simp) h
theorem partQ_sub (rs : List ByteArray) (s : ByteArray) : (Fx rs s).2.Sublist rs := by
 unfold Fx
 split
 ·exact (List.drop_sublist _ _).trans (List.drop_sublist _ _)
 ·exact List.Sublist.refl _
theorem wst_end {w wx : World} {X : Nat} {v4 : Value} {A0 A2 A3 A5 : Option Addr} {c0 c2 c3 c5 : Nat} {rs outs ins imp ord : List ByteArray} {nm : ByteArray} (h : WSt w X wx v4 rs (.slice A0 outs.length c0) (.slice A2 ins.length c2) (.slice A3 imp.length c3) (.slice A5 ord.length c5) nm outs ins imp ord) :
 WAns (((((wx.setCell ⟨w.heap.size, 0, none⟩ (.slice A0 outs.length c0)).setCell ⟨w.heap.size, 1, none⟩ (.string nm)).setCell ⟨w.heap.size, 2, none⟩ (.slice A2 ins.length c2)).setCell ⟨w.heap.size, 3, none⟩ (.slice A3 imp.length c3)).setCell ⟨w.heap.size, 4, none⟩ (.slice A5 ord.length c5)) (outs, nm, ins, imp, ord, 0) (.returned (.tuple #[.agg #[.slice A0 outs.length c0, .string nm, .slice A2 ins.length c2, .slice A3 imp.length c3, .slice A5 ord.length c5], .int .i64 0])) := by
 have k1 := Bm wx w.heap.size 0 (.slice A0 outs.length c0)
 have k2 := Kept.then_ k1 (Bm _ w.heap.size 1 (.string nm)) (fun k hk => .inl hk)
 have k3 := Kept.then_ k2 (Bm _ w.heap.size 2 (.slice A2 ins.length c2)) (fun k hk => .inl hk)
 have k4 := Kept.then_ k3 (Bm _ w.heap.size 3 (.slice A3 imp.length c3)) (fun k hk => .inl hk)
 have k5 := Kept.then_ k4 (Bm _ w.heap.size 4 (.slice A5 ord.length c5)) (fun k hk => .inl hk)
 have row : ∀ {A : Option Addr} {c : Nat} {l : List ByteArray}, Kd.R Kd.string 9 wx w.heap.size (fun _ => True) (.slice A l.length c) l → Kd.C Kd.string _ A l.length l ∧ l.length ≤ c := fun {A c l} hr => by
  have q := Bf hr k5 (fun k hk => by have hk' : k = w.heap.size := hk; subst hk'; exact ⟨_, 66, h.hY, by decide⟩)
  exact ⟨(Kd.R_reads' q).2.2, (Kd.R_reads' q).2.1⟩
 exact ⟨A0, c0, A2, c2, A3, c3, A5, c5, rfl, row h.r0, row h.r2, row h.r3, row h.r5⟩
theorem words59_a (s : ByteArray) (hs : s.size ≤ 1048576) (ws : List ByteArray) (hws : Cj s = ws) (n : Nat) (hn : Cm ws = n) (w : World) (h1 : n < 1) :
 Calls Tryz.prog 59 #[.string s] w fun e w' => WAns w' (Ev ws) e ∧ Below w.heap.size w w' := by
 have hsm := Ed s hs
 have HW := Lib.hid (r57 s hs (w.alloc (.cells #[.slice none 0 0, .string ⟨#[]⟩, .slice none 0 0, .slice none 0 0, .slice none 0 0] 66)))
 rw [hws] at HW hsm
 clear hws
 have HN := fun W A c hr hc => Lib.hid (r97 ws (Fy hsm) (E0 hsm) A c W hr hc)
 rw [hn] at HN
 have hnle := F5 ws
 rw [hn] at hnle
 have hB : Ev ws = wFail := by
  unfold Ev
  rw [hn, if_pos (by rw [decide_eq_true h1]; rfl)]
  rfl
 rw [hB]
 have c1 : ((n : Nat) : Int) < 1 := by omega
 clear h1
 clear hB
 have HSM := Aa.mk hsm
 clear hsm
 go_enter Tryz.func59, Tryz.ntmps59
 go_wp2_with (first | (go_at_call 57; refine HW.out.mono ?_; rintro x w1 ⟨v, rfl, hv, hb⟩; obtain ⟨Av, cv, rfl, hcv, hC⟩ := Kd.Dl hv; have HC := Aa.mk hC; have HV := Aa.mk hcv; have HB := Aa.mk (Dc hb); have Y1 := Aa.mk (Aj (Cv w _) hb); clear hv hC hcv hb) | (go_at_call 97; refine (HN _ Av cv (Kd.Bb HC.out (Fc (Below.refl _ _) _)) HV.out).out.mono ?_; rintro x w2 ⟨rfl, hb⟩; have Y2 := Aa.mk (Aj (Cw Y1.out _) hb); have X2 := Aa.mk (Aj (Cv w1 _) hb); have HC2 := Aa.mk (Kd.Bb HC.out (Dc hb)); have HB2 := Aa.mk (HB.out.trans ((Dc hb).mono HB.out.size)); have yf := As Y2.out; have y0 : w2.cell? ⟨w.heap.size, 0, none⟩ = some (.slice none 0 0) := Ab Y2.out 0; have y1 : w2.cell? ⟨w.heap.size, 1, none⟩ = some (.string ⟨#[]⟩) := Ab Y2.out 1; have y2 : w2.cell? ⟨w.heap.size, 2, none⟩ = some (.slice none 0 0) := Ab Y2.out 2; have y3 : w2.cell? ⟨w.heap.size, 3, none⟩ = some (.slice none 0 0) := Ab Y2.out 3; have y4 : w2.cell? ⟨w.heap.size, 4, none⟩ = some (.slice none 0 0) := Ab Y2.out 4; clear hb))
 have HBL := HB2
 have Y7 := Az (Az (Az (Az (Az Y2.out 0 (.slice none 0 0) rfl) 1 (.string ⟨#[]⟩) rfl) 2 (.slice none 0 0) rfl) 3 (.slice none 0 0) rfl) 4 (.slice none 0 0) rfl
 have z0 := Ab Y7 0
 have z1 := Ab Y7 1
 have z2 := Ab Y7 2
 have z3 := Ab Y7 3
 have z4 := Ab Y7 4
 refine bodyPost_ret (v := .tuple #[.agg #[.slice none 0 0, .string ⟨#[]⟩, .slice none 0 0, .slice none 0 0, .slice none 0 0], .int .i64 700]) (by simp [results, Tryz.results59, go_sem, z0, z1, z2, z3, z4]) rfl ?_
 exact ⟨Gh _, by repeat (first | exact HBL.out | refine C7 ?_ (Nat.le_refl _))⟩
theorem words59_b (s : ByteArray) (hs : s.size ≤ 1048576) (ws : List ByteArray) (hws : Cj s = ws) (n : Nat) (hn : Cm ws = n) (w : World) (h1 : 8 < n) :
 Calls Tryz.prog 59 #[.string s] w fun e w' => WAns w' (Ev ws) e ∧ Below w.heap.size w w' := by
 have hsm := Ed s hs
 have HW := Lib.hid (r57 s hs (w.alloc (.cells #[.slice none 0 0, .string ⟨#[]⟩, .slice none 0 0, .slice none 0 0, .slice none 0 0] 66)))
 rw [hws] at HW hsm
 clear hws
 have HN := fun W A c hr hc => Lib.hid (r97 ws (Fy hsm) (E0 hsm) A c W hr hc)
 rw [hn] at HN
 have hnle := F5 ws
 rw [hn] at hnle
 have hB : Ev ws = wFail := by
  unfold Ev
  rw [hn, if_pos (by rw [decide_eq_true h1, Bool.or_true])]
  rfl
 rw [hB]
 have c1 : ¬ ((n : Nat) : Int) < 1 := by omega
 have c2 : (8 : Int) < ((n : Nat) : Int) := by omega
 clear h1
 clear hB
 have HSM := Aa.mk hsm
 clear hsm
 go_enter Tryz.func59, Tryz.ntmps59
 go_wp2_with (first | (go_at_call 57; refine HW.out.mono ?_; rintro x w1 ⟨v, rfl, hv, hb⟩; obtain ⟨Av, cv, rfl, hcv, hC⟩ := Kd.Dl hv; have HC := Aa.mk hC; have HV := Aa.mk hcv; have HB := Aa.mk (Dc hb); have Y1 := Aa.mk (Aj (Cv w _) hb); clear hv hC hcv hb) | (go_at_call 97; refine (HN _ Av cv (Kd.Bb HC.out (Fc (Below.refl _ _) _)) HV.out).out.mono ?_; rintro x w2 ⟨rfl, hb⟩; have Y2 := Aa.mk (Aj (Cw Y1.out _) hb); have X2 := Aa.mk (Aj (Cv w1 _) hb); have HC2 := Aa.mk (Kd.Bb HC.out (Dc hb)); have HB2 := Aa.mk (HB.out.trans ((Dc hb).mono HB.out.size)); have yf := As Y2.out; have y0 : w2.cell? ⟨w.heap.size, 0, none⟩ = some (.slice none 0 0) := Ab Y2.out 0; have y1 : w2.cell? ⟨w.heap.size, 1, none⟩ = some (.string ⟨#[]⟩) := Ab Y2.out 1; have y2 : w2.cell? ⟨w.heap.size, 2, none⟩ = some (.slice none 0 0) := Ab Y2.out 2; have y3 : w2.cell? ⟨w.heap.size, 3, none⟩ = some (.slice none 0 0) := Ab Y2.out 3; have y4 : w2.cell? ⟨w.heap.size, 4, none⟩ = some (.slice none 0 0) := Ab Y2.out 4; clear hb))
 have HBL := HB2
 have Y7 := Az (Az (Az (Az (Az Y2.out 0 (.slice none 0 0) rfl) 1 (.string ⟨#[]⟩) rfl) 2 (.slice none 0 0) rfl) 3 (.slice none 0 0) rfl) 4 (.slice none 0 0) rfl
 have z0 := Ab Y7 0
 have z1 := Ab Y7 1
 have z2 := Ab Y7 2
 have z3 := Ab Y7 3
 have z4 := Ab Y7 4
 refine bodyPost_ret (v := .tuple #[.agg #[.slice none 0 0, .string ⟨#[]⟩, .slice none 0 0, .slice none 0 0, .slice none 0 0], .int .i64 700]) (by simp [results, Tryz.results59, go_sem, z0, z1, z2, z3, z4]) rfl ?_
 exact ⟨Gh _, by repeat (first | exact HBL.out | refine C7 ?_ (Nat.le_refl _))⟩
theorem words59_c (s : ByteArray) (hs : s.size ≤ 1048576) (ws : List ByteArray) (hws : Cj s = ws) (n : Nat) (hn : Cm ws = n) (w : World) (h1 : ¬ n < 1) (h2 : ¬ 8 < n) (h3 : ws.length ≤ n + 1) :
 Calls Tryz.prog 59 #[.string s] w fun e w' => WAns w' (Ev ws) e ∧ Below w.heap.size w w' := by
 have hsm := Ed s hs
 have HW := Lib.hid (r57 s hs (w.alloc (.cells #[.slice none 0 0, .string ⟨#[]⟩, .slice none 0 0, .slice none 0 0, .slice none 0 0] 66)))
 rw [hws] at HW hsm
 clear hws
 have HN := fun W A c hr hc => Lib.hid (r97 ws (Fy hsm) (E0 hsm) A c W hr hc)
 rw [hn] at HN
 have hnle := F5 ws
 rw [hn] at hnle
 have hB : Ev ws = wFail := by
  unfold Ev
  rw [hn, if_neg (by rw [decide_eq_false h1, decide_eq_false h2]; decide)]
  split
  ·rfl
  ·have : (ws.drop n).drop 1 = [] := by rw [List.drop_drop]; exact List.drop_of_length_le (by omega)
   rw [this]
   rfl
 rw [hB]
 have c1 : ¬ ((n : Nat) : Int) < 1 := by omega
 have c2 : ¬ (8 : Int) < ((n : Nat) : Int) := by omega
 have c3 : ((ws.length : Nat) : Int) ≤ ((n : Nat) : Int) + 1 := by omega
 have c3w : wrap64 (((n : Nat) : Int) + 1) = ((n : Nat) : Int) + 1 := by unfold wrap64; omega
 clear h1 h2 h3
 clear hB
 have HSM := Aa.mk hsm
 clear hsm
 go_enter Tryz.func59, Tryz.ntmps59
 go_wp2_with (first | (go_at_call 57; refine HW.out.mono ?_; rintro x w1 ⟨v, rfl, hv, hb⟩; obtain ⟨Av, cv, rfl, hcv, hC⟩ := Kd.Dl hv; have HC := Aa.mk hC; have HV := Aa.mk hcv; have HB := Aa.mk (Dc hb); have Y1 := Aa.mk (Aj (Cv w _) hb); clear hv hC hcv hb) | (go_at_call 97; refine (HN _ Av cv (Kd.Bb HC.out (Fc (Below.refl _ _) _)) HV.out).out.mono ?_; rintro x w2 ⟨rfl, hb⟩; have Y2 := Aa.mk (Aj (Cw Y1.out _) hb); have X2 := Aa.mk (Aj (Cv w1 _) hb); have HC2 := Aa.mk (Kd.Bb HC.out (Dc hb)); have HB2 := Aa.mk (HB.out.trans ((Dc hb).mono HB.out.size)); have yf := As Y2.out; have y0 : w2.cell? ⟨w.heap.size, 0, none⟩ = some (.slice none 0 0) := Ab Y2.out 0; have y1 : w2.cell? ⟨w.heap.size, 1, none⟩ = some (.string ⟨#[]⟩) := Ab Y2.out 1; have y2 : w2.cell? ⟨w.heap.size, 2, none⟩ = some (.slice none 0 0) := Ab Y2.out 2; have y3 : w2.cell? ⟨w.heap.size, 3, none⟩ = some (.slice none 0 0) := Ab Y2.out 3; have y4 : w2.cell? ⟨w.heap.size, 4, none⟩ = some (.slice none 0 0) := Ab Y2.out 4; clear hb))
 have HBL := HB2
 have Y7 := Az (Az (Az (Az (Az Y2.out 0 (.slice none 0 0) rfl) 1 (.string ⟨#[]⟩) rfl) 2 (.slice none 0 0) rfl) 3 (.slice none 0 0) rfl) 4 (.slice none 0 0) rfl
 have z0 := Ab Y7 0
 have z1 := Ab Y7 1
 have z2 := Ab Y7 2
 have z3 := Ab Y7 3
 have z4 := Ab Y7 4
 refine bodyPost_ret (v := .tuple #[.agg #[.slice none 0 0, .string ⟨#[]⟩, .slice none 0 0, .slice none 0 0, .slice none 0 0], .int .i64 700]) (by simp [results, Tryz.results59, go_sem, z0, z1, z2, z3, z4]) rfl ?_
 exact ⟨Gh _, by repeat (first | exact HBL.out | refine C7 ?_ (Nat.le_refl _))⟩
theorem words59_d (s : ByteArray) (hs : s.size ≤ 1048576) (ws : List ByteArray) (hws : Cj s = ws) (n : Nat) (hn : Cm ws = n) (w : World) (h1 : ¬ n < 1) (h2 : ¬ 8 < n) (x r : ByteArray) (ws3 : List ByteArray) (hd : ws.drop n = x :: r :: ws3) (h4 : x.toList ≠ [58]) :
 Calls Tryz.prog 59 #[.string s] w fun e w' => WAns w' (Ev ws) e ∧ Below w.heap.size w w' := by
 have hsm := Ed s hs
 have HW := Lib.hid (r57 s hs (w.alloc (.cells #[.slice none 0 0, .string ⟨#[]⟩, .slice none 0 0, .slice none 0 0, .slice none 0 0] 66)))
 rw [hws] at HW hsm
 clear hws
 have HN := fun W A c hr hc => Lib.hid (r97 ws (Fy hsm) (E0 hsm) A c W hr hc)
 rw [hn] at HN
 have hnle := F5 ws
 rw [hn] at hnle
 have hB : Ev ws = wFail := by
  unfold Ev
  rw [hn, if_neg (by rw [decide_eq_false h1, decide_eq_false h2]; decide), hd]
  rw [if_pos (by show (x.toList == _) = false; rw [beq_eq_false_iff_ne]; rw [show (⟨#[58]⟩ : ByteArray).toList = [58] by decide +kernel]; exact h4)]
  rfl
 rw [hB]
 have h4b : (x.toList == [58]) = false := beq_eq_false_iff_ne.2 h4
 obtain ⟨nl, hxq, hrq, hdd⟩ := drop_two hd
 have c1 : ¬ ((n : Nat) : Int) < 1 := by omega
 have c2 : ¬ (8 : Int) < ((n : Nat) : Int) := by omega
 have c3 : ¬ ((ws.length : Nat) : Int) ≤ ((n : Nat) : Int) + 1 := by omega
 have c3w : wrap64 (((n : Nat) : Int) + 1) = ((n : Nat) : Int) + 1 := by unfold wrap64; omega
 have n8 : n ≤ 8 := by omega
 clear h1 h2 h4
 clear hB
 have HSM := Aa.mk hsm
 clear hsm
 go_enter Tryz.func59, Tryz.ntmps59
 go_wp2_with (first | (go_at_call 57; refine HW.out.mono ?_; rintro x w1 ⟨v, rfl, hv, hb⟩; obtain ⟨Av, cv, rfl, hcv, hC⟩ := Kd.Dl hv; have HC := Aa.mk hC; have HV := Aa.mk hcv; have HB := Aa.mk (Dc hb); have Y1 := Aa.mk (Aj (Cv w _) hb); clear hv hC hcv hb) | (go_at_call 97; refine (HN _ Av cv (Kd.Bb HC.out (Fc (Below.refl _ _) _)) HV.out).out.mono ?_; rintro x w2 ⟨rfl, hb⟩; have Y2 := Aa.mk (Aj (Cw Y1.out _) hb); have X2 := Aa.mk (Aj (Cv w1 _) hb); have HC2 := Aa.mk (Kd.Bb HC.out (Dc hb)); have HB2 := Aa.mk (HB.out.trans ((Dc hb).mono HB.out.size)); have yf := As Y2.out; have y0 : w2.cell? ⟨w.heap.size, 0, none⟩ = some (.slice none 0 0) := Ab Y2.out 0; have y1 : w2.cell? ⟨w.heap.size, 1, none⟩ = some (.string ⟨#[]⟩) := Ab Y2.out 1; have y2 : w2.cell? ⟨w.heap.size, 2, none⟩ = some (.slice none 0 0) := Ab Y2.out 2; have y3 : w2.cell? ⟨w.heap.size, 3, none⟩ = some (.slice none 0 0) := Ab Y2.out 3; have y4 : w2.cell? ⟨w.heap.size, 4, none⟩ = some (.slice none 0 0) := Ab Y2.out 4; obtain ⟨ad, rfl, f0⟩ := Kd.Ct HC2.out ((n : Nat) : Int) (by omega) (by omega); obtain ⟨_, e2, f1⟩ := Kd.Ct HC2.out (((n + 1 : Nat)) : Int) (by omega) (by omega); obtain rfl := Option.some.inj e2; rw [hxq, Int.toNat_natCast] at f0; rw [hrq, Int.toNat_natCast] at f1; have f1b : w2.cell? (ad.add ((((n : Nat) : Int) + 1).toNat)) = some (.string r) := (by rw [show ((((n : Nat) : Int) + 1).toNat) = n + 1 by omega]; exact f1); have f1c : w2.cell? ⟨ad.block, ad.off + (n + 1), none⟩ = some (.string r) := (by simpa [Addr.add] using f1); clear hb))
 have HBL := HB2
 have Y7 := Az (Az (Az (Az (Az Y2.out 0 (.slice none 0 0) rfl) 1 (.string ⟨#[]⟩) rfl) 2 (.slice none 0 0) rfl) 3 (.slice none 0 0) rfl) 4 (.slice none 0 0) rfl
 have z0 := Ab Y7 0
 have z1 := Ab Y7 1
 have z2 := Ab Y7 2
 have z3 := Ab Y7 3
 have z4 := Ab Y7 4
 refine bodyPost_ret (v := .tuple #[.agg #[.slice none 0 0, .string ⟨#[]⟩, .slice none 0 0, .slice none 0 0, .slice none 0 0], .int .i64 700]) (by simp [results, Tryz.results59, go_sem, z0, z1, z2, z3, z4]) rfl ?_
 exact ⟨Gh _, by repeat (first | exact HBL.out | refine C7 ?_ (Nat.le_refl _))⟩
theorem words59_e (s : ByteArray) (hs : s.size ≤ 1048576) (ws : List ByteArray) (hws : Cj s = ws) (n : Nat) (hn : Cm ws = n) (w : World) (h1 : ¬ n < 1) (h2 : ¬ 8 < n) (x r : ByteArray) (ws3 : List ByteArray) (hd : ws.drop n = x :: r :: ws3) (h4 : x.toList = [58]) (h5 : Ce r = false) :
 Calls Tryz.prog 59 #[.string s] w fun e w' => WAns w' (Ev ws) e ∧ Below w.heap.size w w' := by
 have hsm := Ed s hs
 have HW := Lib.hid (r57 s hs (w.alloc (.cells #[.slice none 0 0, .string ⟨#[]⟩, .slice none 0 0, .slice none 0 0, .slice none 0 0] 66)))
 rw [hws] at HW hsm
 clear hws
 have HN := fun W A c hr hc => Lib.hid (r97 ws (Fy hsm) (E0 hsm) A c W hr hc)
 rw [hn] at HN
 have hnle := F5 ws
 rw [hn] at hnle
 have hB : Ev ws = wFail := by
  unfold Ev
  rw [hn, if_neg (by rw [decide_eq_false h1, decide_eq_false h2]; decide), hd]
  rw [if_neg (by show ¬ (x.toList == _) = false; rw [h4, show (⟨#[58]⟩ : ByteArray).toList = [58] by decide +kernel]; decide)]
  show (if Ce r = false then _ else _) = _
  rw [if_pos h5]
  rfl
 rw [hB]
 have h4b : (x.toList == [58]) = true := by rw [h4]; rfl
 have hrs : r.size ≤ 1048576 := Fy hsm r (List.mem_of_mem_drop (by rw [hd]; simp))
 have H31 := fun W => Lib.hid (r31 r hrs W)
 rw [h5] at H31
 obtain ⟨nl, hxq, hrq, hdd⟩ := drop_two hd
 have c1 : ¬ ((n : Nat) : Int) < 1 := by omega
 have c2 : ¬ (8 : Int) < ((n : Nat) : Int) := by omega
 have c3 : ¬ ((ws.length : Nat) : Int) ≤ ((n : Nat) : Int) + 1 := by omega
 have c3w : wrap64 (((n : Nat) : Int) + 1) = ((n : Nat) : Int) + 1 := by unfold wrap64; omega
 have n8 : n ≤ 8 := by omega
 clear h1 h2 h4
 clear hB
 have HSM := Aa.mk hsm
 clear hsm
 go_enter Tryz.func59, Tryz.ntmps59
 go_wp2_with (first | (go_at_call 57; refine HW.out.mono ?_; rintro x w1 ⟨v, rfl, hv, hb⟩; obtain ⟨Av, cv, rfl, hcv, hC⟩ := Kd.Dl hv; have HC := Aa.mk hC; have HV := Aa.mk hcv; have HB := Aa.mk (Dc hb); have Y1 := Aa.mk (Aj (Cv w _) hb); clear hv hC hcv hb) | (go_at_call 97; refine (HN _ Av cv (Kd.Bb HC.out (Fc (Below.refl _ _) _)) HV.out).out.mono ?_; rintro x w2 ⟨rfl, hb⟩; have Y2 := Aa.mk (Aj (Cw Y1.out _) hb); have X2 := Aa.mk (Aj (Cv w1 _) hb); have HC2 := Aa.mk (Kd.Bb HC.out (Dc hb)); have HB2 := Aa.mk (HB.out.trans ((Dc hb).mono HB.out.size)); have yf := As Y2.out; have y0 : w2.cell? ⟨w.heap.size, 0, none⟩ = some (.slice none 0 0) := Ab Y2.out 0; have y1 : w2.cell? ⟨w.heap.size, 1, none⟩ = some (.string ⟨#[]⟩) := Ab Y2.out 1; have y2 : w2.cell? ⟨w.heap.size, 2, none⟩ = some (.slice none 0 0) := Ab Y2.out 2; have y3 : w2.cell? ⟨w.heap.size, 3, none⟩ = some (.slice none 0 0) := Ab Y2.out 3; have y4 : w2.cell? ⟨w.heap.size, 4, none⟩ = some (.slice none 0 0) := Ab Y2.out 4; obtain ⟨ad, rfl, f0⟩ := Kd.Ct HC2.out ((n : Nat) : Int) (by omega) (by omega); obtain ⟨_, e2, f1⟩ := Kd.Ct HC2.out (((n + 1 : Nat)) : Int) (by omega) (by omega); obtain rfl := Option.some.inj e2; rw [hxq, Int.toNat_natCast] at f0; rw [hrq, Int.toNat_natCast] at f1; have f1b : w2.cell? (ad.add ((((n : Nat) : Int) + 1).toNat)) = some (.string r) := (by rw [show ((((n : Nat) : Int) + 1).toNat) = n + 1 by omega]; exact f1); have f1c : w2.cell? ⟨ad.block, ad.off + (n + 1), none⟩ = some (.string r) := (by simpa [Addr.add] using f1); clear hb) | (go_at_call 31; refine (H31 _).out.mono ?_; rintro x w3 ⟨rfl, hb⟩; have Y3 := Aa.mk (Aj Y2.out hb); have X3 := Aa.mk (Aj X2.out hb); have HC3 := Aa.mk (Kd.Bb HC2.out hb); have HB3 := Aa.mk (HB2.out.trans (hb.mono HB2.out.size)); clear yf y0 y1 y2 y3 y4; have yf := As Y3.out; have y0 : w3.cell? ⟨w.heap.size, 0, none⟩ = some (.slice none 0 0) := Ab Y3.out 0; have y1 : w3.cell? ⟨w.heap.size, 1, none⟩ = some (.string ⟨#[]⟩) := Ab Y3.out 1; have y2 : w3.cell? ⟨w.heap.size, 2, none⟩ = some (.slice none 0 0) := Ab Y3.out 2; have y3 : w3.cell? ⟨w.heap.size, 3, none⟩ = some (.slice none 0 0) := Ab Y3.out 3; have y4 : w3.cell? ⟨w.heap.size, 4, none⟩ = some (.slice none 0 0) := Ab Y3.out 4; clear hb))
 have HBL := HB3
 have Y7 := Az (Az (Az (Az (Az Y3.out 0 (.slice none 0 0) rfl) 1 (.string ⟨#[]⟩) rfl) 2 (.slice none 0 0) rfl) 3 (.slice none 0 0) rfl) 4 (.slice none 0 0) rfl
 have z0 := Ab Y7 0
 have z1 := Ab Y7 1
 have z2 := Ab Y7 2
 have z3 := Ab Y7 3
 have z4 := Ab Y7 4
 refine bodyPost_ret (v := .tuple #[.agg #[.slice none 0 0, .string ⟨#[]⟩, .slice none 0 0, .slice none 0 0, .slice none 0 0], .int .i64 700]) (by simp [results, Tryz.results59, go_sem, z0, z1, z2, z3, z4]) rfl ?_
 exact ⟨Gh _, by repeat (first | exact HBL.out | refine C7 ?_ (Nat.le_refl _))⟩
theorem words59_z (s : ByteArray) (hs : s.size ≤ 1048576) (ws : List ByteArray) (hws : Cj s = ws) (n : Nat) (hn : Cm ws = n) (w : World) (h1 : ¬ n < 1) (h2 : ¬ 8 < n) (x r : ByteArray) (ws3 : List ByteArray) (hd : ws.drop n = x :: r :: ws3) (h4 : x.toList = [58]) (h5 : Ce r = true) :
 Calls Tryz.prog 59 #[.string s] w fun e w' => WAns w' (Ev ws) e ∧ Below w.heap.size w w' := by
 have hsm := Ed s hs
 have HW := Lib.hid (r57 s hs (w.alloc (.cells #[.slice none 0 0, .string ⟨#[]⟩, .slice none 0 0, .slice none 0 0, .slice none 0 0] 66)))
 rw [hws] at HW hsm
 clear hws
 have HN := fun W A c hr hc => Lib.hid (r97 ws (Fy hsm) (E0 hsm) A c W hr hc)
 rw [hn] at HN
 have hnle := F5 ws
 rw [hn] at hnle
 have h4b : (x.toList == [58]) = true := by rw [h4]; rfl
 have hrs : r.size ≤ 1048576 := Fy hsm r (List.mem_of_mem_drop (by rw [hd]; simp))
 have H31 := fun W => Lib.hid (r31 r hrs W)
 rw [h5] at H31
 obtain ⟨nl, hxq, hrq, hdd⟩ := drop_two hd
 have c1 : ¬ ((n : Nat) : Int) < 1 := by omega
 have c2 : ¬ (8 : Int) < ((n : Nat) : Int) := by omega
 have c3 : ¬ ((ws.length : Nat) : Int) ≤ ((n : Nat) : Int) + 1 := by omega
 have c3w : wrap64 (((n : Nat) : Int) + 1) = ((n : Nat) : Int) + 1 := by unfold wrap64; omega
 have n8 : n ≤ 8 := by omega
 have c1n := h1
 have c2n := h2
 clear h1 h2
 have HSM := Aa.mk hsm
 clear hsm
 have hlen1 : ws.length ≤ 1048577 := E0 HSM.out
 have HDD := Aa.mk hdd
 clear hdd
 go_enter Tryz.func59, Tryz.ntmps59
 go_upto_region 6 with (first | (go_at_call 57; refine HW.out.mono ?_; rintro x w1 ⟨v, rfl, hv, hb⟩; obtain ⟨Av, cv, rfl⟩ := Kd.Bd hv; have H1 := Aa.mk (wst_new hv hb); clear hv hb) | (go_at_call 97; refine (HN _ Av cv (wst_C H1.out) (wst_le H1.out)).out.mono ?_; rintro x w2 ⟨rfl, hb⟩; have H2 := Aa.mk (H1.out.below hb); obtain ⟨ad, rfl, f0⟩ := Kd.Ct (wst_C H2.out) ((n : Nat) : Int) (by omega) (by omega); obtain ⟨_, e2, f1⟩ := Kd.Ct (wst_C H2.out) (((n + 1 : Nat)) : Int) (by omega) (by omega); obtain rfl := Option.some.inj e2; rw [hxq, Int.toNat_natCast] at f0; rw [hrq, Int.toNat_natCast] at f1; have f1c : w2.cell? ⟨ad.block, ad.off + (n + 1), none⟩ = some (.string r) := (by simpa [Addr.add] using f1); clear hb) | (go_at_call 31; refine (H31 _).out.mono ?_; rintro x w3 ⟨rfl, hb⟩; have H3 := Aa.mk (H2.out.below hb); clear f0 f1 f1c hb))
 refine sX 8 (S := fun w' => w'.cell? ⟨w1.heap.size, 0, none⟩ = some (.slice none 0 0)) (ds := [7]) (Ab H3.out.hX 0) (fun hHeld => ?_)
 obtain ⟨outs, hL⟩ : ∃ L, ws.take n = L := ⟨_, rfl⟩
 have HL := Aa.mk hL
 clear hL
 have ncv : n ≤ cv := by have := wst_le H3.out; omega
 have Hd := Aa.mk (H3.out.below (Below.refl w3.heap.size w3).drew)
 clear H3
 generalize w3.drew = wd at Hd hHeld ⊢
 refine pX 0 41 ?_
 refine pX 2 43 ?_
 refine pX 3 44 ?_
 refine pX 4 45 ?_
 refine tX 1 42 hHeld ?_
 refine oX 5 (some 46) (fun K hK => ?_)
 refine Kd.Fv Kd.string (w0 := w) w.heap.size (by rfl) (.tmp 42) (.tmp 45) 24 9 (.string ⟨#[]⟩) 16 rfl Tryz.underlying24 Hh rfl (by decide) (by omega) (.slice none 0 0) [] outs (some ad) n cv (fun _ => True) (fun _ => False) rfl rfl (Kd.Di _ _ _ _ _) (by rw [← HL.out]; exact C_takeN (wst_C Hd.out) n (by omega)) (fun _ _ h => h) (fun _ hk => hk.elim) (fun _ _ => trivial) Hd.out.hb Hd.out.hb.size (by simp only [List.length_nil]; omega) ?_
 intro v5 w5 ho5 hb5 hg5 hat5
 rw [List.nil_append] at ho5
 obtain ⟨Aq0, cq0, rfl⟩ := Kd.Bd ho5
 have HO5 := Aa.mk ho5
 have H5 := Aa.mk (Hd.out.below (Hr hg5))
 have xf := As H5.out.hX
 clear ho5 hb5 hg5 hat5 Hd
 refine hK.out _ _ (Ab H5.out.hX 0) (fun hHeld => ?_)
 clear hK K
 refine nX ?_
 refine pX 6 47 ?_
 refine lX 7 none (fun K hK => ?_)
 refine kX ?_
 refine hK.out _ _ ?_
 clear hK K
 refine dX ?_
 have H6 := Aa.mk (H5.out.put0 HO5.out)
 generalize w5.setCell ⟨w1.heap.size, 0, none⟩ (.slice Aq0 outs.length cq0) = w6 at H6 ⊢
 clear HO5 H5 xf hHeld
 have hle2 : n + 2 ≤ ws.length := by omega
 obtain ⟨_, _, A3, c3, he3, hfr, hw7⟩ := H6.out.from_ (n + 2) hle2
 injection he3 with q1 q2 q3
 subst q1
 subst q3
 clear q2
 rw [HDD.out] at hfr hw7
 obtain ⟨_, e2, f1⟩ := Kd.Ct (wst_C H6.out) (((n + 1 : Nat)) : Int) (by omega) (by omega)
 obtain rfl := Option.some.inj e2
 rw [hrq, Int.toNat_natCast] at f1
 have f1c : w6.cell? ⟨ad.block, ad.off + (n + 1), none⟩ = some (.string r) := by simpa [Addr.add] using f1
 have xf := As H6.out.hX
 have x1 : w6.cell? ⟨w1.heap.size, 1, none⟩ = some (.string ⟨#[]⟩) := Ab H6.out.hX 1
 have c2w : wrap64 (((n : Nat) : Int) + 2) = ((n : Nat) : Int) + 2 := by unfold wrap64; omega
 have hfr2 : ∀ W : World, (Instr.slice 24 (.slice (some ad) ws.length cv) (some (.int .i64 (((n : Nat) : Int) + 2))) none none).run Tryz.prog W = .ok (.slice A3 ws3.length c3) W := fun W => hfr W
 clear hfr
 have HW7 := Aa.mk (hw7.put1 r)
 have hs3 : F4 ws3 := Hj HSM.out (by rw [← HDD.out]; exact List.drop_sublist _ _)
 have HN3 := Lib.hid (r97 ws3 (Fy hs3) (E0 hs3) A3 c3 _ (wst_C HW7.out) (wst_le HW7.out))
 have HS3 := Aa.mk hs3
 have hm3 := F5 ws3
 obtain ⟨m, hm⟩ : ∃ m, Cm ws3 = m := ⟨_, rfl⟩
 rw [hm] at HN3 hm3
 have HM := Aa.mk hm
 have hl3 : ws3.length ≤ 1048577 := E0 hs3
 clear hw7 hs3 hm f1 e2
 go_upto_region 10 with (first | (go_at_call 97; refine HN3.out.mono ?_; rintro x9 w9 ⟨rfl, hb⟩; have H9 := Aa.mk (HW7.out.below hb); clear hb))
 clear f1c xf x1 H6 HW7 hfr2 c2w HN3
 refine sX 8 (S := fun w' => w'.cell? ⟨w1.heap.size, 2, none⟩ = some (.slice none 0 0)) (ds := [7]) (Ab H9.out.hX 2) (fun hHeld => ?_)
 obtain ⟨ins, hL⟩ : ∃ L, ws3.take m = L := ⟨_, rfl⟩
 have HL2 := Aa.mk hL
 clear hL
 have ncv3 : m ≤ c3 := by have := wst_le H9.out; omega
 have Hd := Aa.mk (H9.out.below (Below.refl w9.heap.size w9).drew)
 clear H9
 generalize w9.drew = wd at Hd hHeld ⊢
 refine pX 0 60 ?_
 refine pX 2 62 ?_
 refine pX 3 63 ?_
 refine pX 4 64 ?_
 refine tX 1 61 hHeld ?_
 refine oX 5 (some 65) (fun K hK => ?_)
 refine Kd.Fv Kd.string (w0 := w) w.heap.size (by rfl) (.tmp 61) (.tmp 64) 24 9 (.string ⟨#[]⟩) 16 rfl Tryz.underlying24 Hh rfl (by decide) (by omega) (.slice none 0 0) [] ins A3 m c3 (fun _ => True) (fun _ => False) rfl rfl (Kd.Di _ _ _ _ _) (by rw [← HL2.out]; exact C_takeN (wst_C Hd.out) m (by omega)) (fun _ _ h => h) (fun _ hk => hk.elim) (fun _ _ => trivial) Hd.out.hb Hd.out.hb.size (by simp only [List.length_nil]; omega) ?_
 intro v5 w5 ho5 hb5 hg5 hat5
 rw [List.nil_append] at ho5
 obtain ⟨Aq2, cq2, rfl⟩ := Kd.Bd ho5
 have HO5 := Aa.mk ho5
 have H5 := Aa.mk (Hd.out.below (Hr hg5))
 have xf := As H5.out.hX
 clear ho5 hb5 hg5 hat5 Hd
 refine hK.out _ _ (Ab H5.out.hX 2) (fun hHeld => ?_)
 clear hK K
 refine nX ?_
 refine pX 6 66 ?_
 refine lX 7 none (fun K hK => ?_)
 refine kX ?_
 refine hK.out _ _ ?_
 clear hK K
 refine dX ?_
 have H10 := Aa.mk (H5.out.put2 HO5.out)
 generalize w5.setCell ⟨w1.heap.size, 2, none⟩ (.slice Aq2 ins.length cq2) = w10 at H10 ⊢
 clear HO5 H5 xf hHeld
 obtain ⟨_, _, A4, c4, he4, hfr, hw11⟩ := H10.out.from_ m hm3
 injection he4 with q1 q2 q3
 subst q1
 subst q3
 clear q2
 obtain ⟨rs, hrs0⟩ : ∃ rs, ws3.drop m = rs := ⟨_, rfl⟩
 rw [hrs0] at hfr hw11
 have HRS := Aa.mk hrs0
 have H11 := Aa.mk hw11
 have hS := Hj HS3.out (show rs.Sublist ws3 by rw [← hrs0]; exact List.drop_sublist _ _)
 have HSR := Aa.mk hS
 have hlr : rs.length ≤ 1048577 := E0 hS
 clear hw11 hrs0 hS H10
 go_upto_region 12 with (fail)
 clear hfr
 go_cut [78] (fun s78 wx => s78 = .bool (signB rs ⟨#[124]⟩) ∧ wx = w10)
 case first =>
  by_cases hpos : (0 : Int) < ((rs.length : Nat) : Int)
  ·have hsg := Aa.mk (signB_rd (rs := rs) ⟨#[124]⟩ (by omega))
   obtain ⟨ad4, rfl, g0⟩ := Kd.Ct (wst_C H11.out) 0 (by omega) hpos
   rw [show (⟨#[124]⟩ : ByteArray).toList = [124] by decide +kernel] at hsg
   generalize rdOf ByteArray.empty rs 0 = y at g0 hsg
   have g0b : w10.cell? ad4 = some (.string y) := by simpa [Addr.add] using g0
   go_wp2_with fail
   go_meet
   exact ⟨by rw [hsg.out], rfl⟩
  ·have hsg := Aa.mk (signB_nil (rs := rs) ⟨#[124]⟩ (by omega))
   go_wp2_with fail
   go_meet
   exact ⟨by rw [hsg.out], rfl⟩
 case rest =>
  obtain ⟨rfl, rfl⟩ := hcut
  go_upto_if 78 with (fail)
  go_cut [4, 6] (fun s4 s6 wx => ∃ v' : Value, badQ rs ⟨#[124]⟩ = false ∧ WSt w w1.heap.size wx s4 (Fx rs ⟨#[124]⟩).2 (.slice Aq0 outs.length cq0) (.slice Aq2 ins.length cq2) v' (.slice none 0 0) r outs ins (Fx rs ⟨#[124]⟩).1 [])
  case first =>
   cases hsg : signB rs ⟨#[124]⟩ with
   | false =>
    go_wp2_with fail
    go_meet
    exact ⟨_, by unfold badQ; rw [hsg]; rfl, by unfold Fx; rw [hsg]; exact H11.out⟩
   | true =>
    have hpos : 1 ≤ rs.length := by
     cases rs with
     | nil => exact absurd hsg (by decide)
     | cons y l => simp only [List.length_cons]; omega
    obtain ⟨_, _, A6, c6, he6, hfr6, hw6⟩ := H11.out.from_ 1 hpos
    injection he6 with q1 q2 q3
    subst q1
    subst q3
    clear q2
    have hfr7 : ∀ W : World, (Instr.slice 24 (.slice _ rs.length _) (some (.int .i64 1)) none none).run Tryz.prog W = .ok (.slice A6 (rs.drop 1).length c6) W := fun W => hfr6 W
    clear hfr6
    have hS1 := Hj HSR.out (show (rs.drop 1).Sublist rs from List.drop_sublist _ _)
    have HN6 := fun W hr hc => Lib.hid (r97 (rs.drop 1) (Fy hS1) (E0 hS1) A6 c6 W hr hc)
    have hk1 := F5 (rs.drop 1)
    have HBQ := Aa.mk (show badQ rs ⟨#[124]⟩ = decide (Cm (rs.drop 1) < 1) by unfold badQ; rw [hsg, Bool.true_and])
    have HPQ := Aa.mk (show Fx rs ⟨#[124]⟩ = ((rs.drop 1).take (Cm (rs.drop 1)), (rs.drop 1).drop (Cm (rs.drop 1))) by unfold Fx; rw [hsg, if_pos rfl])
    obtain ⟨k, hk⟩ : ∃ k, Cm (rs.drop 1) = k := ⟨_, rfl⟩
    rw [hk] at HN6 hk1 HBQ HPQ
    obtain ⟨r1, hr1⟩ : ∃ r1, rs.drop 1 = r1 := ⟨_, rfl⟩
    have HR1 := Aa.mk hr1
    have HL1 := Aa.mk (show r1.length + 1 = rs.length by rw [← hr1, List.length_drop]; omega)
    rw [hr1] at hfr7 hw6 HN6 hk1 HPQ
    have HW6 := Aa.mk hw6
    clear hk hr1 hw6 hS1 hsg
    by_cases hk0 : k < 1
    ·have k0 : k = 0 := by omega
     subst k0
     have hB : Ev ws = wFail := by rw [buildW_z hn c1n c2n hd h4 h5 HM.out HRS.out, show badQ rs ⟨#[124]⟩ = true by rw [HBQ.out]; decide]; simp
     have HBW := Aa.mk hB
     clear hB
     have H31 := (HN6 _ (wst_C HW6.out) (wst_le HW6.out)).out
     have HNX := Lib.hid H31
     clear H31 HN6
     go_wp2_with (first | (go_at_call 97; refine HNX.out.mono ?_; rintro x9 w9 ⟨rfl, hb⟩; have H9 := Aa.mk (HW6.out.below hb); have yf := As H9.out.hY; have y0 : w9.cell? ⟨w.heap.size, 0, none⟩ = some (.slice none 0 0) := Ab H9.out.hY 0; have y1 : w9.cell? ⟨w.heap.size, 1, none⟩ = some (.string ⟨#[]⟩) := Ab H9.out.hY 1; have y2 : w9.cell? ⟨w.heap.size, 2, none⟩ = some (.slice none 0 0) := Ab H9.out.hY 2; have y3 : w9.cell? ⟨w.heap.size, 3, none⟩ = some (.slice none 0 0) := Ab H9.out.hY 3; have y4 : w9.cell? ⟨w.heap.size, 4, none⟩ = some (.slice none 0 0) := Ab H9.out.hY 4; clear hb))
     have Y7 := Az (Az (Az (Az (Az H9.out.hY 0 (.slice none 0 0) rfl) 1 (.string ⟨#[]⟩) rfl) 2 (.slice none 0 0) rfl) 3 (.slice none 0 0) rfl) 4 (.slice none 0 0) rfl
     have z0 := Ab Y7 0
     have z1 := Ab Y7 1
     have z2 := Ab Y7 2
     have z3 := Ab Y7 3
     have z4 := Ab Y7 4
     refine bodyPost_ret (v := .tuple #[.agg #[.slice none 0 0, .string ⟨#[]⟩, .slice none 0 0, .slice none 0 0, .slice none 0 0], .int .i64 700]) (by simp [results, Tryz.results59, go_sem, z0, z1, z2, z3, z4]) rfl ?_
     have HBL := H9.out.hb
     exact ⟨by rw [HBW.out]; exact Gh _, by repeat (first | exact HBL | refine C7 ?_ (Nat.le_refl _))⟩
    ·have hk2 : k + 1 ≤ rs.length := by have := HL1.out; omega
     obtain ⟨A7, c7, hmid, hkc, hC7⟩ := wst_mid H11.out k (by have := HL1.out; omega)
     have HKB := Aa.mk (show (([] : List ByteArray).length + k) * 16 ≤ 140737488355328 by have := HL1.out; simp only [List.length_nil]; omega)
     have HC7 := Aa.mk hC7
     have hkn : (((k : Nat) : Int) == 0) = false := beq_eq_false_iff_ne.2 (by omega)
     have kw : wrap64 (((k : Nat) : Int) + 1) = ((k : Nat) : Int) + 1 := by have := HL1.out; unfold wrap64; omega
     have HNX := Lib.hid ((HN6 _ (wst_C HW6.out) (wst_le HW6.out)).out)
     clear HN6 hC7 HW6
     go_upto_region 16 with (first | (go_at_call 97; refine HNX.out.mono ?_; rintro x9 w9 ⟨rfl, hb⟩; have H9 := Aa.mk (H11.out.below hb); clear hb))
     clear hfr7 HNX
     refine sX 9 (S := fun w' => w'.cell? ⟨w1.heap.size, 3, none⟩ = some (.slice none 0 0)) (ds := [8]) (Ab H9.out.hX 3) (fun hHeld => ?_)
     obtain ⟨lst3, hL⟩ : ∃ L, r1.take k = L := ⟨_, rfl⟩
     have HL3 := Aa.mk hL
     clear hL
     have Hd := Aa.mk (H9.out.below (Below.refl w9.heap.size w9).drew)
     clear H9
     generalize w9.drew = wd at Hd hHeld ⊢
     refine pX 0 85 ?_
     refine pX 2 87 ?_
     refine pX 3 88 ?_
     refine pX 4 89 ?_
     refine pX 5 90 ?_
     refine tX 1 86 hHeld ?_
     refine oX 6 (some 91) (fun K hK => ?_)
     refine Kd.Fv Kd.string (w0 := w) w.heap.size (by rfl) (.tmp 86) (.tmp 90) 24 9 (.string ⟨#[]⟩) 16 rfl Tryz.underlying24 Hh rfl (by decide) (by omega) (.slice none 0 0) [] lst3 A7 k c7 (fun _ => True) (fun _ => False) rfl rfl (Kd.Di _ _ _ _ _) (by rw [← HL3.out, ← HR1.out]; exact HC7.out _ (wst_C Hd.out)) (fun _ _ h => h) (fun _ hk => hk.elim) (fun _ _ => trivial) Hd.out.hb Hd.out.hb.size (HKB.out) ?_
     intro v5 w5 ho5 hb5 hg5 hat5
     rw [List.nil_append] at ho5
     obtain ⟨Aq3, cq3, rfl⟩ := Kd.Bd ho5
     have HO5 := Aa.mk ho5
     have H5 := Aa.mk (Hd.out.below (Hr hg5))
     have xf := As H5.out.hX
     clear ho5 hb5 hg5 hat5 Hd
     refine hK.out _ _ (Ab H5.out.hX 3) (fun hHeld => ?_)
     clear hK K
     refine nX ?_
     refine pX 7 92 ?_
     refine lX 8 none (fun K hK => ?_)
     refine kX ?_
     refine hK.out _ _ ?_
     clear hK K
     refine dX ?_
     have H10 := Aa.mk (H5.out.put3 HO5.out)
     generalize w5.setCell ⟨w1.heap.size, 3, none⟩ (.slice Aq3 lst3.length cq3) = w10 at H10 ⊢
     clear HO5 H5 xf hHeld
     obtain ⟨_, _, A8, c8, he8, hfr8, hw8⟩ := H10.out.from_ (k + 1) hk2
     injection he8 with q1 q2 q3
     subst q1
     subst q3
     clear q2
     have e8 : rs.drop (k + 1) = r1.drop k := by rw [← HR1.out, List.drop_drop, Nat.add_comm]
     obtain ⟨rs2, hrs2⟩ : ∃ rs2, r1.drop k = rs2 := ⟨_, rfl⟩
     rw [e8, hrs2] at hfr8 hw8
     have HR2 := Aa.mk hrs2
     have hfr9 : ∀ W : World, (Instr.slice 24 (.slice _ rs.length _) (some (.int .i64 (((k : Nat) : Int) + 1))) none none).run Tryz.prog W = .ok (.slice A8 rs2.length c8) W := fun W => hfr8 W
     have HW8 := Aa.mk hw8
     clear hfr8 hw8 e8 hrs2 hmid hkn kw
     go_wp2_with fail
     go_meet
     exact ⟨_, by rw [HBQ.out]; exact decide_eq_false hk0, by rw [HPQ.out, HL3.out, HR2.out]; exact HW8.out⟩
  case rest =>
   obtain ⟨v3', hbad3, HWS3⟩ := hcut
   have HBAD3 := Aa.mk hbad3
   clear hbad3
   obtain ⟨rs1, hrs1⟩ : ∃ rs1, (Fx rs ⟨#[124]⟩).2 = rs1 := ⟨_, rfl⟩
   have hsub := partQ_sub rs ⟨#[124]⟩
   obtain ⟨imp, himp⟩ : ∃ imp, (Fx rs ⟨#[124]⟩).1 = imp := ⟨_, rfl⟩
   rw [hrs1, himp] at HWS3
   rw [hrs1] at hsub
   have HRS1 := Aa.mk hrs1
   have HIMP := Aa.mk himp
   have hSr1 := Hj HSR.out hsub
   have HSR1 := Aa.mk hSr1
   have hlr1 : rs1.length ≤ 1048577 := E0 hSr1
   clear hrs1 himp hsub hSr1
   obtain ⟨A9, c9, hs4, _, _⟩ := Fh HWS3.ws
   subst hs4
   obtain ⟨Ai, ci, hvi⟩ := Kd.Bd HWS3.r3
   subst hvi
   have H12 := Aa.mk HWS3
   clear HWS3
   go_upto_region 18 with (fail)
   go_cut [105] (fun s105 wx => s105 = .bool (signB rs1 ⟨#[124, 124]⟩) ∧ wx = wc)
   case first =>
    by_cases hpos : (0 : Int) < ((rs1.length : Nat) : Int)
    ·have hsg := Aa.mk (signB_rd (rs := rs1) ⟨#[124, 124]⟩ (by omega))
     obtain ⟨ad4, rfl, g0⟩ := Kd.Ct (wst_C H12.out) 0 (by omega) hpos
     rw [show (⟨#[124, 124]⟩ : ByteArray).toList = [124, 124] by decide +kernel] at hsg
     generalize rdOf ByteArray.empty rs1 0 = y at g0 hsg
     have g0b : wc.cell? ad4 = some (.string y) := by simpa [Addr.add] using g0
     go_wp2_with fail
     go_meet
     exact ⟨by rw [hsg.out], rfl⟩
    ·have hsg := Aa.mk (signB_nil (rs := rs1) ⟨#[124, 124]⟩ (by omega))
     go_wp2_with fail
     go_meet
     exact ⟨by rw [hsg.out], rfl⟩
   case rest =>
    obtain ⟨rfl, rfl⟩ := hcut
    go_upto_if 105 with (fail)
    go_cut [4, 6] (fun s4 s6 wx => ∃ v' : Value, badQ rs1 ⟨#[124, 124]⟩ = false ∧ WSt w w1.heap.size wx s4 (Fx rs1 ⟨#[124, 124]⟩).2 (.slice Aq0 outs.length cq0) (.slice Aq2 ins.length cq2) (.slice Ai imp.length ci) v' r outs ins imp (Fx rs1 ⟨#[124, 124]⟩).1)
    case first =>
     cases hsg : signB rs1 ⟨#[124, 124]⟩ with
     | false =>
      go_wp2_with fail
      go_meet
      exact ⟨_, by unfold badQ; rw [hsg]; rfl, by unfold Fx; rw [hsg]; exact H12.out⟩
     | true =>
      have hpos : 1 ≤ rs1.length := by
       cases rs1 with
       | nil => exact absurd hsg (by decide)
       | cons y l => simp only [List.length_cons]; omega
      obtain ⟨_, _, A6, c6, he6, hfr6, hw6⟩ := H12.out.from_ 1 hpos
      injection he6 with q1 q2 q3
      subst q1
      subst q3
      clear q2
      have hfr7 : ∀ W : World, (Instr.slice 24 (.slice _ rs1.length _) (some (.int .i64 1)) none none).run Tryz.prog W = .ok (.slice A6 (rs1.drop 1).length c6) W := fun W => hfr6 W
      clear hfr6
      have hS1 := Hj HSR1.out (show (rs1.drop 1).Sublist rs1 from List.drop_sublist _ _)
      have HN6 := fun W hr hc => Lib.hid (r97 (rs1.drop 1) (Fy hS1) (E0 hS1) A6 c6 W hr hc)
      have hk1 := F5 (rs1.drop 1)
      have HBQ := Aa.mk (show badQ rs1 ⟨#[124, 124]⟩ = decide (Cm (rs1.drop 1) < 1) by unfold badQ; rw [hsg, Bool.true_and])
      have HPQ := Aa.mk (show Fx rs1 ⟨#[124, 124]⟩ = ((rs1.drop 1).take (Cm (rs1.drop 1)), (rs1.drop 1).drop (Cm (rs1.drop 1))) by unfold Fx; rw [hsg, if_pos rfl])
      obtain ⟨k, hk⟩ : ∃ k, Cm (rs1.drop 1) = k := ⟨_, rfl⟩
      rw [hk] at HN6 hk1 HBQ HPQ
      obtain ⟨r1, hr1⟩ : ∃ r1, rs1.drop 1 = r1 := ⟨_, rfl⟩
      have HR1 := Aa.mk hr1
      have HL1 := Aa.mk (show r1.length + 1 = rs1.length by rw [← hr1, List.length_drop]; omega)
      rw [hr1] at hfr7 hw6 HN6 hk1 HPQ
      have HW6 := Aa.mk hw6
      clear hk hr1 hw6 hS1 hsg
      by_cases hk0 : k < 1
      ·have k0 : k = 0 := by omega
       subst k0
       have hB : Ev ws = wFail := by rw [buildW_z hn c1n c2n hd h4 h5 HM.out HRS.out, HRS1.out, show badQ rs1 ⟨#[124, 124]⟩ = true by rw [HBQ.out]; decide]; simp
       have HBW := Aa.mk hB
       clear hB
       have H31 := (HN6 _ (wst_C HW6.out) (wst_le HW6.out)).out
       have HNX := Lib.hid H31
       clear H31 HN6
       go_wp2_with (first | (go_at_call 97; refine HNX.out.mono ?_; rintro x9 w9 ⟨rfl, hb⟩; have H9 := Aa.mk (HW6.out.below hb); have yf := As H9.out.hY; have y0 : w9.cell? ⟨w.heap.size, 0, none⟩ = some (.slice none 0 0) := Ab H9.out.hY 0; have y1 : w9.cell? ⟨w.heap.size, 1, none⟩ = some (.string ⟨#[]⟩) := Ab H9.out.hY 1; have y2 : w9.cell? ⟨w.heap.size, 2, none⟩ = some (.slice none 0 0) := Ab H9.out.hY 2; have y3 : w9.cell? ⟨w.heap.size, 3, none⟩ = some (.slice none 0 0) := Ab H9.out.hY 3; have y4 : w9.cell? ⟨w.heap.size, 4, none⟩ = some (.slice none 0 0) := Ab H9.out.hY 4; clear hb))
       have Y7 := Az (Az (Az (Az (Az H9.out.hY 0 (.slice none 0 0) rfl) 1 (.string ⟨#[]⟩) rfl) 2 (.slice none 0 0) rfl) 3 (.slice none 0 0) rfl) 4 (.slice none 0 0) rfl
       have z0 := Ab Y7 0
       have z1 := Ab Y7 1
       have z2 := Ab Y7 2
       have z3 := Ab Y7 3
       have z4 := Ab Y7 4
       refine bodyPost_ret (v := .tuple #[.agg #[.slice none 0 0, .string ⟨#[]⟩, .slice none 0 0, .slice none 0 0, .slice none 0 0], .int .i64 700]) (by simp [results, Tryz.results59, go_sem, z0, z1, z2, z3, z4]) rfl ?_
       have HBL := H9.out.hb
       exact ⟨by rw [HBW.out]; exact Gh _, by repeat (first | exact HBL | refine C7 ?_ (Nat.le_refl _))⟩
      ·have hk2 : k + 1 ≤ rs1.length := by have := HL1.out; omega
       obtain ⟨A7, c7, hmid, hkc, hC7⟩ := wst_mid H12.out k (by have := HL1.out; omega)
       have HKB := Aa.mk (show (([] : List ByteArray).length + k) * 16 ≤ 140737488355328 by have := HL1.out; simp only [List.length_nil]; omega)
       have HC7 := Aa.mk hC7
       have hkn : (((k : Nat) : Int) == 0) = false := beq_eq_false_iff_ne.2 (by omega)
       have kw : wrap64 (((k : Nat) : Int) + 1) = ((k : Nat) : Int) + 1 := by have := HL1.out; unfold wrap64; omega
       have HNX := Lib.hid ((HN6 _ (wst_C HW6.out) (wst_le HW6.out)).out)
       clear HN6 hC7 HW6
       go_upto_region 22 with (first | (go_at_call 97; refine HNX.out.mono ?_; rintro x9 w9 ⟨rfl, hb⟩; have H9 := Aa.mk (H12.out.below hb); clear hb))
       clear hfr7 HNX
       refine sX 9 (S := fun w' => w'.cell? ⟨w1.heap.size, 4, none⟩ = some (.slice none 0 0)) (ds := [8]) (Ab H9.out.hX 4) (fun hHeld => ?_)
       obtain ⟨lst4, hL⟩ : ∃ L, r1.take k = L := ⟨_, rfl⟩
       have HL3 := Aa.mk hL
       clear hL
       have Hd := Aa.mk (H9.out.below (Below.refl w9.heap.size w9).drew)
       clear H9
       generalize w9.drew = wd at Hd hHeld ⊢
       refine pX 0 112 ?_
       refine pX 2 114 ?_
       refine pX 3 115 ?_
       refine pX 4 116 ?_
       refine pX 5 117 ?_
       refine tX 1 113 hHeld ?_
       refine oX 6 (some 118) (fun K hK => ?_)
       refine Kd.Fv Kd.string (w0 := w) w.heap.size (by rfl) (.tmp 113) (.tmp 117) 24 9 (.string ⟨#[]⟩) 16 rfl Tryz.underlying24 Hh rfl (by decide) (by omega) (.slice none 0 0) [] lst4 A7 k c7 (fun _ => True) (fun _ => False) rfl rfl (Kd.Di _ _ _ _ _) (by rw [← HL3.out, ← HR1.out]; exact HC7.out _ (wst_C Hd.out)) (fun _ _ h => h) (fun _ hk => hk.elim) (fun _ _ => trivial) Hd.out.hb Hd.out.hb.size (HKB.out) ?_
       intro v5 w5 ho5 hb5 hg5 hat5
       rw [List.nil_append] at ho5
       obtain ⟨Aq4, cq4, rfl⟩ := Kd.Bd ho5
       have HO5 := Aa.mk ho5
       have H5 := Aa.mk (Hd.out.below (Hr hg5))
       have xf := As H5.out.hX
       clear ho5 hb5 hg5 hat5 Hd
       refine hK.out _ _ (Ab H5.out.hX 4) (fun hHeld => ?_)
       clear hK K
       refine nX ?_
       refine pX 7 119 ?_
       refine lX 8 none (fun K hK => ?_)
       refine kX ?_
       refine hK.out _ _ ?_
       clear hK K
       refine dX ?_
       have H10 := Aa.mk (H5.out.put4 HO5.out)
       generalize w5.setCell ⟨w1.heap.size, 4, none⟩ (.slice Aq4 lst4.length cq4) = w10 at H10 ⊢
       clear HO5 H5 xf hHeld
       obtain ⟨_, _, A8, c8, he8, hfr8, hw8⟩ := H10.out.from_ (k + 1) hk2
       injection he8 with q1 q2 q3
       subst q1
       subst q3
       clear q2
       have e8 : rs1.drop (k + 1) = r1.drop k := by rw [← HR1.out, List.drop_drop, Nat.add_comm]
       obtain ⟨rs2, hrs2⟩ : ∃ rs2, r1.drop k = rs2 := ⟨_, rfl⟩
       rw [e8, hrs2] at hfr8 hw8
       have HR2 := Aa.mk hrs2
       have hfr9 : ∀ W : World, (Instr.slice 24 (.slice _ rs1.length _) (some (.int .i64 (((k : Nat) : Int) + 1))) none none).run Tryz.prog W = .ok (.slice A8 rs2.length c8) W := fun W => hfr8 W
       have HW8 := Aa.mk hw8
       clear hfr8 hw8 e8 hrs2 hmid hkn kw
       go_wp2_with fail
       go_meet
       exact ⟨_, by rw [HBQ.out]; exact decide_eq_false hk0, by rw [HPQ.out, HL3.out, HR2.out]; exact HW8.out⟩
    case rest =>
     obtain ⟨v4', hbad4, HWS4⟩ := hcut
     have HBAD4 := Aa.mk hbad4
     clear hbad4
     obtain ⟨rs2, hrs2⟩ : ∃ rs2, (Fx rs1 ⟨#[124, 124]⟩).2 = rs2 := ⟨_, rfl⟩
     obtain ⟨ord, hord⟩ : ∃ ord, (Fx rs1 ⟨#[124, 124]⟩).1 = ord := ⟨_, rfl⟩
     rw [hrs2, hord] at HWS4
     have hml : ins.length = m := by rw [← HL2.out, List.length_take, Nat.min_eq_left hm3]
     have HBW0 := Aa.mk (show Ev ws = if (decide (8 < ins.length) || decide (8 < imp.length) || decide (8 < ord.length) || decide (0 < rs2.length)) = true then wFail else (outs, r, ins, imp, ord, 0) by rw [buildW_z hn c1n c2n hd h4 h5 HM.out HRS.out, HRS1.out, HIMP.out, HBAD3.out, HBAD4.out, hrs2, hord, HL.out, HL2.out, hml]; rfl)
     obtain ⟨A10, c10, hs4, _, _⟩ := Fh HWS4.ws
     subst hs4
     obtain ⟨Ao, co, hvo⟩ := Kd.Bd HWS4.r5
     subst hvo
     have H13 := Aa.mk HWS4
     clear HWS4 hrs2 hord hml
     have x0 : wc.cell? ⟨w1.heap.size, 0, none⟩ = some (.slice Aq0 outs.length cq0) := Ab H13.out.hX 0
     have x1 : wc.cell? ⟨w1.heap.size, 1, none⟩ = some (.string r) := Ab H13.out.hX 1
     have x2 : wc.cell? ⟨w1.heap.size, 2, none⟩ = some (.slice Aq2 ins.length cq2) := Ab H13.out.hX 2
     have x3 : wc.cell? ⟨w1.heap.size, 3, none⟩ = some (.slice Ai imp.length ci) := Ab H13.out.hX 3
     have x4 : wc.cell? ⟨w1.heap.size, 4, none⟩ = some (.slice Ao ord.length co) := Ab H13.out.hX 4
     have yf := As H13.out.hY
     have y0 : wc.cell? ⟨w.heap.size, 0, none⟩ = some (.slice none 0 0) := Ab H13.out.hY 0
     have y1 : wc.cell? ⟨w.heap.size, 1, none⟩ = some (.string ⟨#[]⟩) := Ab H13.out.hY 1
     have y2 : wc.cell? ⟨w.heap.size, 2, none⟩ = some (.slice none 0 0) := Ab H13.out.hY 2
     have y3 : wc.cell? ⟨w.heap.size, 3, none⟩ = some (.slice none 0 0) := Ab H13.out.hY 3
     have y4 : wc.cell? ⟨w.heap.size, 4, none⟩ = some (.slice none 0 0) := Ab H13.out.hY 4
     by_cases g1 : (0 : Int) < ((rs2.length : Nat) : Int)
     ·have Q := Aa.mk (show 0 < rs2.length by omega)
      have q1 := Q.out
      have HBW := Aa.mk (show Ev ws = wFail by rw [HBW0.out, if_pos (by simp [Q.out])])
      clear HBW0
      go_wp2_with fail
      have Y7 := Az (Az (Az (Az (Az H13.out.hY 0 (.slice none 0 0) rfl) 1 (.string ⟨#[]⟩) rfl) 2 (.slice none 0 0) rfl) 3 (.slice none 0 0) rfl) 4 (.slice none 0 0) rfl
      have z0 := Ab Y7 0
      have z1 := Ab Y7 1
      have z2 := Ab Y7 2
      have z3 := Ab Y7 3
      have z4 := Ab Y7 4
      refine bodyPost_ret (v := .tuple #[.agg #[.slice none 0 0, .string ⟨#[]⟩, .slice none 0 0, .slice none 0 0, .slice none 0 0], .int .i64 700]) (by simp [results, Tryz.results59, go_sem, z0, z1, z2, z3, z4]) rfl ?_
      have HBL := H13.out.hb
      exact ⟨by rw [HBW.out]; exact Gh _, by repeat (first | exact HBL | refine C7 ?_ (Nat.le_refl _))⟩
     have g1q := Aa.mk (show ¬ 0 < rs2.length by omega)
     have hz : rs2.length = 0 := by omega
     clear g1
     by_cases g2 : (8 : Int) < ((ins.length : Nat) : Int)
     ·have Q := Aa.mk (show 8 < ins.length by omega)
      have HBW := Aa.mk (show Ev ws = wFail by rw [HBW0.out, if_pos (by simp [Q.out])])
      clear HBW0
      go_wp2_with fail
      have Y7 := Az (Az (Az (Az (Az H13.out.hY 0 (.slice none 0 0) rfl) 1 (.string ⟨#[]⟩) rfl) 2 (.slice none 0 0) rfl) 3 (.slice none 0 0) rfl) 4 (.slice none 0 0) rfl
      have z0 := Ab Y7 0
      have z1 := Ab Y7 1
      have z2 := Ab Y7 2
      have z3 := Ab Y7 3
      have z4 := Ab Y7 4
      refine bodyPost_ret (v := .tuple #[.agg #[.slice none 0 0, .string ⟨#[]⟩, .slice none 0 0, .slice none 0 0, .slice none 0 0], .int .i64 700]) (by simp [results, Tryz.results59, go_sem, z0, z1, z2, z3, z4]) rfl ?_
      have HBL := H13.out.hb
      exact ⟨by rw [HBW.out]; exact Gh _, by repeat (first | exact HBL | refine C7 ?_ (Nat.le_refl _))⟩
     have g2q := Aa.mk (show ¬ 8 < ins.length by omega)
     by_cases g3 : (8 : Int) < ((imp.length : Nat) : Int)
     ·have Q := Aa.mk (show 8 < imp.length by omega)
      have HBW := Aa.mk (show Ev ws = wFail by rw [HBW0.out, if_pos (by simp [Q.out])])
      clear HBW0
      go_wp2_with fail
      have Y7 := Az (Az (Az (Az (Az H13.out.hY 0 (.slice none 0 0) rfl) 1 (.string ⟨#[]⟩) rfl) 2 (.slice none 0 0) rfl) 3 (.slice none 0 0) rfl) 4 (.slice none 0 0) rfl
      have z0 := Ab Y7 0
      have z1 := Ab Y7 1
      have z2 := Ab Y7 2
      have z3 := Ab Y7 3
      have z4 := Ab Y7 4
      refine bodyPost_ret (v := .tuple #[.agg #[.slice none 0 0, .string ⟨#[]⟩, .slice none 0 0, .slice none 0 0, .slice none 0 0], .int .i64 700]) (by simp [results, Tryz.results59, go_sem, z0, z1, z2, z3, z4]) rfl ?_
      have HBL := H13.out.hb
      exact ⟨by rw [HBW.out]; exact Gh _, by repeat (first | exact HBL | refine C7 ?_ (Nat.le_refl _))⟩
     have g3q := Aa.mk (show ¬ 8 < imp.length by omega)
     by_cases g4 : (8 : Int) < ((ord.length : Nat) : Int)
     ·have Q := Aa.mk (show 8 < ord.length by omega)
      have HBW := Aa.mk (show Ev ws = wFail by rw [HBW0.out, if_pos (by simp [Q.out])])
      clear HBW0
      go_wp2_with fail
      have Y7 := Az (Az (Az (Az (Az H13.out.hY 0 (.slice none 0 0) rfl) 1 (.string ⟨#[]⟩) rfl) 2 (.slice none 0 0) rfl) 3 (.slice none 0 0) rfl) 4 (.slice none 0 0) rfl
      have z0 := Ab Y7 0
      have z1 := Ab Y7 1
      have z2 := Ab Y7 2
      have z3 := Ab Y7 3
      have z4 := Ab Y7 4
      refine bodyPost_ret (v := .tuple #[.agg #[.slice none 0 0, .string ⟨#[]⟩, .slice none 0 0, .slice none 0 0, .slice none 0 0], .int .i64 700]) (by simp [results, Tryz.results59, go_sem, z0, z1, z2, z3, z4]) rfl ?_
      have HBL := H13.out.hb
      exact ⟨by rw [HBW.out]; exact Gh _, by repeat (first | exact HBL | refine C7 ?_ (Nat.le_refl _))⟩
     have g4q := Aa.mk (show ¬ 8 < ord.length by omega)
     have HBW := Aa.mk (show Ev ws = (outs, r, ins, imp, ord, 0) by rw [HBW0.out, if_neg (by have := g1q.out; have := g2q.out; have := g3q.out; have := g4q.out; simp only [Bool.or_eq_true, decide_eq_true_eq]; omega)])
     clear HBW0
     go_wp2_with fail
     have Y7 := Az (Az (Az (Az (Az H13.out.hY 0 (.slice Aq0 outs.length cq0) rfl) 1 (.string r) rfl) 2 (.slice Aq2 ins.length cq2) rfl) 3 (.slice Ai imp.length ci) rfl) 4 (.slice Ao ord.length co) rfl
     have z0 := Ab Y7 0
     have z1 := Ab Y7 1
     have z2 := Ab Y7 2
     have z3 := Ab Y7 3
     have z4 := Ab Y7 4
     refine bodyPost_ret (v := .tuple #[.agg #[.slice Aq0 outs.length cq0, .string r, .slice Aq2 ins.length cq2, .slice Ai imp.length ci, .slice Ao ord.length co], .int .i64 0]) (by simp [results, Tryz.results59, go_sem, z0, z1, z2, z3, z4]) rfl ?_
     have HBL := H13.out.hb
     exact ⟨by rw [HBW.out]; exact wst_end H13.out, by repeat (first | exact HBL | refine C7 ?_ (Nat.le_refl _))⟩
theorem words59_calls (s : ByteArray) (hs : s.size ≤ 1048576) (w : World) : Calls Tryz.prog 59 #[.string s] w fun e w' => WAns w' (Cr s) e ∧ Below w.heap.size w w' := by
 rw [buildR_W]
 obtain ⟨ws, hws⟩ : ∃ ws, Cj s = ws := ⟨_, rfl⟩
 obtain ⟨n, hn⟩ : ∃ n, Cm ws = n := ⟨_, rfl⟩
 rw [hws]
 by_cases h1 : n < 1
 ·exact words59_a s hs ws hws n hn w h1
 by_cases h2 : 8 < n
 ·exact words59_b s hs ws hws n hn w h2
 by_cases h3 : ws.length ≤ n + 1
 ·exact words59_c s hs ws hws n hn w h1 h2 h3
 have hl : (ws.drop n).length = ws.length - n := List.length_drop
 cases hd : ws.drop n with
 | nil => rw [hd] at hl; simp at hl; omega
 | cons x l =>
  cases l with
  | nil => rw [hd] at hl; simp at hl; omega
  | cons r ws3 =>
   by_cases h4 : x.toList = [58]
   ·cases h5 : Ce r with
    | false => exact words59_e s hs ws hws n hn w h1 h2 x r ws3 hd h4 h5
    | true => exact words59_z s hs ws hws n hn w h1 h2 x r ws3 hd h4 h5
   ·exact words59_d s hs ws hws n hn w h1 h2 x r ws3 hd h4
theorem R_append_told {P : Program} {ops : Array Oper} {o : Oper} {a : Act} {Q : Exit → Act → World → Prop} {Kc : Act → World → Prop} {α : Type} (d : Kd α) {w0 W : World} (base : Nat) (hw : Region.wanted o (yielded ops a.tmps) = true) (s x : Operand) (t e : TypeId) (z : Value) (bytes : Nat)
 (ho : o.op = .call { callee := .builtin .append, args := #[s, x], argTypes := #[t, t] })
 (ht : P.underlying t = some (.slice e)) (hinfo : (P.info? e).map (fun i => (i.zero, i.size, i.bytes)) = some (some z, d.sz, bytes)) (hz : z.cells.size = d.sz) (hs0 : 0 < d.sz) (hb0 : 0 < bytes)
 (v : Value) (xs : List α) (p : α) (cs : List Value) (ok okp : Nat → Prop) (hs : a.eval s = v) (hx : a.eval x = .slice (some ⟨W.heap.size, 0, none⟩) 1 1) (hp : d.M W base okp p cs) (hokp : ∀ k, okp k → ok k ∧ some k ≠ v.ownBlock) (hfresh : ∀ k, W.heap.size ≤ k → ok k)
 (HO : d.R e W base ok v xs) (HB : Below base w0 W) (hbase : base ≤ W.heap.size) (hl : (xs.length + 1) * bytes ≤ 140737488355328)
 (h : ∀ v1 w1, d.R e w1 base ok v1 (xs ++ [p]) → Below base w0 w1 → W.grownBy w1 v.ownBlock → (∀ g, v1.ownBlock = some g → ∀ j u, cs[j]? = some u → w1.cell? ⟨g, xs.length * d.sz + j, none⟩ = some u) → Kc (a.put o.dst v1) w1) :
 if Region.wanted o (yielded ops a.tmps) = true then Oper.wp P o a (W.alloc (.cells cs.toArray e)) Kc Q else Kc (a.put o.dst undef) (W.alloc (.cells cs.toArray e)) := by
 obtain ⟨h0, inner, hown, hr⟩ := HO
 refine step_append_cells base hw s x t e z d.sz bytes ho ht hinfo hz hs0 hb0 v xs.length inner cs hs hx (d.K_len (d.K_of_M hp)) (d.K_one (d.K_of_M hp)) hown HB hbase hl ?_
 intro v1 w1 hown1 hb1 hg1 hat1
 refine h v1 w1 (Kd.R_appended h0 hr hp hokp hfresh hown1 hg1 hat1) hb1 hg1 (fun g hg j u hj => ?_)
 have := hown1.cells hg (xs.length * d.sz + j) u (by rw [List.getElem?_append_right (by rw [hr.1]; omega), hr.1, Nat.add_sub_cancel_left]; exact hj)
 rwa [add_plain] at this
theorem q_of {f : FuncId} {args : Array Value} {w : World} {n : Nat} {v : Value} (h : ∀ W, Calls Tryz.prog f args W fun e w' => e = .returned v ∧ Ch W w') : Calls Tryz.prog f args (w.drewN n) fun e w'' => e = .returned v ∧ ∃ m, w'' = w.drewN m :=
 Calls.quiet_of ((h _).mono (fun e w' q => ⟨q.1, q.2.out⟩))
theorem find58_drawn (base B : Nat) (ok : Nat → Prop) (vE vP vD vR vO v6 v8 v9 v10 v11 : Value) (op : Int) (nm : ByteArray) (l : List S116) (s : ByteArray) (w : World) (h : Rb w B vE vP vD vR vO op v6 nm v8 v9 v10 v11) (hR : Kd.R kq 95 w base ok vR l) :
 Calls Tryz.prog 58 #[.pointer (some ⟨B, 0, none⟩), .string s] w fun e w' => e = .returned (.int .i64 (idxP (fun x : S116 => x.f0.toList == s.toList) l)) ∧ Ch w w' := by
 obtain ⟨A0, c0, rfl, _, hC⟩ := Kd.Dl hR
 have HR := Aa.mk hC
 have HB := Aa.mk h
 have hm := Hb hC
 clear hC hR h
 generalize hp : (fun x : S116 => x.f0.toList == s.toList) = p
 have HPP := Lib.hid hp
 go_enter Tryz.func58, Tryz.ntmps58
 go_wp2
 go_loopw [5] (fun v5 wr => ∃ k : Nat, v5 = .int .i64 k ∧ k ≤ l.length ∧ Aa (Dy p (l.drop k) k = idxP p l) ∧ Ch w wr) (fun v5 _ => l.length - (intOf v5).toNat)
 case atStart => exact ⟨0, rfl, by omega, ⟨rfl⟩, Ch.refl _⟩
 case round =>
  obtain ⟨k, rfl, hk, hf, hbw⟩ := hrel
  have c3 : wr.cell? ⟨B, 3, none⟩ = some (.slice A0 l.length c0) := Be hbw.below (Ab HB.out 3)
  by_cases hlt : k < l.length
  ·obtain ⟨ad, A4, n4, c4, rfl, f0, f1, f2, f3, f4⟩ := at_q (Kd.Bb HR.out hbw.below) (k : Int) (by omega) (by omega)
   have hq := Lib.hid (Gm p l k hlt)
   rw [rd_at116 l k hlt] at f0 f1 f2 f3
   simp only [Int.toNat_natCast] at f0 f1 f2 f3 f4
   have hpx0 : p l[k] = (l[k].f0.toList == s.toList) := by rw [← HPP.out]
   generalize l[k] = x at *
   by_cases he : x.f0.toList = s.toList
   ·have hpx := Lib.hid (show p x = true by rw [hpx0]; exact beq_iff_eq.2 he)
    clear hpx0
    go_wp2
    go_ret
    exact ⟨Hq (by rw [← hf.out, hq.out, if_pos hpx.out]), hbw⟩
   ·have hpx := Lib.hid (show p x = false by rw [hpx0]; exact beq_eq_false_iff_ne.2 he)
    have he2 : (x.f0.toList == s.toList) = false := beq_eq_false_iff_ne.2 he
    clear hpx0
    go_wp2
    exact ⟨⟨k + 1, by go_num, by omega, ⟨by rw [← hf.out, hq.out, if_neg (by rw [hpx.out]; decide)]⟩, hbw⟩, by simp [intOf]; omega⟩
  ·have hd : l.drop k = [] := List.drop_of_length_le (by omega)
   have hq := Lib.hid hd
   clear hd
   go_wp2
   go_ret
   exact ⟨Hq (by rw [← hf.out, hq.out]; rfl), hbw⟩
theorem below_drewN {w w2 : World} (h : Below w.heap.size w w2) (n : Nat) : Below w.heap.size w (w2.drewN n) := h.trans ((Ch.mk ⟨n, rfl⟩ : Ch w2 (w2.drewN n)).below.mono h.size)
theorem q31 (x : ByteArray) (hx : x.size ≤ 1048576) (W : World) : Calls Tryz.prog 31 #[.string x] W fun e w' => e = .returned (.bool (Ce x)) ∧ Ch W w' :=
 Ag.calls 3000000 x _ W (Hu x (by omega) 3000000 (by omega))
theorem q32 (ps : List S44) (hl : ps.length ≤ 1000) (s : ByteArray) (A : Option Addr) (c : Nat) (w : World) (hr : Kd.C k44 w A ps.length ps) (hc : ps.length ≤ c) : Calls Tryz.prog 32 #[.slice A ps.length c, .string s] w fun e w' => e = .returned (.int .i64 (idxP (fun x : S44 => x.f0.toList == s.toList) ps)) ∧ Ch w w' :=
 Bw.calls 2000 A c ps s _ w hr hc (by unfold Bw.f; exact poolAt_go ps s hl ps.length 0 2000 (by omega) (by omega))
theorem seen_nil (x : ByteArray) : Ir [] ⟨x, ⟨#[]⟩, ⟨#[]⟩, false, false⟩ := ⟨fun y hy => by simp at hy, by show false = !((⟨#[]⟩ : ByteArray).toList.isEmpty); decide +kernel, rfl, rfl, Nat.zero_le _⟩
theorem lastR_app (l : List S116) (x : S116) : Cy (l ++ [x]) = x := by
 unfold Cy
 rw [List.length_append, List.length_singleton, Nat.add_sub_cancel, List.getD_eq_getElem?_getD, List.getElem?_append_right (Nat.le_refl _), Nat.sub_self]
 rfl
theorem und64 : Tryz.prog.underlying 64 = some (.slice 95) := by kernel_rfl
theorem flat24_rule (base B : Nat) (p : Pst) (t : ByteArray) (ht : t.size ≤ 1048576) (w : World) (h : RSt w base B p .none) (hlen : p.rules.length ≤ 8) (hw : (cutC 32 t).1.toList = [114, 117, 108, 101]) :
 Calls Tryz.prog 24 #[.pointer (some ⟨B, 0, none⟩), .string t] w fun x w' => x = .returned (.int .i64 (ruleE p 0 (cutC 32 t).2.1)) ∧ Below base w w' ∧ (ruleE p 0 (cutC 32 t).2.1 = 0 → RSt w' base B { p with rules := p.rules ++ [⟨(oneW 0 (cutC 32 t).2.1).1, ⟨#[]⟩, ⟨#[]⟩, false, false⟩] } .rule) := by
 obtain ⟨vE, vP, vD, vR, vO, op, v6, nm, v8, v9, v10, v11, ok, hbB, hb, hR, hS, ho⟩ := h
 obtain rfl : op = 0 := ho
 have hbw : base ≤ w.heap.size := Nat.le_trans hbB (Nat.le_of_lt (Cq hb))
 have H56 := Lib.hid (r56 t ht w)
 have hsz := (Hl 32 t).2
 obtain ⟨rest, hrest⟩ : ∃ q, (cutC 32 t).2.1 = q := ⟨_, rfl⟩
 obtain ⟨wd, hwd⟩ : ∃ q, (cutC 32 t).1 = q := ⟨_, rfl⟩
 rw [hrest, hwd] at H56
 rw [hrest] at hsz ⊢
 rw [hwd] at hw
 have H57 := fun W => Lib.hid (r57 rest (Nat.le_trans hsz ht) W)
 have hws := Ed rest (Nat.le_trans hsz ht)
 have hwb : (wd.toList == [114, 117, 108, 101]) = true := beq_iff_eq.2 hw
 have hwp : (wd.toList == [112, 111, 111, 108]) = false := by rw [hw]; decide
 obtain ⟨AR, cR, rfl⟩ := Kd.Bd hR.2.2.2.1
 obtain ⟨AP, cP, rfl⟩ := Kd.Bd hR.2.1
 have HB := Aa.mk hb
 have HR := Aa.mk hR
 have HS := Aa.mk hS
 have H1W := Lib.hid (fun x (e : Cj rest = [x]) => rule_one (p := p) e)
 have HMW := Lib.hid (rule_many (p := p) (s := rest))
 have HON := Lib.hid (fun x (e : Cj rest = [x]) => oneW_one e)
 have HWS := Aa.mk hws
 obtain ⟨ws, hwse⟩ : ∃ q, Cj rest = q := ⟨_, rfl⟩
 simp only [hwse] at H57
 replace H57 := Lib.hid H57
 have HWE := Lib.hid hwse
 clear hb hR hS hws hwse hrest hwd hw
 go_enter Tryz.func24, Tryz.ntmps24
 go_upto_region 6 with (first | (go_at_call 56; refine H56.out.mono ?_; rintro x w1 ⟨rfl, hb1⟩; have HB1 := Aa.mk hb1; clear hb1) | (go_at_call 57; refine (H57.out _).out.mono ?_; rintro x w2 ⟨vW, rfl, hrW, hb2⟩; obtain ⟨AW, cW, rfl⟩ := Kd.Bd hrW; have HB2 := Aa.mk (HB1.out.trans (hb2.mono HB1.out.size)); have HRW := Aa.mk hrW; clear hrW hb2))
 have HBw2 := Aa.mk (Aj HB.out HB2.out)
 have HRw2 := Aa.mk (D8 HR.out HB2.out)
 have c1 : w2.cell? ⟨B, 1, none⟩ = some (.slice AP p.pools.length cP) := Ab HBw2.out 1
 have hmW := Hb (Kd.R_reads' HRW.out).2.2
 by_cases hl : ws.length = 1
 case neg =>
  have b1 : ((ws.length : Int) != 1) = true := bne_iff_ne.2 (by omega)
  go_quiet (fail)
  go_wp2_with (fail)
  go_ret
  rw [HMW.out (by rw [HWE.out]; exact hl)]
  exact ⟨rfl, (below_drewN HB2.out _).mono hbw, fun h0 => absurd h0 (by decide)⟩
 obtain ⟨x, rfl⟩ := one_of_len hl
 have hx := HWS.out.1 x (by rw [HWE.out]; exact List.mem_singleton.2 rfl)
 have HQ := Lib.hid (H1W.out x HWE.out)
 have HX := Lib.hid (HON.out x HWE.out)
 obtain ⟨gW, cW2, hv, -, -, -⟩ := Kd.Gy HRW.out (by simp)
 injection hv with q1 q2 q3
 subst q1
 subst q3
 clear q2
 have y0 : w2.cell? ⟨gW, 0, none⟩ = some (.string x) := by
  obtain ⟨ad, ha, f0⟩ := Kd.Ct (Kd.R_reads' HRW.out).2.2 0 (by omega) (by simp)
  injection ha with ha
  subst ha
  exact f0
 have H31 := Lib.hid (fun n => q_of (w := w2) (n := n) (q31 x hx))
 have hf1 : ∀ n, Calls Tryz.prog 58 #[.pointer (some ⟨B, 0, none⟩), .string x] (w2.drewN n) fun e w'' => e = .returned (.int .i64 (idxP (fun y : S116 => y.f0.toList == x.toList) p.rules)) ∧ ∃ m, w'' = w2.drewN m := fun n => Calls.quiet_of ((find58_drawn base B (fun _ => True) _ _ _ _ _ _ _ _ _ _ _ _ p.rules x _ (blk_drewN HBw2.out n) (Kd.Bj HRw2.out.2.2.2.1 (Ch.mk ⟨n, rfl⟩ : Ch w2 (w2.drewN n)).below)).mono (fun e w' q => ⟨q.1, q.2.out⟩))
 obtain ⟨I, hI⟩ : ∃ q, idxP (fun y : S116 => y.f0.toList == x.toList) p.rules = q := ⟨_, rfl⟩
 simp only [hI] at hf1
 rw [hI] at HQ
 have HF := Lib.hid hf1
 clear hf1 hI hl H57 H1W HMW HON hmW
 cases hnm : Ce x with
 | false =>
  rw [hnm] at HQ
  have HQ2 := Lib.hid (HQ.out.trans (by rfl : _ = (800 : Int)))
  simp only [hnm] at H31
  go_quiet (first | (go_at_call 31; exact H31.out _))
  go_wp2_with (fail)
  go_ret
  rw [HQ2.out]
  exact ⟨rfl, (below_drewN HB2.out _).mono hbw, fun h0 => absurd h0 (by decide)⟩
 | true =>
  rw [hnm] at HQ
  have HXX := Lib.hid (HX.out hnm)
  simp only [hnm] at H31
  clear hnm HX
  by_cases h0 : 0 ≤ I
  ·have b5 : decide (0 ≤ I) = true := decide_eq_true h0
   have HQ2 := Lib.hid (show ruleE p 0 rest = 800 by rw [HQ.out, decide_eq_false (show ¬ I < 0 by omega)]; rfl)
   clear h0
   go_quiet (first | (go_at_call 31; exact H31.out _) | (go_at_call 58; exact HF.out _))
   go_wp2_with (fail)
   go_ret
   rw [HQ2.out]
   exact ⟨rfl, (below_drewN HB2.out _).mono hbw, fun h0 => absurd h0 (by decide)⟩
  have b5 : decide (0 ≤ I) = false := decide_eq_false h0
  have HQ2 := Lib.hid (show ruleE p 0 rest = if decide ((p.rules.length : Int) < 8) = true then 0 else 801 by rw [HQ.out, decide_eq_true (show I < 0 by omega)]; rfl)
  clear h0 HQ
  go_quiet (first | (go_at_call 31; exact H31.out _) | (go_at_call 58; exact HF.out _))
  have HB3 := Aa.mk (below_drewN HB2.out nq)
  have HBw3 := Aa.mk (blk_drewN HBw2.out nq)
  have HRw3 := Aa.mk (D8 HRw2.out (Ch.mk ⟨nq, rfl⟩ : Ch w2 (w2.drewN nq)).below)
  have y3 := Be (Ch.mk ⟨nq, rfl⟩ : Ch w2 (w2.drewN nq)).below y0
  have hb3W := (Ch.mk ⟨nq, rfl⟩ : Ch w2 (w2.drewN nq)).below
  clear y0 c1 HF H31 b5 HBw2 HRw2
  generalize w2.drewN nq = w3 at HB3 HBw3 HRw3 y3 hb3W ⊢
  have c3 : w3.cell? ⟨B, 3, none⟩ = some (.slice AR p.rules.length cR) := Ab HBw3.out 3
  by_cases h8 : p.rules.length = 8
  ·have b8 : ((p.rules.length : Int) == 8) = true := beq_iff_eq.2 (by omega)
   have HQ3 := Lib.hid (show ruleE p 0 rest = 801 by rw [HQ2.out, decide_eq_false (show ¬ (p.rules.length : Int) < 8 by omega)]; rfl)
   clear h8
   go_wp2_with (fail)
   go_ret
   rw [HQ3.out]
   exact ⟨rfl, HB3.out.mono hbw, fun h0 => absurd h0 (by decide)⟩
  have b8 : ((p.rules.length : Int) == 8) = false := beq_false_of_ne (by omega)
  have HQ3 := Lib.hid (show ruleE p 0 rest = 0 by rw [HQ2.out, decide_eq_true (show (p.rules.length : Int) < 8 by omega)]; rfl)
  obtain ⟨L, hL⟩ : ∃ q, p.rules ++ [(⟨x, ⟨#[]⟩, ⟨#[]⟩, false, false⟩ : S116)] = q := ⟨_, rfl⟩
  have HLN := Aa.mk (show L.length = p.rules.length + 1 by rw [← hL]; simp)
  have HL := Lib.hid hL
  clear h8 HQ2 hL
  go_upto_region 11 with (fail)
  refine sX 14 (S := fun w' => w'.cell? ⟨B, 3, none⟩ = some (.slice AR p.rules.length cR) ∧ w'.cell? ⟨gW, 0, none⟩ = some (.string x)) (ds := [13]) ⟨Ab HBw3.out 3, y3⟩ (fun hHeld => ?_)
  have hb := (Below.refl w3.heap.size w3).drew
  have HRd := Aa.mk (D8 HRw3.out hb)
  have HBwd := Aa.mk (Aj HBw3.out hb)
  have HBd := Aa.mk (HB3.out.drew)
  have HWd := Aa.mk (Kd.Bj HRW.out (hb3W.trans (hb.mono hb3W.size)))
  clear hb hb3W HRw3 HBw3 HB3 HRW y3
  generalize w3.drew = wx at HRd HBwd HBd HWd hHeld ⊢
  have YX := Aa.mk hHeld.2
  refine pX 0 87 ?_
  refine pX 1 88 ?_
  refine pX 2 89 ?_
  refine pX 3 90 ?_
  refine pX 5 92 ?_
  refine pX 6 93 ?_
  refine tX 4 91 hHeld ?_
  refine tX 7 94 hHeld ?_
  refine pX 8 95 ?_
  refine oX 9 (some 96) (fun K hK => ?_)
  refine vX ?_
  refine hK.out _ _ ⟨Ab (Cw HBwd.out _) 3, Be ((Below.refl _ _).alloc (Nat.le_refl _) _) YX.out⟩ (fun hHeld => ?_)
  clear hK K
  refine nX ?_
  refine oX 10 (some 97) (fun K hK => ?_)
  refine R_append_told kq (w0 := w) base (by rfl) (.tmp 91) (.tmp 96) 64 95 (.agg #[.string ⟨#[]⟩, .string ⟨#[]⟩, .bool false, .string ⟨#[]⟩, .slice none 0 0]) 80 rfl und64 infoQ rfl (by decide) (by omega) (.slice AR p.rules.length cR) p.rules ⟨x, ⟨#[]⟩, ⟨#[]⟩, false, false⟩ _ (fun _ => True) (fun _ => False) rfl rfl (kq_mkM _ _ _ ⟨x, ⟨#[]⟩, ⟨#[]⟩, false, false⟩ none 0 0) (fun _ hk => hk.elim) (fun _ _ => trivial) HRd.out.2.2.2.1 (HBd.out.mono hbw) (Nat.le_trans hbw HBd.out.size) (by omega) ?_
  intro v5 w5 ho5 hb5 hg5 ht5
  rw [HL.out] at ho5
  obtain ⟨g5, c5, rfl, -, -, hcs5⟩ := Kd.Gy ho5 (by have := HLN.out; omega)
  have HT5 := Aa.mk (ht5 g5 rfl 4 (.slice none 0 0) rfl)
  clear ht5
  have HP5 := Aa.mk (show Rb w5 B vE (.slice AP p.pools.length cP) vD (.slice AR p.rules.length cR) vO 0 v6 nm v8 v9 v10 v11 from Dw HBwd.out HRd.out.2.2.2.1 hg5 (by decide))
  have HR5 := Aa.mk (show Ha w5 base { p with rules := L } vE (.slice AP p.pools.length cP) vD (.slice (some ⟨g5, 0, none⟩) L.length c5) vO ok from ⟨Dd HRd.out.1 HRd.out.2.2.2.1 hg5 (by decide), Dd HRd.out.2.1 HRd.out.2.2.2.1 hg5 (by decide), Dd HRd.out.2.2.1 HRd.out.2.2.2.1 hg5 (by decide), ho5, Dd HRd.out.2.2.2.2 HRd.out.2.2.2.1 hg5 (by decide)⟩)
  have yy5 : w5.cell? ⟨gW, 0, none⟩ = some (.string x) := by obtain ⟨cs, hcs⟩ := Da HWd.out (k := gW) rfl; have hcs5 := Dw hcs HRd.out.2.2.2.1 hg5 (by decide); rw [Ab hcs5, ← Ab hcs]; exact YX.out
  have hgB : g5 ≠ B := by obtain ⟨cs5, hcs5⟩ := hcs5; exact fun q => Du hcs5 HP5.out (by decide) q
  have HB5 := Aa.mk hb5
  have hfr5 := As HP5.out 3
  clear ho5 hb5 hg5 hcs5 HRd HBd HBwd HWd
  refine hK.out _ _ ⟨Ab HP5.out 3, yy5⟩ (fun hHeld => ?_)
  clear hK K
  refine nX ?_
  refine pX 11 98 ?_
  refine pX 12 99 ?_
  refine lX 13 none (fun K hK => ?_)
  refine kX ?_
  refine hK.out _ _ ?_
  clear hK K
  refine dX ?_
  have HP6 := Aa.mk (show Rb (w5.setCell ⟨B, 3, none⟩ (.slice (some ⟨g5, 0, none⟩) L.length c5)) B vE (.slice AP p.pools.length cP) vD (.slice (some ⟨g5, 0, none⟩) L.length c5) vO 0 v6 nm v8 v9 v10 v11 from Az HP5.out 3 _ rfl)
  have HR6 := Aa.mk (Hi HR5.out HP5.out 3 (.slice (some ⟨g5, 0, none⟩) L.length c5))
  have HB6 := Aa.mk (HB5.out.setCell (p := ⟨B, 3, none⟩) hbB (.slice (some ⟨g5, 0, none⟩) L.length c5))
  have HT6 := Aa.mk ((World.cell?_setCell_far _ ⟨B, 3, none⟩ _ (.slice (some ⟨g5, 0, none⟩) L.length c5) (fun q => hgB q.symm)).trans HT5.out)
  generalize w5.setCell ⟨B, 3, none⟩ (.slice (some ⟨g5, 0, none⟩) L.length c5) = w6 at HP6 HR6 HB6 HT6 ⊢
  clear HP5 HR5 HB5 YX yy5 hfr5
  have d5 : w6.cell? ⟨B, 5, none⟩ = some (.int .i64 0) := Ab HP6.out 5
  have f5 := As HP6.out 5
  go_wp2_with (fail)
  go_ret
  rw [HQ3.out, HXX.out, HL.out]
  refine ⟨rfl, HB6.out.setCell (p := ⟨B, 5, none⟩) hbB _, fun _ => ⟨_, _, _, _, _, 1, _, _, _, _, _, _, ok, hbB, Az HP6.out 5 _ rfl, Hi HR6.out HP6.out 5 _, HS.out, rfl, by show 1 ≤ L.length; have := HLN.out; omega, g5, c5, .slice none 0 0, [], rfl, ?_, Kd.Di _ _ _ _ _, ?_, fun k _ q => by simp [Value.ownBlock] at q⟩⟩
  ·refine (World.cell?_setCell_far _ ⟨B, 5, none⟩ _ _ (fun q => hgB q.symm)).trans ?_
   have q := HT6.out
   rw [show p.rules.length = L.length - 1 by have := HLN.out; omega] at q
   exact q
  ·show Ir [] (Cy L)
   rw [← HL.out, lastR_app]
   exact seen_nil x
theorem flat24_pool (base B : Nat) (p : Pst) (t : ByteArray) (ht : t.size ≤ 1048576) (w : World) (h : RSt w base B p .none) (hlen : p.pools.length ≤ 4) (hw : (cutC 32 t).1.toList = [112, 111, 111, 108]) :
 Calls Tryz.prog 24 #[.pointer (some ⟨B, 0, none⟩), .string t] w fun x w' => x = .returned (.int .i64 (poolE p 0 (cutC 32 t).2.1)) ∧ Below base w w' ∧ (poolE p 0 (cutC 32 t).2.1 = 0 → RSt w' base B { p with pools := p.pools ++ [⟨(oneW 0 (cutC 32 t).2.1).1, 0⟩] } .pool) := by
 obtain ⟨vE, vP, vD, vR, vO, op, v6, nm, v8, v9, v10, v11, ok, hbB, hb, hR, hS, ho⟩ := h
 obtain rfl : op = 0 := ho
 have hbw : base ≤ w.heap.size := Nat.le_trans hbB (Nat.le_of_lt (Cq hb))
 have H56 := Lib.hid (r56 t ht w)
 have hsz := (Hl 32 t).2
 obtain ⟨rest, hrest⟩ : ∃ q, (cutC 32 t).2.1 = q := ⟨_, rfl⟩
 obtain ⟨wd, hwd⟩ : ∃ q, (cutC 32 t).1 = q := ⟨_, rfl⟩
 rw [hrest, hwd] at H56
 rw [hrest] at hsz ⊢
 rw [hwd] at hw
 have H57 := fun W => Lib.hid (r57 rest (Nat.le_trans hsz ht) W)
 have hws := Ed rest (Nat.le_trans hsz ht)
 have hwb : (wd.toList == [112, 111, 111, 108]) = true := beq_iff_eq.2 hw
 have hwp : (wd.toList == [114, 117, 108, 101]) = false := by rw [hw]; decide
 obtain ⟨AR, cR, rfl⟩ := Kd.Bd hR.2.2.2.1
 obtain ⟨AP, cP, rfl⟩ := Kd.Bd hR.2.1
 have HB := Aa.mk hb
 have HR := Aa.mk hR
 have HS := Aa.mk hS
 have H1W := Lib.hid (fun x (e : Cj rest = [x]) => pool_one (p := p) e)
 have HMW := Lib.hid (pool_many (p := p) (s := rest))
 have HON := Lib.hid (fun x (e : Cj rest = [x]) => oneW_one e)
 have HWS := Aa.mk hws
 obtain ⟨ws, hwse⟩ : ∃ q, Cj rest = q := ⟨_, rfl⟩
 simp only [hwse] at H57
 replace H57 := Lib.hid H57
 have HWE := Lib.hid hwse
 clear hb hR hS hws hwse hrest hwd hw
 go_enter Tryz.func24, Tryz.ntmps24
 go_upto_region 6 with (first | (go_at_call 56; refine H56.out.mono ?_; rintro x w1 ⟨rfl, hb1⟩; have HB1 := Aa.mk hb1; clear hb1) | (go_at_call 57; refine (H57.out _).out.mono ?_; rintro x w2 ⟨vW, rfl, hrW, hb2⟩; obtain ⟨AW, cW, rfl⟩ := Kd.Bd hrW; have HB2 := Aa.mk (HB1.out.trans (hb2.mono HB1.out.size)); have HRW := Aa.mk hrW; clear hrW hb2))
 have HBw2 := Aa.mk (Aj HB.out HB2.out)
 have HRw2 := Aa.mk (D8 HR.out HB2.out)
 have c1 : w2.cell? ⟨B, 1, none⟩ = some (.slice AP p.pools.length cP) := Ab HBw2.out 1
 have hmW := Hb (Kd.R_reads' HRW.out).2.2
 by_cases hl : ws.length = 1
 case neg =>
  have b1 : ((ws.length : Int) != 1) = true := bne_iff_ne.2 (by omega)
  go_quiet (fail)
  go_wp2_with (fail)
  go_ret
  rw [HMW.out (by rw [HWE.out]; exact hl)]
  exact ⟨rfl, (below_drewN HB2.out _).mono hbw, fun h0 => absurd h0 (by decide)⟩
 obtain ⟨x, rfl⟩ := one_of_len hl
 have hx := HWS.out.1 x (by rw [HWE.out]; exact List.mem_singleton.2 rfl)
 have HQ := Lib.hid (H1W.out x HWE.out)
 have HX := Lib.hid (HON.out x HWE.out)
 obtain ⟨gW, cW2, hv, -, -, -⟩ := Kd.Gy HRW.out (by simp)
 injection hv with q1 q2 q3
 subst q1
 subst q3
 clear q2
 have y0 : w2.cell? ⟨gW, 0, none⟩ = some (.string x) := by
  obtain ⟨ad, ha, f0⟩ := Kd.Ct (Kd.R_reads' HRW.out).2.2 0 (by omega) (by simp)
  injection ha with ha
  subst ha
  exact f0
 have H31 := Lib.hid (fun n => q_of (w := w2) (n := n) (q31 x hx))
 have hf1 : ∀ n, Calls Tryz.prog 32 #[.slice AP p.pools.length cP, .string x] (w2.drewN n) fun e w'' => e = .returned (.int .i64 (idxP (fun y : S44 => y.f0.toList == x.toList) p.pools)) ∧ ∃ m, w'' = w2.drewN m := fun n => Calls.quiet_of ((q32 p.pools (by omega) x AP cP _ (Kd.R_reads' (Kd.Bj HRw2.out.2.1 (Ch.mk ⟨n, rfl⟩ : Ch w2 (w2.drewN n)).below)).2.2 (Kd.R_reads' HRw2.out.2.1).2.1).mono (fun e w' q => ⟨q.1, q.2.out⟩))
 obtain ⟨I, hI⟩ : ∃ q, idxP (fun y : S44 => y.f0.toList == x.toList) p.pools = q := ⟨_, rfl⟩
 simp only [hI] at hf1
 rw [hI] at HQ
 have HF := Lib.hid hf1
 clear hf1 hI hl H57 H1W HMW HON hmW
 cases hnm : Ce x with
 | false =>
  rw [hnm] at HQ
  have HQ2 := Lib.hid (HQ.out.trans (by rfl : _ = (800 : Int)))
  simp only [hnm] at H31
  go_quiet (first | (go_at_call 31; exact H31.out _))
  go_wp2_with (fail)
  go_ret
  rw [HQ2.out]
  exact ⟨rfl, (below_drewN HB2.out _).mono hbw, fun h0 => absurd h0 (by decide)⟩
 | true =>
  rw [hnm] at HQ
  have HXX := Lib.hid (HX.out hnm)
  simp only [hnm] at H31
  clear hnm HX
  by_cases h0 : 0 ≤ I
  ·have b5 : decide (0 ≤ I) = true := decide_eq_true h0
   have HQ2 := Lib.hid (show poolE p 0 rest = 800 by rw [HQ.out, decide_eq_false (show ¬ I < 0 by omega)]; rfl)
   clear h0
   go_quiet (first | (go_at_call 31; exact H31.out _) | (go_at_call 32; exact HF.out _))
   go_wp2_with (fail)
   go_ret
   rw [HQ2.out]
   exact ⟨rfl, (below_drewN HB2.out _).mono hbw, fun h0 => absurd h0 (by decide)⟩
  have b5 : decide (0 ≤ I) = false := decide_eq_false h0
  have HQ2 := Lib.hid (show poolE p 0 rest = if decide ((p.pools.length : Int) < 4) = true then 0 else 801 by rw [HQ.out, decide_eq_true (show I < 0 by omega)]; rfl)
  clear h0 HQ
  go_quiet (first | (go_at_call 31; exact H31.out _) | (go_at_call 32; exact HF.out _))
  have HB3 := Aa.mk (below_drewN HB2.out nq)
  have HBw3 := Aa.mk (blk_drewN HBw2.out nq)
  have HRw3 := Aa.mk (D8 HRw2.out (Ch.mk ⟨nq, rfl⟩ : Ch w2 (w2.drewN nq)).below)
  have y3 := Be (Ch.mk ⟨nq, rfl⟩ : Ch w2 (w2.drewN nq)).below y0
  have hb3W := (Ch.mk ⟨nq, rfl⟩ : Ch w2 (w2.drewN nq)).below
  clear y0 c1 HF H31 b5 HBw2 HRw2
  generalize w2.drewN nq = w3 at HB3 HBw3 HRw3 y3 hb3W ⊢
  have c1 : w3.cell? ⟨B, 1, none⟩ = some (.slice AP p.pools.length cP) := Ab HBw3.out 1
  by_cases h8 : p.pools.length = 4
  ·have b8 : ((p.pools.length : Int) == 4) = true := beq_iff_eq.2 (by omega)
   have HQ3 := Lib.hid (show poolE p 0 rest = 801 by rw [HQ2.out, decide_eq_false (show ¬ (p.pools.length : Int) < 4 by omega)]; rfl)
   clear h8
   go_wp2_with (fail)
   go_ret
   rw [HQ3.out]
   exact ⟨rfl, HB3.out.mono hbw, fun h0 => absurd h0 (by decide)⟩
  have b8 : ((p.pools.length : Int) == 4) = false := beq_false_of_ne (by omega)
  have HQ3 := Lib.hid (show poolE p 0 rest = 0 by rw [HQ2.out, decide_eq_true (show (p.pools.length : Int) < 4 by omega)]; rfl)
  obtain ⟨L, hL⟩ : ∃ q, p.pools ++ [(⟨x, 0⟩ : S44)] = q := ⟨_, rfl⟩
  have HLN := Aa.mk (show L.length = p.pools.length + 1 by rw [← hL]; simp)
  have HL := Lib.hid hL
  clear h8 HQ2 hL
  go_upto_region 13 with (fail)
  refine sX 16 (S := fun w' => w'.cell? ⟨B, 1, none⟩ = some (.slice AP p.pools.length cP) ∧ w'.cell? ⟨gW, 0, none⟩ = some (.string x)) (ds := [15]) ⟨Ab HBw3.out 1, y3⟩ (fun hHeld => ?_)
  have hb := (Below.refl w3.heap.size w3).drew
  have HRd := Aa.mk (D8 HRw3.out hb)
  have HBwd := Aa.mk (Aj HBw3.out hb)
  have HBd := Aa.mk (HB3.out.drew)
  have HWd := Aa.mk (Kd.Bj HRW.out (hb3W.trans (hb.mono hb3W.size)))
  clear hb hb3W HRw3 HBw3 HB3 HRW y3
  generalize w3.drew = wx at HRd HBwd HBd HWd hHeld ⊢
  have YX := Aa.mk hHeld.2
  refine pX 0 103 ?_
  refine pX 1 104 ?_
  refine pX 2 105 ?_
  refine pX 3 106 ?_
  refine pX 4 107 ?_
  refine pX 6 109 ?_
  refine pX 7 110 ?_
  refine tX 5 108 hHeld ?_
  refine tX 8 111 hHeld ?_
  refine pX 9 112 ?_
  refine oX 10 (some 113) (fun K hK => ?_)
  refine vX ?_
  refine hK.out _ _ ⟨Ab (Cw HBwd.out _) 1, Be ((Below.refl _ _).alloc (Nat.le_refl _) _) YX.out⟩ (fun hHeld => ?_)
  clear hK K
  refine nX ?_
  refine oX 11 (some 114) (fun K hK => ?_)
  refine Kd.Hp k44 (w0 := w) base (by rfl) (.tmp 108) (.tmp 113) 23 44 (.agg #[.string ⟨#[]⟩, .int .i64 0]) 24 rfl Tryz.underlying23 infoD44 rfl (by decide) (by omega) (.slice AP p.pools.length cP) p.pools ⟨x, 0⟩ _ (fun _ => True) (fun _ => False) rfl rfl (k44_mkM _ _ _ (⟨x, 0⟩ : S44)) (fun _ hk => hk.elim) (fun _ _ => trivial) HRd.out.2.1 (HBd.out.mono hbw) (Nat.le_trans hbw HBd.out.size) (by omega) ?_
  intro v5 w5 ho5 hb5 hg5 ht5
  rw [HL.out] at ho5
  obtain ⟨g5, c5, rfl, -, -, hcs5⟩ := Kd.Gy ho5 (by have := HLN.out; omega)
  clear ht5
  have HP5 := Aa.mk (show Rb w5 B vE (.slice AP p.pools.length cP) vD (.slice AR p.rules.length cR) vO 0 v6 nm v8 v9 v10 v11 from Dw HBwd.out HRd.out.2.1 hg5 (by decide))
  have HR5 := Aa.mk (show Ha w5 base { p with pools := L } vE (.slice (some ⟨g5, 0, none⟩) L.length c5) vD (.slice AR p.rules.length cR) vO ok from ⟨Dd HRd.out.1 HRd.out.2.1 hg5 (by decide), ho5, Dd HRd.out.2.2.1 HRd.out.2.1 hg5 (by decide), Dd HRd.out.2.2.2.1 HRd.out.2.1 hg5 (by decide), Dd HRd.out.2.2.2.2 HRd.out.2.1 hg5 (by decide)⟩)
  have yy5 : w5.cell? ⟨gW, 0, none⟩ = some (.string x) := by obtain ⟨cs, hcs⟩ := Da HWd.out (k := gW) rfl; have hcs5 := Dw hcs HRd.out.2.1 hg5 (by decide); rw [Ab hcs5, ← Ab hcs]; exact YX.out
  have hgB : g5 ≠ B := by obtain ⟨cs5, hcs5⟩ := hcs5; exact fun q => Du hcs5 HP5.out (by decide) q
  have HB5 := Aa.mk hb5
  have hfr5 := As HP5.out 1
  clear ho5 hb5 hg5 hcs5 HRd HBd HBwd HWd
  refine hK.out _ _ ⟨Ab HP5.out 1, yy5⟩ (fun hHeld => ?_)
  clear hK K
  refine nX ?_
  refine pX 12 115 ?_
  refine pX 13 116 ?_
  refine pX 14 117 ?_
  refine lX 15 none (fun K hK => ?_)
  refine kX ?_
  refine hK.out _ _ ?_
  clear hK K
  refine dX ?_
  have HP6 := Aa.mk (show Rb (w5.setCell ⟨B, 1, none⟩ (.slice (some ⟨g5, 0, none⟩) L.length c5)) B vE (.slice (some ⟨g5, 0, none⟩) L.length c5) vD (.slice AR p.rules.length cR) vO 0 v6 nm v8 v9 v10 v11 from Az HP5.out 1 _ rfl)
  have HR6 := Aa.mk (Hi HR5.out HP5.out 1 (.slice (some ⟨g5, 0, none⟩) L.length c5))
  have HB6 := Aa.mk (HB5.out.setCell (p := ⟨B, 1, none⟩) hbB (.slice (some ⟨g5, 0, none⟩) L.length c5))
  generalize w5.setCell ⟨B, 1, none⟩ (.slice (some ⟨g5, 0, none⟩) L.length c5) = w6 at HP6 HR6 HB6 ⊢
  clear HP5 HR5 HB5 YX yy5 hfr5
  have d5 : w6.cell? ⟨B, 5, none⟩ = some (.int .i64 0) := Ab HP6.out 5
  have f5 := As HP6.out 5
  go_wp2_with (fail)
  go_ret
  rw [HQ3.out, HXX.out, HL.out]
  exact ⟨rfl, HB6.out.setCell (p := ⟨B, 5, none⟩) hbB _, fun _ => ⟨_, _, _, _, _, 2, _, _, _, _, _, _, ok, hbB, Az HP6.out 5 _ rfl, Hi HR6.out HP6.out 5 _, HS.out, rfl, by show 1 ≤ L.length; have := HLN.out; omega, g5, c5, rfl⟩⟩
end Go.Proofs.YtefheailchihaaaGreatDoor.Print
end
section
namespace Go.Proofs.YtefheailchihaaaGreatDoor.Print
open Go.RowKit Go.Lib Go.Shelf Go.Proofs.YtefheailchihaaaGreatDoorW.PrintWords Go.Proofs.YtefheailchihaaaGreatDoorW.PrintLast Go.Proofs.YtefheailchihaaaGreatDoorW.PrintMore
theorem deep_rule_bad (p : Pst) (t : ByteArray) (h : (Bt t).2.2 = false) : (B7 p .rule t).2.2 = 800 := by
 have e : B9 (B9 0 (isOpen .rule)) (Bt t).2.2 = 800 := by rw [h]; decide
 unfold B7
 rw [if_neg (by rw [e]; decide)]
 exact e
theorem deep_rule_ok (p : Pst) (t : ByteArray) (h : (Bt t).2.2 = true) : B7 p .rule t = (ruleD p (Bt t).1 (Bt t).2.1, .rule, ruleDE p 0 (Bt t).1 (Bt t).2.1) := by
 unfold B7
 rw [if_pos (by rw [h]; decide)]
 rfl
theorem firstFrom_none {α : Type} (f : α → Bool) : ∀ (l : List α) (k : Nat), (∀ x ∈ l, f x = false) → Dy f l k = -1
 | [], _, _ => rfl
 | x :: l, k, h => by
  unfold Dy
  rw [if_neg (by rw [h x (List.mem_cons_self ..)]; decide)]
  exact firstFrom_none f l (k + 1) (fun y hy => h y (List.mem_cons_of_mem _ hy))
theorem rule_shut {pools : List S44} {r : S116} {seen : List ByteArray} {k v : ByteArray} (hs : Ir seen r) (hpn : ∀ x ∈ pools, x.f0.toList ≠ []) (h : (seen.any fun x => x.toList == k.toList) = true ∨ v.toList = []) : (Fl pools r k v).2 = false := by
 obtain ⟨hall, h1, h2, h3, -⟩ := hs
 unfold Fl
 split
 ·rename_i hk
  have hk := eq_of_beq hk
  rcases h with h | h
  ·rw [hk, h1] at h
   show (r.f1.toList.isEmpty && !v.toList.isEmpty) = false
   rw [(Bool.not_eq_true' _).mp h]
   rfl
  ·show (r.f1.toList.isEmpty && !v.toList.isEmpty) = false
   rw [h]
   exact Bool.and_false _
 ·split
  ·rename_i hk
   have hk := eq_of_beq hk
   rcases h with h | h
   ·rw [hk, h2] at h
    show (!r.f3 && v.toList == [49]) = false
    rw [h]
    rfl
   ·show (!r.f3 && v.toList == [49]) = false
    rw [h]
    exact Bool.and_false _
  ·split
   ·rename_i hk
    have hk := eq_of_beq hk
    rcases h with h | h
    ·rw [hk, h3] at h
     show (!r.f4 && decide (0 ≤ idxP (fun x : S44 => x.f0.toList == v.toList) pools)) = false
     rw [h]
     rfl
    ·show (!r.f4 && decide (0 ≤ idxP (fun x : S44 => x.f0.toList == v.toList) pools)) = false
     unfold idxP
     rw [firstFrom_none _ pools 0 (fun x hx => by rw [h]; exact beq_false_of_ne (hpn x hx))]
     exact Bool.and_false _
   ·rfl
theorem seen_cmd {pools : List S44} {r : S116} {seen : List ByteArray} {k v : ByteArray} (hs : Ir seen r) (h : (seen.any fun x => x.toList == k.toList) = false) (hk : k.toList = [99, 111, 109, 109, 97, 110, 100]) (hv : v.toList ≠ []) : Ir (seen ++ [k]) { r with f1 := v } ∧ Fl pools r k v = ({ r with f1 := v }, true) := by
 obtain ⟨hall, h1, h2, h3, h4⟩ := hs
 rw [hk, h1] at h
 have he : v.toList.isEmpty = false := by
  cases hq : v.toList with
  | nil => exact absurd hq hv
  | cons => rfl
 have hr : r.f1.toList.isEmpty = true := by
  cases hq : r.f1.toList.isEmpty with
  | true => rfl
  | false => rw [hq] at h; cases h
 refine ⟨⟨?_, ?_, ?_, ?_, ?_⟩, ?_⟩
 ·intro x hx
  rcases List.mem_append.1 hx with hx | hx
  ·exact hall x hx
  ·rw [List.mem_singleton.1 hx]; exact Or.inl hk
 ·rw [List.any_append]
  show ((seen.any _) || ((k.toList == _) || false)) = !v.toList.isEmpty
  rw [he, hk, beq_self_eq_true]
  simp
 ·rw [List.any_append, h2]
  show (r.f3 || ((k.toList == _) || false)) = r.f3
  rw [hk]
  simp
 ·rw [List.any_append, h3]
  show (r.f4 || ((k.toList == _) || false)) = r.f4
  rw [hk]
  simp
 ·rw [List.length_append, List.length_singleton]
  show _ ≤ (!v.toList.isEmpty).toNat + r.f3.toNat + r.f4.toNat
  rw [hr] at h4
  rw [he]
  simp only [Bool.not_true, Bool.not_false, Bool.toNat_true, Bool.toNat_false] at h4 ⊢
  omega
 ·unfold Fl
  rw [hk, hr, he]
  rfl
theorem seen_deps {pools : List S44} {r : S116} {seen : List ByteArray} {k v : ByteArray} (hs : Ir seen r) (h : (seen.any fun x => x.toList == k.toList) = false) (hk : k.toList = [100, 101, 112, 115]) (hv : v.toList = [49]) : Ir (seen ++ [k]) { r with f3 := true } ∧ Fl pools r k v = ({ r with f3 := true }, true) := by
 obtain ⟨hall, h1, h2, h3, h4⟩ := hs
 rw [hk, h2] at h
 refine ⟨⟨?_, ?_, ?_, ?_, ?_⟩, ?_⟩
 ·intro x hx
  rcases List.mem_append.1 hx with hx | hx
  ·exact hall x hx
  ·rw [List.mem_singleton.1 hx]; exact Or.inr (Or.inl hk)
 ·rw [List.any_append, h1]
  show (!r.f1.toList.isEmpty || ((k.toList == _) || false)) = !r.f1.toList.isEmpty
  rw [hk]
  simp
 ·rw [List.any_append]
  show ((seen.any _) || ((k.toList == _) || false)) = true
  rw [hk, beq_self_eq_true]
  simp
 ·rw [List.any_append, h3]
  show (r.f4 || ((k.toList == _) || false)) = r.f4
  rw [hk]
  simp
 ·rw [List.length_append, List.length_singleton]
  show _ ≤ (!r.f1.toList.isEmpty).toNat + true.toNat + r.f4.toNat
  rw [h] at h4
  simp only [Bool.toNat_true, Bool.toNat_false] at h4 ⊢
  omega
 ·unfold Fl
  rw [hk, h, hv]
  rfl
theorem seen_pool {pools : List S44} {r : S116} {seen : List ByteArray} {k v : ByteArray} (hs : Ir seen r) (h : (seen.any fun x => x.toList == k.toList) = false) (hk : k.toList = [112, 111, 111, 108]) (hv : 0 ≤ idxP (fun x : S44 => x.f0.toList == v.toList) pools) : Ir (seen ++ [k]) { r with f2 := v, f4 := true } ∧ Fl pools r k v = ({ r with f2 := v, f4 := true }, true) := by
 obtain ⟨hall, h1, h2, h3, h4⟩ := hs
 rw [hk, h3] at h
 refine ⟨⟨?_, ?_, ?_, ?_, ?_⟩, ?_⟩
 ·intro x hx
  rcases List.mem_append.1 hx with hx | hx
  ·exact hall x hx
  ·rw [List.mem_singleton.1 hx]; exact Or.inr (Or.inr hk)
 ·rw [List.any_append, h1]
  show (!r.f1.toList.isEmpty || ((k.toList == _) || false)) = !r.f1.toList.isEmpty
  rw [hk]
  simp
 ·rw [List.any_append, h2]
  show (r.f3 || ((k.toList == _) || false)) = r.f3
  rw [hk]
  simp
 ·rw [List.any_append]
  show ((seen.any _) || ((k.toList == _) || false)) = true
  rw [hk, beq_self_eq_true]
  simp
 ·rw [List.length_append, List.length_singleton]
  show _ ≤ (!r.f1.toList.isEmpty).toNat + r.f3.toNat + true.toNat
  rw [h] at h4
  simp only [Bool.toNat_true, Bool.toNat_false] at h4 ⊢
  omega
 ·unfold Fl
  rw [hk, h, decide_eq_true hv]
  rfl
theorem rule_else {pools : List S44} {r : S116} {k v : ByteArray} (h1 : k.toList ≠ [99, 111, 109, 109, 97, 110, 100]) (h2 : k.toList = [100, 101, 112, 115] → v.toList ≠ [49]) (h3 : k.toList = [112, 111, 111, 108] → ¬ 0 ≤ idxP (fun x : S44 => x.f0.toList == v.toList) pools) : (Fl pools r k v).2 = false := by
 unfold Fl
 rw [beq_false_of_ne h1, if_neg (by decide)]
 split
 ·rename_i hk
  show (!r.f3 && v.toList == [49]) = false
  rw [beq_false_of_ne (h2 (eq_of_beq hk)), Bool.and_false]
 ·split
  ·rename_i hk
   show (!r.f4 && decide (0 ≤ idxP (fun x : S44 => x.f0.toList == v.toList) pools)) = false
   rw [decide_eq_false (h3 (eq_of_beq hk)), Bool.and_false]
  ·rfl
end Go.Proofs.YtefheailchihaaaGreatDoor.Print
end
section
namespace Go.Proofs.YtefheailchihaaaGreatDoor.Print
open Go.RowKit Go.Lib Go.Shelf Go.Proofs.YtefheailchihaaaGreatDoorW.PrintWords Go.Proofs.YtefheailchihaaaGreatDoorW.PrintLast Go.Proofs.YtefheailchihaaaGreatDoorW.PrintMore
attribute [local go_sem ↓] Go.wp_at_zero Go.wp_at_succ
theorem RRows_keptB {w w1 : World} {base B : Nat} {p : Pst} {vE vP vD vR vO v6 v8 v9 v10 v11 : Value} {op : Int} {nm : ByteArray} {ok : Nat → Prop} (h : Ha w base p vE vP vD vR vO ok) (hb : Rb w B vE vP vD vR vO op v6 nm v8 v9 v10 v11) (hk : Kept w w1 (fun k => k = B)) : Ha w1 base p vE vP vD vR vO ok := by
 obtain ⟨h1, h2, h3, h4, h5⟩ := h
 exact ⟨Bf h1 hk (Dt hb (by decide)), Bf h2 hk (Dt hb (by decide)), Bf h3 hk (Dt hb (by decide)), Bf h4 hk (Dt hb (by decide)), Bf h5 hk (Dt hb (by decide))⟩
theorem deep22_build (base B : Nat) (p : Pst) (outs ins imp ord : List ByteArray) (r : S116) (own : List S174) (t : ByteArray) (ht : t.size ≤ 1048576) (w : World) (h : RSt w base B p (.build outs ins imp ord r own)) :
 Calls Tryz.prog 22 #[.pointer (some ⟨B, 0, none⟩), .string t] w fun x w' => x = .returned (.int .i64 (B7 p (.build outs ins imp ord r own) t).2.2) ∧ Below base w w' ∧ ((B7 p (.build outs ins imp ord r own) t).2.2 = 0 → RSt w' base B (B7 p (.build outs ins imp ord r own) t).1 (B7 p (.build outs ins imp ord r own) t).2.1) := by
 obtain ⟨vE, vP, vD, vR, vO, op, v6, nm, v8, v9, v10, v11, ok, hbB, hb, hR, hS, ho⟩ := h
 obtain ⟨rfl, h6, h8, h9, h10, h11, hS2, hidx, hrd⟩ := ho
 obtain ⟨hq1, hq2⟩ := rb_deep p outs ins imp ord r own t
 have hC := bind52_false base B vE vP vD vR vO v6 v8 v9 v10 v11 3 nm p.outer t w hbB hb hR.2.2.2.2 hS ht own h11 hS2
 have HRES := Aa.mk (show ∀ w', Kept w w' (fun k => k = B) → (rbE p.outer own t = 0 → ∃ v' : Value, Rb w' B vE vP vD vR vO 3 v6 nm v8 v9 v10 v' ∧ Kd.R k174 174 w' base (fun _ => True) v' (rbL p.outer own t)) → (B7 p (.build outs ins imp ord r own) t).2.2 = 0 → RSt w' base B (B7 p (.build outs ins imp ord r own) t).1 (B7 p (.build outs ins imp ord r own) t).2.1 from fun w' hk h0 he => by
  rw [hq1] at he
  obtain ⟨e1, e2⟩ := hq2 he
  obtain ⟨v', hb', hv'⟩ := h0 he
  rw [e1, e2]
  exact ⟨vE, vP, vD, vR, vO, 3, v6, nm, v8, v9, v10, v', ok, hbB, hb', RRows_keptB hR hb hk, hS, rfl, Bf h6 hk (Dt hb (by decide)), Bf h8 hk (Dt hb (by decide)), Bf h9 hk (Dt hb (by decide)), Bf h10 hk (Dt hb (by decide)), hv', smallS_put hS2 _ _, hidx, hrd⟩)
 have c5 : w.cell? ⟨B, 5, none⟩ = some (.int .i64 3) := Ab hb 5
 have HC := Lib.hid hC
 obtain ⟨E, hE⟩ : ∃ E, (B7 p (.build outs ins imp ord r own) t).2.2 = E := ⟨_, rfl⟩
 rw [hE] at hq1 HRES ⊢
 rw [← hq1] at HC HRES
 clear hC hq1 hq2 hE hR hb hS h6 h8 h9 h10 h11 hS2 hidx hrd
 go_enter Tryz.func22, Tryz.ntmps22
 go_wp2_with (first | (go_at_call 52; refine HC.out.mono ?_; rintro x w1 ⟨rfl, hb1, hk1, h01⟩; have HB1 := Aa.mk hb1; have HK1 := Aa.mk hk1; have H01 := Aa.mk h01; clear hb1 hk1 h01))
 go_ret
 exact ⟨rfl, HB1.out, HRES.out _ HK1.out H01.out⟩
theorem deep_none_E (p : Pst) (t : ByteArray) : (B7 p .none t).2.2 = 800 := by
 have e : B9 (B9 0 (isOpen .none)) (Bt t).2.2 = 800 := by
  show B9 800 _ = 800
  unfold B9
  rw [if_neg (fun h => absurd h.2 (by decide))]
 unfold B7
 rw [if_neg (by rw [e]; decide)]
 exact e
theorem deep22_none (base B : Nat) (p : Pst) (t : ByteArray) (ht : t.size ≤ 1048576) (w : World) (h : RSt w base B p .none) :
 Calls Tryz.prog 22 #[.pointer (some ⟨B, 0, none⟩), .string t] w fun x w' => x = .returned (.int .i64 (B7 p .none t).2.2) ∧ Below base w w' := by
 obtain ⟨vE, vP, vD, vR, vO, op, v6, nm, v8, v9, v10, v11, ok, hbB, hb, hR, hS, ho⟩ := h
 obtain rfl : op = 0 := ho
 rw [deep_none_E]
 have hbw : base ≤ w.heap.size := Nat.le_trans hbB (Nat.le_of_lt (Cq hb))
 have HB := Aa.mk hb
 have c5 : w.cell? ⟨B, 5, none⟩ = some (.int .i64 0) := Ab hb 5
 have H53 := Lib.hid (r53 t ht w)
 clear hR hb hS
 generalize (Gp t).1 = q1 at H53
 generalize (Gp t).2.1 = q2 at H53
 cases hq : (Gp t).2.2 with
 | false =>
  rw [hq] at H53
  clear hq
  go_enter Tryz.func22, Tryz.ntmps22
  go_wp2_with (first | (go_at_call 53; refine H53.out.mono ?_; rintro x w1 ⟨rfl, hb1⟩; have HB1 := Aa.mk hb1; have c6 : w1.cell? ⟨B, 5, none⟩ = some (.int .i64 0) := Be hb1 (Ab HB.out 5); clear hb1))
  go_ret
  exact ⟨rfl, HB1.out.mono hbw⟩
 | true =>
  rw [hq] at H53
  clear hq
  go_enter Tryz.func22, Tryz.ntmps22
  go_wp2_with (first | (go_at_call 53; refine H53.out.mono ?_; rintro x w1 ⟨rfl, hb1⟩; have HB1 := Aa.mk hb1; have c6 : w1.cell? ⟨B, 5, none⟩ = some (.int .i64 0) := Be hb1 (Ab HB.out 5); clear hb1))
  go_ret
  exact ⟨rfl, HB1.out.mono hbw⟩
theorem deep_pool_bad (p : Pst) (t : ByteArray) (h : (Bt t).2.2 = false) : (B7 p .pool t).2.2 = 800 := by
 have e : B9 (B9 0 (isOpen .pool)) (Bt t).2.2 = 800 := by rw [h]; decide
 unfold B7
 rw [if_neg (by rw [e]; decide)]
 exact e
theorem Gw (p : Pst) (t : ByteArray) (h : (Bt t).2.2 = true) : B7 p .pool t = (poolD p 0 (Bt t).1 (Bt t).2.1, .pool, poolDE p 0 (Bt t).1 (Bt t).2.1) := by
 unfold B7
 rw [if_pos (by rw [h]; decide)]
 rfl
theorem deep22_pool_bad (base B : Nat) (p : Pst) (t : ByteArray) (ht : t.size ≤ 1048576) (w : World) (h : RSt w base B p .pool) (hok : (Bt t).2.2 = false) :
 Calls Tryz.prog 22 #[.pointer (some ⟨B, 0, none⟩), .string t] w fun x w' => x = .returned (.int .i64 (B7 p .pool t).2.2) ∧ Below base w w' := by
 obtain ⟨vE, vP, vD, vR, vO, op, v6, nm, v8, v9, v10, v11, ok, hbB, hb, hR, hS, ho⟩ := h
 obtain ⟨rfl, _⟩ := ho
 rw [deep_pool_bad p t hok]
 have hbw : base ≤ w.heap.size := Nat.le_trans hbB (Nat.le_of_lt (Cq hb))
 have HB := Aa.mk hb
 have c5 : w.cell? ⟨B, 5, none⟩ = some (.int .i64 2) := Ab hb 5
 have H53 := Lib.hid (r53 t ht w)
 have hq : (Gp t).2.2 = false := by rw [bindQ_ok, hok]
 rw [hq] at H53
 clear hR hb hS hq hok
 generalize (Gp t).1 = q1 at H53
 generalize (Gp t).2.1 = q2 at H53
 go_enter Tryz.func22, Tryz.ntmps22
 go_wp2_with (first | (go_at_call 53; refine H53.out.mono ?_; rintro x w1 ⟨rfl, hb1⟩; have HB1 := Aa.mk hb1; have c6 : w1.cell? ⟨B, 5, none⟩ = some (.int .i64 2) := Be hb1 (Ab HB.out 5); clear hb1))
 go_ret
 exact ⟨rfl, HB1.out.mono hbw⟩
theorem deep22_pool_key (base B : Nat) (p : Pst) (t : ByteArray) (ht : t.size ≤ 1048576) (w : World) (h : RSt w base B p .pool) (hok : (Bt t).2.2 = true) (hkey : (Bt t).1.toList ≠ [100, 101, 112, 116, 104]) :
 Calls Tryz.prog 22 #[.pointer (some ⟨B, 0, none⟩), .string t] w fun x w' => x = .returned (.int .i64 (B7 p .pool t).2.2) ∧ Below base w w' := by
 obtain ⟨vE, vP, vD, vR, vO, op, v6, nm, v8, v9, v10, v11, ok, hbB, hb, hR, hS, ho⟩ := h
 obtain ⟨rfl, hn, g, c, rfl⟩ := ho
 have hE : (B7 p .pool t).2.2 = 800 := by
  rw [Gw p t hok]
  show B9 0 (Fz (C8 p.pools) (Bt t).1 (Bt t).2.1) = 800
  unfold Fz
  rw [beq_false_of_ne hkey]
  rfl
 rw [hE]
 have hbw : base ≤ w.heap.size := Nat.le_trans hbB (Nat.le_of_lt (Cq hb))
 have HB := Aa.mk hb
 have c5 : w.cell? ⟨B, 5, none⟩ = some (.int .i64 2) := Ab hb 5
 have H53 := Lib.hid (r53 t ht w)
 rw [Iq hok, hok] at H53
 have hk2 : ((Bt t).1.toList == [100, 101, 112, 116, 104]) = false := beq_eq_false_iff_ne.2 hkey
 have hk3 : ((Bt t).1.toList != [100, 101, 112, 116, 104]) = true := bne_iff_ne.2 hkey
 have hm := Hb (Kd.R_reads' hR.2.1).2.2
 clear hR hb hS hok hE
 generalize (Bt t).1 = key at *
 generalize (Bt t).2.1 = val at H53
 obtain ⟨n, hnn⟩ : ∃ n, p.pools.length = n := ⟨_, rfl⟩
 rw [hnn] at hn hm HB
 have hwn : wrap64 (((n : Nat) : Int) - 1) = ((n - 1 : Nat) : Int) := by unfold wrap64; omega
 clear hnn hkey
 go_enter Tryz.func22, Tryz.ntmps22
 go_wp2_with (first | (go_at_call 53; refine H53.out.mono ?_; rintro x w1 ⟨rfl, hb1⟩; have HB1 := Aa.mk hb1; have c6 : w1.cell? ⟨B, 5, none⟩ = some (.int .i64 2) := Be hb1 (Ab HB.out 5); have c7 : w1.cell? ⟨B, 1, none⟩ = some (.slice (some ⟨g, 0, none⟩) n c) := Be hb1 (Ab HB.out 1); clear hb1))
 go_ret
 exact ⟨rfl, HB1.out.mono hbw⟩
theorem deep22_pool_depth (base B : Nat) (p : Pst) (t : ByteArray) (ht : t.size ≤ 1048576) (w : World) (h : RSt w base B p .pool) (hok : (Bt t).2.2 = true) (hkey : (Bt t).1.toList = [100, 101, 112, 116, 104]) (hd : (C8 p.pools).f1 ≠ 0) :
 Calls Tryz.prog 22 #[.pointer (some ⟨B, 0, none⟩), .string t] w fun x w' => x = .returned (.int .i64 (B7 p .pool t).2.2) ∧ Below base w w' := by
 obtain ⟨vE, vP, vD, vR, vO, op, v6, nm, v8, v9, v10, v11, ok, hbB, hb, hR, hS, ho⟩ := h
 obtain ⟨rfl, hn, g, c, rfl⟩ := ho
 have hE : (B7 p .pool t).2.2 = 800 := by
  rw [Gw p t hok]
  show B9 0 (Fz (C8 p.pools) (Bt t).1 (Bt t).2.1) = 800
  unfold Fz
  rw [beq_false_of_ne hd, Bool.and_false, Bool.false_and, Bool.false_and, Bool.false_and]
  rfl
 rw [hE]
 have hbw : base ≤ w.heap.size := Nat.le_trans hbB (Nat.le_of_lt (Cq hb))
 have HB := Aa.mk hb
 have c5 : w.cell? ⟨B, 5, none⟩ = some (.int .i64 2) := Ab hb 5
 have H53 := Lib.hid (r53 t ht w)
 rw [Iq hok, hok] at H53
 have hk2 : ((Bt t).1.toList == [100, 101, 112, 116, 104]) = true := beq_iff_eq.2 hkey
 have hk3 : ((Bt t).1.toList != [100, 101, 112, 116, 104]) = false := bne_eq_false_iff_eq.2 hkey
 have hm := Hb (Kd.R_reads' hR.2.1).2.2
 obtain ⟨lc, _, _⟩ := G6 hR.2.1 hn
 have y0 := lc 1 _ rfl
 clear lc
 obtain ⟨r, hr⟩ : ∃ r, C8 p.pools = r := ⟨_, rfl⟩
 rw [hr] at y0 hd
 have HY := Aa.mk y0
 clear hR hb hS hok hE hr y0
 generalize (Bt t).1 = key at *
 generalize (Bt t).2.1 = val at *
 obtain ⟨n, hnn⟩ : ∃ n, p.pools.length = n := ⟨_, rfl⟩
 rw [hnn] at hn hm HB HY
 have hlt : n - 1 < n := by omega
 have hwn : wrap64 (((n : Nat) : Int) - 1) = ((n - 1 : Nat) : Int) := by unfold wrap64; omega
 clear hnn hkey
 have hx1 : (r.f1 == 0) = false := beq_eq_false_iff_ne.2 hd
 have hx2 : (r.f1 != 0) = true := bne_iff_ne.2 hd
 clear hd
 go_enter Tryz.func22, Tryz.ntmps22
 go_wp2_with (first | (go_at_call 53; refine H53.out.mono ?_; rintro x w1 ⟨rfl, hb1⟩; have HB1 := Aa.mk hb1; have c6 : w1.cell? ⟨B, 5, none⟩ = some (.int .i64 2) := Be hb1 (Ab HB.out 5); have c7 : w1.cell? ⟨B, 1, none⟩ = some (.slice (some ⟨g, 0, none⟩) n c) := Be hb1 (Ab HB.out 1); have c8 : w1.cell? ⟨g, (n - 1) * 2 + 1, none⟩ = some (.int .i64 r.f1) := Be hb1 HY.out; clear hb1))
 go_ret
 exact ⟨rfl, HB1.out.mono hbw⟩
theorem deep22_pool_size (base B : Nat) (p : Pst) (t : ByteArray) (ht : t.size ≤ 1048576) (w : World) (h : RSt w base B p .pool) (hok : (Bt t).2.2 = true) (hkey : (Bt t).1.toList = [100, 101, 112, 116, 104]) (hd : (C8 p.pools).f1 = 0) (hsz : (Bt t).2.1.size ≠ 1) :
 Calls Tryz.prog 22 #[.pointer (some ⟨B, 0, none⟩), .string t] w fun x w' => x = .returned (.int .i64 (B7 p .pool t).2.2) ∧ Below base w w' := by
 obtain ⟨vE, vP, vD, vR, vO, op, v6, nm, v8, v9, v10, v11, ok, hbB, hb, hR, hS, ho⟩ := h
 obtain ⟨rfl, hn, g, c, rfl⟩ := ho
 have hE : (B7 p .pool t).2.2 = 800 := by
  rw [Gw p t hok]
  show B9 0 (Fz (C8 p.pools) (Bt t).1 (Bt t).2.1) = 800
  unfold Fz
  rw [show (((Bt t).2.1.size : Int) == 1) = false from beq_eq_false_iff_ne.2 (by omega), Bool.and_false, Bool.false_and, Bool.false_and]
  rfl
 rw [hE]
 have hbw : base ≤ w.heap.size := Nat.le_trans hbB (Nat.le_of_lt (Cq hb))
 have HB := Aa.mk hb
 have c5 : w.cell? ⟨B, 5, none⟩ = some (.int .i64 2) := Ab hb 5
 have H53 := Lib.hid (r53 t ht w)
 rw [Iq hok, hok] at H53
 have hk2 : ((Bt t).1.toList == [100, 101, 112, 116, 104]) = true := beq_iff_eq.2 hkey
 have hk3 : ((Bt t).1.toList != [100, 101, 112, 116, 104]) = false := bne_eq_false_iff_eq.2 hkey
 have hm := Hb (Kd.R_reads' hR.2.1).2.2
 obtain ⟨lc, _, _⟩ := G6 hR.2.1 hn
 have y0 := lc 1 _ rfl
 clear lc
 obtain ⟨r, hr⟩ : ∃ r, C8 p.pools = r := ⟨_, rfl⟩
 rw [hr] at y0 hd
 have HY := Aa.mk y0
 clear hR hb hS hok hE hr y0
 generalize (Bt t).1 = key at *
 generalize (Bt t).2.1 = val at *
 obtain ⟨n, hnn⟩ : ∃ n, p.pools.length = n := ⟨_, rfl⟩
 rw [hnn] at hn hm HB HY
 have hlt : n - 1 < n := by omega
 have hwn : wrap64 (((n : Nat) : Int) - 1) = ((n - 1 : Nat) : Int) := by unfold wrap64; omega
 clear hnn hkey
 have hx1 : (r.f1 == 0) = true := beq_iff_eq.2 hd
 have hx2 : (r.f1 != 0) = false := bne_eq_false_iff_eq.2 hd
 have hz1 : (((val.size : Nat) : Int) == 1) = false := beq_eq_false_iff_ne.2 (by omega)
 have hz2 : (((val.size : Nat) : Int) != 1) = true := bne_iff_ne.2 (by omega)
 clear hd hsz
 go_enter Tryz.func22, Tryz.ntmps22
 go_wp2_with (first | (go_at_call 53; refine H53.out.mono ?_; rintro x w1 ⟨rfl, hb1⟩; have HB1 := Aa.mk hb1; have c6 : w1.cell? ⟨B, 5, none⟩ = some (.int .i64 2) := Be hb1 (Ab HB.out 5); have c7 : w1.cell? ⟨B, 1, none⟩ = some (.slice (some ⟨g, 0, none⟩) n c) := Be hb1 (Ab HB.out 1); have c8 : w1.cell? ⟨g, (n - 1) * 2 + 1, none⟩ = some (.int .i64 r.f1) := Be hb1 HY.out; clear hb1))
 go_ret
 exact ⟨rfl, HB1.out.mono hbw⟩
theorem byte_facts : ∀ n : Fin 256, Op.bytesLess [UInt8.ofNat n.val] [49] = decide (n.val < 49) ∧ (Op.bytesLess [UInt8.ofNat n.val] [56] || ([UInt8.ofNat n.val] == [56])) = decide (n.val ≤ 56) := by decide +kernel
theorem val_list {val : ByteArray} (h : val.size = 1) : val.toList = [val[0]'(by omega)] := by
 have h4 := E5 val 0 (by omega)
 rw [List.drop_zero, drop_end val 1 (by omega)] at h4
 rw [Lib.toList_data, h4]
theorem pool_byte {x : S44} {key val : ByteArray} (hk : key.toList = [100, 101, 112, 116, 104]) (hx : x.f1 = 0) (h : val.size = 1) : Fz x key val = (decide (49 ≤ bt val 0) && decide (bt val 0 ≤ 56)) := by
 have hbt : bt val 0 = ((val[0]'(by omega)).toNat : Int) := Ga val 0 (by omega)
 rw [hbt]
 unfold Fz
 have hb := byte_facts ⟨(val[0]'(by omega)).toNat, (val[0]'(by omega)).toNat_lt⟩
 simp only [UInt8.ofNat_toNat] at hb
 have hb1 : Op.bytesLess [val[0]'(by omega)] [49] = decide ((val[0]'(by omega)).toNat < 49) := hb.1
 have hb2 : (Op.bytesLess [val[0]'(by omega)] [56] || ([val[0]'(by omega)] == [56])) = decide ((val[0]'(by omega)).toNat ≤ 56) := hb.2
 rw [hk, hx, val_list h, hb1, hb2, show ((val.size : Int) == 1) = true from beq_iff_eq.2 (by omega)]
 have e1 : (!decide ((val[0]'(by omega)).toNat < 49)) = decide ((49 : Int) ≤ ((val[0]'(by omega)).toNat : Int)) := by
  by_cases q : (val[0]'(by omega)).toNat < 49
  ·rw [decide_eq_true q, decide_eq_false (by omega)]; rfl
  ·rw [decide_eq_false q, decide_eq_true (by omega)]; rfl
 have e2 : decide ((val[0]'(by omega)).toNat ≤ 56) = decide (((val[0]'(by omega)).toNat : Int) ≤ 56) := decide_eq_decide.2 (by omega)
 rw [e1, e2]
 rfl
theorem deep22_pool_low (base B : Nat) (p : Pst) (t : ByteArray) (ht : t.size ≤ 1048576) (w : World) (h : RSt w base B p .pool) (hok : (Bt t).2.2 = true) (hkey : (Bt t).1.toList = [100, 101, 112, 116, 104]) (hd : (C8 p.pools).f1 = 0) (hsz : (Bt t).2.1.size = 1) (hv : bt (Bt t).2.1 0 < 49) :
 Calls Tryz.prog 22 #[.pointer (some ⟨B, 0, none⟩), .string t] w fun x w' => x = .returned (.int .i64 (B7 p .pool t).2.2) ∧ Below base w w' := by
 obtain ⟨vE, vP, vD, vR, vO, op, v6, nm, v8, v9, v10, v11, ok, hbB, hb, hR, hS, ho⟩ := h
 obtain ⟨rfl, hn, g, c, rfl⟩ := ho
 have hE : (B7 p .pool t).2.2 = 800 := by
  rw [Gw p t hok]
  show B9 0 (Fz (C8 p.pools) (Bt t).1 (Bt t).2.1) = 800
  rw [pool_byte hkey hd hsz, decide_eq_false (show ¬ 49 ≤ bt (Bt t).2.1 0 by omega), Bool.false_and]
  rfl
 rw [hE]
 have hbw : base ≤ w.heap.size := Nat.le_trans hbB (Nat.le_of_lt (Cq hb))
 have HB := Aa.mk hb
 have c5 : w.cell? ⟨B, 5, none⟩ = some (.int .i64 2) := Ab hb 5
 have H53 := Lib.hid (r53 t ht w)
 rw [Iq hok, hok] at H53
 have hk2 : ((Bt t).1.toList == [100, 101, 112, 116, 104]) = true := beq_iff_eq.2 hkey
 have hk3 : ((Bt t).1.toList != [100, 101, 112, 116, 104]) = false := bne_eq_false_iff_eq.2 hkey
 have hm := Hb (Kd.R_reads' hR.2.1).2.2
 obtain ⟨lc, _, _⟩ := G6 hR.2.1 hn
 have y0 := lc 1 _ rfl
 clear lc
 obtain ⟨r, hr⟩ : ∃ r, C8 p.pools = r := ⟨_, rfl⟩
 rw [hr] at y0 hd
 have HY := Aa.mk y0
 clear hR hb hS hok hE hr y0
 generalize (Bt t).1 = key at *
 generalize (Bt t).2.1 = val at *
 obtain ⟨n, hnn⟩ : ∃ n, p.pools.length = n := ⟨_, rfl⟩
 rw [hnn] at hn hm HB HY
 have hlt : n - 1 < n := by omega
 have hwn : wrap64 (((n : Nat) : Int) - 1) = ((n - 1 : Nat) : Int) := by unfold wrap64; omega
 clear hnn hkey
 have hx1 : (r.f1 == 0) = true := beq_iff_eq.2 hd
 have hx2 : (r.f1 != 0) = false := bne_eq_false_iff_eq.2 hd
 have hz1 : (((val.size : Nat) : Int) == 1) = true := beq_iff_eq.2 (by omega)
 have hz2 : (((val.size : Nat) : Int) != 1) = false := bne_eq_false_iff_eq.2 (by omega)
 have hs1 : 0 < val.size := by omega
 have hs2 : (0 : Int) < ((val.size : Nat) : Int) := by omega
 have hv1 : (((val[0]'hs1).toNat : Nat) : Int) < 49 := by rw [← Ga val 0 hs1]; exact hv
 clear hd hsz hv
 go_enter Tryz.func22, Tryz.ntmps22
 go_wp2_with (first | (go_at_call 53; refine H53.out.mono ?_; rintro x w1 ⟨rfl, hb1⟩; have HB1 := Aa.mk hb1; have c6 : w1.cell? ⟨B, 5, none⟩ = some (.int .i64 2) := Be hb1 (Ab HB.out 5); have c7 : w1.cell? ⟨B, 1, none⟩ = some (.slice (some ⟨g, 0, none⟩) n c) := Be hb1 (Ab HB.out 1); have c8 : w1.cell? ⟨g, (n - 1) * 2 + 1, none⟩ = some (.int .i64 r.f1) := Be hb1 HY.out; clear hb1))
 go_ret
 exact ⟨rfl, HB1.out.mono hbw⟩
theorem RRows_pools {w w1 : World} {base : Nat} {p : Pst} {vE vP vP' vD vR vO : Value} {ok : Nat → Prop} {S : Nat → Prop} {L : List S44} (h : Ha w base p vE vP vD vR vO ok) (h5 : Kd.R k44 44 w1 base (fun _ => True) vP' L) (hk : Kept w w1 S) (hS : ∀ k, S k → ∃ cells, w.heap[k]? = some (.cells cells 44 (0, 0))) : Ha w1 base { p with pools := L } vE vP' vD vR vO ok := by
 obtain ⟨h1, h2, h3, h4, h6⟩ := h
 have ap : ∀ {l : List Nat}, 44 ∉ l → ∀ k, S k → ∃ cells q, w.heap[k]? = some (.cells cells q (0, 0)) ∧ q ∉ l := fun hl k hk => by
  obtain ⟨cs, hc⟩ := hS k hk
  exact ⟨cs, 44, hc, hl⟩
 exact ⟨Bf h1 hk (ap (by decide)), h5, Bf h3 hk (ap (by decide)), Bf h4 hk (ap (by decide)), Bf h6 hk (ap (by decide))⟩
theorem deep22_pool_high (base B : Nat) (p : Pst) (t : ByteArray) (ht : t.size ≤ 1048576) (w : World) (h : RSt w base B p .pool) (hok : (Bt t).2.2 = true) (hkey : (Bt t).1.toList = [100, 101, 112, 116, 104]) (hd : (C8 p.pools).f1 = 0) (hsz : (Bt t).2.1.size = 1) (hv : 56 < bt (Bt t).2.1 0) :
 Calls Tryz.prog 22 #[.pointer (some ⟨B, 0, none⟩), .string t] w fun x w' => x = .returned (.int .i64 (B7 p .pool t).2.2) ∧ Below base w w' := by
 obtain ⟨vE, vP, vD, vR, vO, op, v6, nm, v8, v9, v10, v11, ok, hbB, hb, hR, hS, ho⟩ := h
 obtain ⟨rfl, hn, g, c, rfl⟩ := ho
 have hE : (B7 p .pool t).2.2 = 800 := by
  rw [Gw p t hok]
  show B9 0 (Fz (C8 p.pools) (Bt t).1 (Bt t).2.1) = 800
  rw [pool_byte hkey hd hsz, decide_eq_false (show ¬ bt (Bt t).2.1 0 ≤ 56 by omega), Bool.and_false]
  rfl
 rw [hE]
 have hbw : base ≤ w.heap.size := Nat.le_trans hbB (Nat.le_of_lt (Cq hb))
 have HB := Aa.mk hb
 have HR := Aa.mk hR
 have c5 : w.cell? ⟨B, 5, none⟩ = some (.int .i64 2) := Ab hb 5
 have H53 := Lib.hid (r53 t ht w)
 rw [Iq hok, hok] at H53
 have hk2 : ((Bt t).1.toList == [100, 101, 112, 116, 104]) = true := beq_iff_eq.2 hkey
 have hk3 : ((Bt t).1.toList != [100, 101, 112, 116, 104]) = false := bne_eq_false_iff_eq.2 hkey
 have hm := Hb (Kd.R_reads' hR.2.1).2.2
 obtain ⟨lc, _, _⟩ := G6 hR.2.1 hn
 have y0 := lc 1 _ rfl
 clear lc
 obtain ⟨r, hr⟩ : ∃ r, C8 p.pools = r := ⟨_, rfl⟩
 rw [hr] at y0 hd
 have HY := Aa.mk y0
 have HRR := Aa.mk hr
 clear hR hb hS hok hE hr y0
 generalize (Bt t).1 = key at *
 generalize (Bt t).2.1 = val at *
 obtain ⟨n, hnn⟩ : ∃ n, p.pools.length = n := ⟨_, rfl⟩
 rw [hnn] at hn hm HB HY
 have hlt : n - 1 < n := by omega
 have hwn : wrap64 (((n : Nat) : Int) - 1) = ((n - 1 : Nat) : Int) := by unfold wrap64; omega
 clear hnn hkey HR HRR
 have hx1 : (r.f1 == 0) = true := beq_iff_eq.2 hd
 have hx2 : (r.f1 != 0) = false := bne_eq_false_iff_eq.2 hd
 have hz1 : (((val.size : Nat) : Int) == 1) = true := beq_iff_eq.2 (by omega)
 have hz2 : (((val.size : Nat) : Int) != 1) = false := bne_eq_false_iff_eq.2 (by omega)
 have hs1 : 0 < val.size := by omega
 have hs2 : (0 : Int) < ((val.size : Nat) : Int) := by omega
 have hb0 : bt val 0 = (((val[0]'hs1).toNat : Nat) : Int) := Ga val 0 hs1
 have hv2 : (56 : Int) < (((val[0]'hs1).toNat : Nat) : Int) := by omega
 have hv255 := (val[0]'hs1).toNat_lt
 have hv3 : IntKind.u8.wrap ((((val[0]'hs1).toNat : Nat) : Int) - 48) = (((val[0]'hs1).toNat : Nat) : Int) - 48 := by unfold IntKind.wrap; simp [IntKind.bits, IntKind.signed]; omega
 clear hd hsz hv
 go_enter Tryz.func22, Tryz.ntmps22
 go_wp2_with (first | (go_at_call 53; refine H53.out.mono ?_; rintro x w1 ⟨rfl, hb1⟩; have HB1 := Aa.mk hb1; have c6 : w1.cell? ⟨B, 5, none⟩ = some (.int .i64 2) := Be hb1 (Ab HB.out 5); have c7 : w1.cell? ⟨B, 1, none⟩ = some (.slice (some ⟨g, 0, none⟩) n c) := Be hb1 (Ab HB.out 1); have c8 : w1.cell? ⟨g, (n - 1) * 2 + 1, none⟩ = some (.int .i64 r.f1) := Be hb1 HY.out; clear hb1))
 go_ret
 exact ⟨rfl, HB1.out.mono hbw⟩
theorem pool_good (p : Pst) (t : ByteArray) (hok : (Bt t).2.2 = true) (hkey : (Bt t).1.toList = [100, 101, 112, 116, 104]) (hd : (C8 p.pools).f1 = 0) (hsz : (Bt t).2.1.size = 1) (hv1 : 49 ≤ bt (Bt t).2.1 0) (hv2 : bt (Bt t).2.1 0 ≤ 56) :
 B7 p .pool t = ({ p with pools := p.pools.set (p.pools.length - 1) { C8 p.pools with f1 := bt (Bt t).2.1 0 - 48 } }, .pool, 0) := by
 have hE : poolDE p 0 (Bt t).1 (Bt t).2.1 = 0 := by
  show B9 0 (Fz (C8 p.pools) (Bt t).1 (Bt t).2.1) = 0
  rw [pool_byte hkey hd hsz, decide_eq_true hv1, decide_eq_true hv2]
  rfl
 have hW : IntKind.i64.wrap (IntKind.u8.wrap (bt (Bt t).2.1 0 - 48)) = bt (Bt t).2.1 0 - 48 := by
  unfold IntKind.wrap
  simp [IntKind.bits, IntKind.signed]
  omega
 rw [Gw p t hok, hE]
 unfold poolD
 rw [if_pos hE, hW]
theorem deep22_pool_good (base B : Nat) (p : Pst) (t : ByteArray) (ht : t.size ≤ 1048576) (w : World) (h : RSt w base B p .pool) (hok : (Bt t).2.2 = true) (hkey : (Bt t).1.toList = [100, 101, 112, 116, 104]) (hd : (C8 p.pools).f1 = 0) (hsz : (Bt t).2.1.size = 1) (hv1 : 49 ≤ bt (Bt t).2.1 0) (hv2 : bt (Bt t).2.1 0 ≤ 56) :
 Calls Tryz.prog 22 #[.pointer (some ⟨B, 0, none⟩), .string t] w fun x w' => x = .returned (.int .i64 (B7 p .pool t).2.2) ∧ Below base w w' ∧ RSt w' base B (B7 p .pool t).1 (B7 p .pool t).2.1 := by
 rw [pool_good p t hok hkey hd hsz hv1 hv2]
 obtain ⟨vE, vP, vD, vR, vO, op, v6, nm, v8, v9, v10, v11, ok, hbB, hb, hR, hS, ho⟩ := h
 obtain ⟨rfl, hn, g, c, rfl⟩ := ho
 have hbw : base ≤ w.heap.size := Nat.le_trans hbB (Nat.le_of_lt (Cq hb))
 have HB := Aa.mk hb
 have HR := Aa.mk hR
 have c5 : w.cell? ⟨B, 5, none⟩ = some (.int .i64 2) := Ab hb 5
 have H53 := Lib.hid (r53 t ht w)
 rw [Iq hok, hok] at H53
 have hk2 : ((Bt t).1.toList == [100, 101, 112, 116, 104]) = true := beq_iff_eq.2 hkey
 have hk3 : ((Bt t).1.toList != [100, 101, 112, 116, 104]) = false := bne_eq_false_iff_eq.2 hkey
 have hm := Hb (Kd.R_reads' hR.2.1).2.2
 obtain ⟨lc, _, _⟩ := G6 hR.2.1 hn
 have y0 := lc 1 _ rfl
 clear lc
 obtain ⟨r, hr⟩ : ∃ r, C8 p.pools = r := ⟨_, rfl⟩
 rw [hr] at y0 hd
 have HY := Aa.mk y0
 have HRR := Aa.mk hr
 obtain ⟨Z, hZ⟩ : ∃ Z, bt (Bt t).2.1 0 - 48 = Z := ⟨_, rfl⟩
 rw [hZ]
 have hg : g ≠ B := fun q => by
  obtain ⟨cs, hc⟩ := Da hR.2.1 (k := g) rfl
  exact Du hb hc (by decide) q.symm
 have hbg : base ≤ g := Kd.R_base hR.2.1 g rfl
 clear hR hb hok hr y0
 generalize (Bt t).1 = key at *
 generalize (Bt t).2.1 = val at *
 obtain ⟨n, hnn⟩ : ∃ n, p.pools.length = n := ⟨_, rfl⟩
 have HNN := Aa.mk hnn
 rw [hnn] at hn hm HB HY
 have hlt : n - 1 < n := by omega
 have hwn : wrap64 (((n : Nat) : Int) - 1) = ((n - 1 : Nat) : Int) := by unfold wrap64; omega
 clear hnn hkey
 have hx1 : (r.f1 == 0) = true := beq_iff_eq.2 hd
 have hx2 : (r.f1 != 0) = false := bne_eq_false_iff_eq.2 hd
 have hz1 : (((val.size : Nat) : Int) == 1) = true := beq_iff_eq.2 (by omega)
 have hz2 : (((val.size : Nat) : Int) != 1) = false := bne_eq_false_iff_eq.2 (by omega)
 have hs1 : 0 < val.size := by omega
 have hs2 : (0 : Int) < ((val.size : Nat) : Int) := by omega
 have hb0 : bt val 0 = (((val[0]'hs1).toNat : Nat) : Int) := Ga val 0 hs1
 have hv3 : (49 : Int) ≤ (((val[0]'hs1).toNat : Nat) : Int) := by omega
 have hv4 : (((val[0]'hs1).toNat : Nat) : Int) ≤ 56 := by omega
 have hv5 : IntKind.u8.wrap ((((val[0]'hs1).toNat : Nat) : Int) - 48) = (((val[0]'hs1).toNat : Nat) : Int) - 48 := by unfold IntKind.wrap; simp [IntKind.bits, IntKind.signed]; omega
 have hZ2 : (((val[0]'hs1).toNat : Nat) : Int) - 48 = Z := by omega
 clear hd hsz hv1 hv2 hb0 hZ
 go_enter Tryz.func22, Tryz.ntmps22
 go_wp2_with (first | (go_at_call 53; refine H53.out.mono ?_; rintro x w1 ⟨rfl, hb1⟩; have HB1 := Aa.mk hb1; have c6 : w1.cell? ⟨B, 5, none⟩ = some (.int .i64 2) := Be hb1 (Ab HB.out 5); have c7 : w1.cell? ⟨B, 1, none⟩ = some (.slice (some ⟨g, 0, none⟩) n c) := Be hb1 (Ab HB.out 1); have c8 : w1.cell? ⟨g, (n - 1) * 2 + 1, none⟩ = some (.int .i64 r.f1) := Be hb1 HY.out; clear hb1))
 have hi0 : (1 : Int) ≤ ((n : Nat) : Int) ∧ ((n : Nat) : Int) - 1 < ((n : Nat) : Int) := by omega
 have hi1 : IntKind.u8.wrap Z = Z := by rw [← hZ2]; exact hv5
 have hi2 : wrap64 Z = Z := by unfold wrap64; omega
 refine sX 13 (S := fun w' => w'.cell? ⟨B, 1, none⟩ = some (.slice (some ⟨g, 0, none⟩) n c)) (ds := [12]) (c7) (fun hHeld => ?_)
 have HB2 := Aa.mk (Aj HB.out ((HB1.out.drew)))
 have HR2 := Aa.mk (D8 HR.out HB1.out.drew)
 have HBd := Aa.mk (HB1.out.drew.mono hbw)
 obtain ⟨lc, lf, lset⟩ := G6 HR2.out.2.1 (by rw [HNN.out]; exact hn)
 rw [HRR.out, HNN.out] at lc
 rw [HNN.out] at lf lset
 rw [HRR.out] at lset
 have y2 := lc 1 _ rfl
 have y3 := lf 1
 have LS := Aa.mk (lset 1 (.int .i64 Z) { r with f1 := Z } (by decide) rfl)
 clear lc lf lset c6 c7 c8 HB1 HR HB HY
 generalize w1.drew = wq at HB2 HR2 HBd LS y2 y3 hHeld ⊢
 refine pX 0 76 ?_
 refine pX 1 77 ?_
 refine pX 2 78 ?_
 refine pX 3 79 ?_
 refine pX 5 81 ?_
 refine pX 6 82 ?_
 refine tX 4 80 hHeld ?_
 refine tX 7 83 hHeld ?_
 refine pX 8 84 ?_
 refine pX 9 85 ?_
 refine pX 10 86 ?_
 refine pX 11 87 ?_
 refine lX 12 none (fun K hK => ?_)
 refine kX ?_
 refine hK.out _ _ ?_
 clear hK K
 refine dX ?_
 go_wp2_with fail
 go_ret
 have hk := Bm wq g ((n - 1) * 2 + 1) (.int .i64 Z)
 refine ⟨rfl, HBd.out.setCell (p := ⟨g, (n - 1) * 2 + 1, none⟩) hbg _, ?_⟩
 rw [HRR.out, HNN.out]
 refine ⟨vE, _, vD, vR, vO, 2, v6, nm, v8, v9, v10, v11, ok, hbB, E9 HB2.out (fun q => hg q.symm) _, RRows_pools HR2.out LS.out hk (fun k hk2 => by have hk3 : k = g := hk2; subst hk3; exact Da HR2.out.2.1 rfl), hS, rfl, ?_, g, c, ?_⟩
 ·show 1 ≤ (p.pools.set (n - 1) _).length
  rw [List.length_set, HNN.out]
  exact hn
 ·show _ = Value.slice _ (p.pools.set (n - 1) _).length _
  rw [List.length_set, HNN.out]
theorem deep22_pool (base B : Nat) (p : Pst) (t : ByteArray) (ht : t.size ≤ 1048576) (w : World) (h : RSt w base B p .pool) :
 Calls Tryz.prog 22 #[.pointer (some ⟨B, 0, none⟩), .string t] w fun x w' => x = .returned (.int .i64 (B7 p .pool t).2.2) ∧ Below base w w' ∧ ((B7 p .pool t).2.2 = 0 → RSt w' base B (B7 p .pool t).1 (B7 p .pool t).2.1) := by
 have bad : (B7 p .pool t).2.2 = 800 → (Calls Tryz.prog 22 #[.pointer (some ⟨B, 0, none⟩), .string t] w fun x w' => x = .returned (.int .i64 (B7 p .pool t).2.2) ∧ Below base w w') → Calls Tryz.prog 22 #[.pointer (some ⟨B, 0, none⟩), .string t] w fun x w' => x = .returned (.int .i64 (B7 p .pool t).2.2) ∧ Below base w w' ∧ ((B7 p .pool t).2.2 = 0 → RSt w' base B (B7 p .pool t).1 (B7 p .pool t).2.1) := fun h8 hc => hc.mono (fun x w' hx => ⟨hx.1, hx.2, fun h0 => by rw [h8] at h0; exact absurd h0 (by decide)⟩)
 cases hok : (Bt t).2.2 with
 | false => exact bad (deep_pool_bad p t hok) (deep22_pool_bad base B p t ht w h hok)
 | true =>
  have hE : Fz (C8 p.pools) (Bt t).1 (Bt t).2.1 = false → (B7 p .pool t).2.2 = 800 := fun q => by
   rw [Gw p t hok]
   show B9 0 (Fz (C8 p.pools) (Bt t).1 (Bt t).2.1) = 800
   rw [q]
   rfl
  by_cases hkey : (Bt t).1.toList = [100, 101, 112, 116, 104]
  ·by_cases hd : (C8 p.pools).f1 = 0
   ·by_cases hsz : (Bt t).2.1.size = 1
    ·by_cases hv : bt (Bt t).2.1 0 < 49
     ·exact bad (hE (by rw [pool_byte hkey hd hsz, decide_eq_false (show ¬ 49 ≤ bt (Bt t).2.1 0 by omega), Bool.false_and])) (deep22_pool_low base B p t ht w h hok hkey hd hsz hv)
     ·by_cases hv2 : 56 < bt (Bt t).2.1 0
      ·exact bad (hE (by rw [pool_byte hkey hd hsz, decide_eq_false (show ¬ bt (Bt t).2.1 0 ≤ 56 by omega), Bool.and_false])) (deep22_pool_high base B p t ht w h hok hkey hd hsz hv2)
      ·exact (deep22_pool_good base B p t ht w h hok hkey hd hsz (by omega) (by omega)).mono (fun x w' hx => ⟨hx.1, hx.2.1, fun _ => hx.2.2⟩)
    ·refine bad (hE ?_) (deep22_pool_size base B p t ht w h hok hkey hd hsz)
     unfold Fz
     rw [show (((Bt t).2.1.size : Int) == 1) = false from beq_eq_false_iff_ne.2 (by omega), Bool.and_false, Bool.false_and, Bool.false_and]
   ·refine bad (hE ?_) (deep22_pool_depth base B p t ht w h hok hkey hd)
    unfold Fz
    rw [beq_false_of_ne hd, Bool.and_false, Bool.false_and, Bool.false_and, Bool.false_and]
  ·refine bad (hE ?_) (deep22_pool_key base B p t ht w h hok hkey)
   unfold Fz
   rw [beq_false_of_ne hkey]
   rfl
theorem RRows_seen {w w5 : World} {base : Nat} {p : Pst} {vE vP vD vR vO vS v5 : Value} {ok : Nat → Prop} {seen : List ByteArray} (h : Ha w base p vE vP vD vR vO ok) (hs : Kd.R Kd.string 9 w base (fun _ => True) vS seen) (hok : ∀ k, ok k → some k ≠ vS.ownBlock) (hg : w.grownBy w5 vS.ownBlock) (hat : v5.ownBlock = vS.ownBlock ∨ ∃ b, v5.ownBlock = some b ∧ w.heap.size ≤ b) :
 ∃ ok' : Nat → Prop, Ha w5 base p vE vP vD vR vO ok' ∧ ∀ k, ok' k → some k ≠ v5.ownBlock := by
 obtain ⟨h1, h2, h3, h4, h5⟩ := h
 refine ⟨fun k => ok k ∧ k < w.heap.size, ⟨Kd.De (Kd.R_grown (Kd.Ex h1) hg (fun k hk => hok k hk.1.2)) (fun k hk => ⟨hk.1.1, hk.1.2, hk.2.2.1⟩), Dd h2 hs hg (by decide), Kd.De (Kd.R_grown (Kd.Ex h3) hg (fun k hk => hok k hk.1)) (fun k hk => ⟨hk.1, hk.2.2.1⟩), Dd h4 hs hg (by decide), Dd h5 hs hg (by decide)⟩, fun k hk => ?_⟩
 rcases hat with hat | ⟨b, hb, hle⟩
 ·rw [hat]; exact hok k hk.1
 ·rw [hb]
  intro q
  injection q with q
  have := hk.2
  omega
theorem RRows_rules {w w1 : World} {base : Nat} {p : Pst} {vE vP vD vR vR' vO : Value} {ok : Nat → Prop} {S : Nat → Prop} {L : List S116} (h : Ha w base p vE vP vD vR vO ok) (h5 : Kd.R kq 95 w1 base (fun _ => True) vR' L) (hk : Kept w w1 S) (hS : ∀ k, S k → ∃ cells, w.heap[k]? = some (.cells cells 95 (0, 0))) : Ha w1 base { p with rules := L } vE vP vD vR' vO ok := by
 obtain ⟨h1, h2, h3, h4, h6⟩ := h
 have ap : ∀ {l : List Nat}, 95 ∉ l → ∀ k, S k → ∃ cells q, w.heap[k]? = some (.cells cells q (0, 0)) ∧ q ∉ l := fun hl k hk => by
  obtain ⟨cs, hc⟩ := hS k hk
  exact ⟨cs, 95, hc, hl⟩
 exact ⟨Bf h1 hk (ap (by decide)), Bf h2 hk (ap (by decide)), Bf h3 hk (ap (by decide)), h5, Bf h6 hk (ap (by decide))⟩
def RRule (w : World) (base B : Nat) (p : Pst) (g c : Nat) (vS : Value) (seen : List ByteArray) : Prop := ∃ vE vP vD vO v6 nm v8 v9 v10 v11, ∃ ok : Nat → Prop, base ≤ B ∧ 1 ≤ p.rules.length ∧ Rb w B vE vP vD (.slice (some ⟨g, 0, none⟩) p.rules.length c) vO 1 v6 nm v8 v9 v10 v11 ∧ Ha w base p vE vP vD (.slice (some ⟨g, 0, none⟩) p.rules.length c) vO ok ∧ Gq p.outer ∧ w.cell? ⟨g, (p.rules.length - 1) * 5 + 4, none⟩ = some vS ∧ Kd.R Kd.string 9 w base (fun _ => True) vS seen ∧ ∀ k, ok k → some k ≠ vS.ownBlock
theorem rrule_of {w : World} {base B : Nat} {p : Pst} (h : RSt w base B p .rule) : ∃ g c vS seen, RRule w base B p g c vS seen ∧ Ir seen (Cy p.rules) := by
 obtain ⟨vE, vP, vD, vR, vO, op, v6, nm, v8, v9, v10, v11, ok, hbB, hb, hR, hS, ho⟩ := h
 obtain ⟨rfl, hn, g, c, vS, seen, rfl, hvS, hRS, hSO, hok2⟩ := ho
 exact ⟨g, c, vS, seen, ⟨vE, vP, vD, vO, v6, nm, v8, v9, v10, v11, ok, hbB, hn, hb, hR, hS, hvS, hRS, hok2⟩, hSO⟩
theorem rst_of {w : World} {base B g c : Nat} {p : Pst} {vS : Value} {seen : List ByteArray} (h : RRule w base B p g c vS seen) (hs : Ir seen (Cy p.rules)) : RSt w base B p .rule := by
 obtain ⟨vE, vP, vD, vO, v6, nm, v8, v9, v10, v11, ok, hbB, hn, hb, hR, hS, hvS, hRS, hok2⟩ := h
 exact ⟨vE, vP, vD, _, vO, 1, v6, nm, v8, v9, v10, v11, ok, hbB, hb, hR, hS, rfl, hn, g, c, vS, seen, rfl, hvS, hRS, hs, hok2⟩
theorem rrule_below {w w1 : World} {base B g c : Nat} {p : Pst} {vS : Value} {seen : List ByteArray} (h : RRule w base B p g c vS seen) (hb : Below w.heap.size w w1) : RRule w1 base B p g c vS seen := by
 obtain ⟨vE, vP, vD, vO, v6, nm, v8, v9, v10, v11, ok, hbB, hn, h1, hR, hS, hvS, hRS, hok2⟩ := h
 exact ⟨vE, vP, vD, vO, v6, nm, v8, v9, v10, v11, ok, hbB, hn, Aj h1 hb, D8 hR hb, hS, Be hb hvS, Kd.Bj hRS hb, hok2⟩
theorem rrule_put {w : World} {base B g c : Nat} {p : Pst} {vS : Value} {seen : List ByteArray} (h : RRule w base B p g c vS seen) (j : Nat) (hj : j < 4) (u : Value) (x' : S116) (hset : ∀ v, (cellsQ (Cy p.rules) v).set j u = cellsQ x' v) :
 base ≤ g ∧ (w.cell? ⟨g, (p.rules.length - 1) * 5 + j, none⟩).isSome = true ∧ w.frozen? ⟨g, (p.rules.length - 1) * 5 + j, none⟩ = false ∧ RRule (w.setCell ⟨g, (p.rules.length - 1) * 5 + j, none⟩ u) base B { p with rules := p.rules.set (p.rules.length - 1) x' } g c vS seen := by
 obtain ⟨vE, vP, vD, vO, v6, nm, v8, v9, v10, v11, ok, hbB, hn, h1, hR, hS, hvS, hRS, hok2⟩ := h
 obtain ⟨A, n, cc, lc, lf, lset⟩ := q_last hR.2.2.2.1 hn
 obtain ⟨cs, hg⟩ := Da hR.2.2.2.1 (k := g) rfl
 have hk := Bm w g ((p.rules.length - 1) * 5 + j) u
 have hL := lset j u x' A n cc (by omega) (hset _)
 have hl : (p.rules.set (p.rules.length - 1) x').length = p.rules.length := List.length_set
 refine ⟨Kd.R_base hR.2.2.2.1 g rfl, ?_, lf j, vE, vP, vD, vO, v6, nm, v8, v9, v10, v11, ok, hbB, by show 1 ≤ (p.rules.set _ x').length; rw [hl]; exact hn, ?_, ?_, hS, ?_, ?_, hok2⟩
 ·rw [lc j _ (List.getElem?_eq_getElem (show j < (cellsQ (Cy p.rules) (.slice A n cc)).length by show j < 5; omega))]
  rfl
 ·show Rb _ B vE vP vD (.slice _ (p.rules.set _ x').length c) vO 1 v6 nm v8 v9 v10 v11
  rw [hl]
  exact E9 h1 (fun q => Du h1 hg (by decide) q) _
 ·refine RRows_rules hR ?_ hk (fun k hk2 => ⟨cs, by rw [show k = g from hk2]; exact hg⟩)
  show Kd.R kq 95 _ base _ (.slice _ (p.rules.set _ x').length c) _
  rw [hl]
  exact hL
 ·show (w.setCell _ u).cell? ⟨g, ((p.rules.set _ x').length - 1) * 5 + 4, none⟩ = some vS
  rw [hl, World.cell?_setCell_other _ _ _ _ (fun q => by injection q; omega)]
  exact hvS
 ·exact Bf hRS hk (fun k hk2 => ⟨cs, 95, by rw [show k = g from hk2]; exact hg, by decide⟩)
theorem rrule_seen {w w5 : World} {base B g c : Nat} {p : Pst} {vS v5 : Value} {seen : List ByteArray} {key : ByteArray} (h : RRule w base B p g c vS seen) (ho : Kd.R Kd.string 9 w5 base (fun _ => True) v5 (seen ++ [key])) (hg : w.grownBy w5 vS.ownBlock) (hat : v5.ownBlock = vS.ownBlock ∨ ∃ b, v5.ownBlock = some b ∧ w.heap.size ≤ b) (hv5 : ∃ A n c, v5 = .slice A n c) :
 base ≤ g ∧ w5.cell? ⟨g, (p.rules.length - 1) * 5 + 4, none⟩ = some vS ∧ w5.frozen? ⟨g, (p.rules.length - 1) * 5 + 4, none⟩ = false ∧ RRule (w5.setCell ⟨g, (p.rules.length - 1) * 5 + 4, none⟩ v5) base B p g c v5 (seen ++ [key]) := by
 obtain ⟨vE, vP, vD, vO, v6, nm, v8, v9, v10, v11, ok, hbB, hn, h1, hR, hS, hvS, hRS, hok2⟩ := h
 obtain ⟨ok', hR5, hok5⟩ := RRows_seen hR hRS hok2 hg hat
 have hB5 := Dw h1 hRS hg (by decide)
 obtain ⟨cs, hgg⟩ := Da hR5.2.2.2.1 (k := g) rfl
 obtain ⟨cs0, hgg0⟩ := Da hR.2.2.2.1 (k := g) rfl
 have hgr := Dw hgg0 hRS hg (by decide)
 have hc5 : w5.cell? ⟨g, (p.rules.length - 1) * 5 + 4, none⟩ = some vS := by rw [Ab hgr, ← Ab hgg0]; exact hvS
 obtain ⟨A, n, cc, lc, lf, lset⟩ := q_last hR5.2.2.2.1 hn
 have hk := Bm w5 g ((p.rules.length - 1) * 5 + 4) v5
 obtain ⟨A5, n5, c5, rfl⟩ := hv5
 have hL := lset 4 (.slice A5 n5 c5) (Cy p.rules) A5 n5 c5 (by decide) rfl
 rw [lastR_self p.rules hn] at hL
 exact ⟨Kd.R_base hR.2.2.2.1 g rfl, hc5, lf 4, vE, vP, vD, vO, v6, nm, v8, v9, v10, v11, ok', hbB, hn, E9 hB5 (fun q => Du hB5 hgg (by decide) q) _, RRows_rules (L := p.rules) hR5 hL hk (fun k hk2 => ⟨cs, by rw [show k = g from hk2]; exact hgg⟩), hS, World.cell?_setCell_same _ _ _ hc5, Bf ho hk (fun k hk2 => ⟨cs, 95, by rw [show k = g from hk2]; exact hgg, by decide⟩), hok5⟩
theorem Hz {w : World} {base B g c : Nat} {p : Pst} {vS : Value} {seen : List ByteArray} (h : RRule w base B p g c vS seen) : base ≤ B ∧ B < w.heap.size ∧ w.cell? ⟨B, 3, none⟩ = some (.slice (some ⟨g, 0, none⟩) p.rules.length c) ∧ w.cell? ⟨B, 5, none⟩ = some (.int .i64 1) ∧ w.cell? ⟨g, (p.rules.length - 1) * 5 + 4, none⟩ = some vS ∧ Kd.R Kd.string 9 w base (fun _ => True) vS seen ∧ (∃ A cp, w.cell? ⟨B, 1, none⟩ = some (.slice A p.pools.length cp) ∧ Kd.C k44 w A p.pools.length p.pools ∧ p.pools.length ≤ cp) ∧ 1 ≤ p.rules.length ∧ p.rules.length ≤ 9223372036854775807 := by
 obtain ⟨vE, vP, vD, vO, v6, nm, v8, v9, v10, v11, ok, hbB, hn, h1, hR, hS, hvS, hRS, hok2⟩ := h
 obtain ⟨A, cp, rfl, hc, hC⟩ := Kd.Dl hR.2.1
 exact ⟨hbB, Cq h1, Ab h1 3, Ab h1 5, hvS, hRS, ⟨A, cp, Ab h1 1, hC, hc⟩, hn, Hb (Kd.R_reads' hR.2.2.2.1).2.2⟩
theorem deep22_rule_bad (base B : Nat) (p : Pst) (t : ByteArray) (ht : t.size ≤ 1048576) (w : World) (h : RSt w base B p .rule) (hok : (Bt t).2.2 = false) :
 Calls Tryz.prog 22 #[.pointer (some ⟨B, 0, none⟩), .string t] w fun x w' => x = .returned (.int .i64 800) ∧ Below base w w' := by
 obtain ⟨g, c, vS, seen, hr, _⟩ := rrule_of h
 obtain ⟨hbB, hBl, -, c5, -⟩ := Hz hr
 have H53 := Lib.hid (r53 t ht w)
 rw [bindQ_ok, hok] at H53
 have HBW := Aa.mk (Nat.le_trans hbB (Nat.le_of_lt hBl))
 have HC5 := Aa.mk c5
 clear hr h hok hbB
 generalize (Gp t).1 = q1 at H53
 generalize (Gp t).2.1 = q2 at H53
 go_enter Tryz.func22, Tryz.ntmps22
 go_wp2_with (first | (go_at_call 53; refine H53.out.mono ?_; rintro x w1 ⟨rfl, hb1⟩; have HB1 := Aa.mk hb1; have c6 : w1.cell? ⟨B, 5, none⟩ = some (.int .i64 1) := Be hb1 HC5.out; clear hb1))
 go_ret
 exact ⟨rfl, HB1.out.mono HBW.out⟩
theorem deep22_rule_ok (base B : Nat) (p : Pst) (t : ByteArray) (ht : t.size ≤ 1048576) (hpn : ∀ x ∈ p.pools, x.f0.toList ≠ []) (hpl : p.pools.length ≤ 1000) (w : World) (h : RSt w base B p .rule) (hok : (Bt t).2.2 = true) :
 Calls Tryz.prog 22 #[.pointer (some ⟨B, 0, none⟩), .string t] w fun x w' => x = .returned (.int .i64 (B7 p .rule t).2.2) ∧ Below base w w' ∧ ((B7 p .rule t).2.2 = 0 → RSt w' base B (B7 p .rule t).1 (B7 p .rule t).2.1) := by
 obtain ⟨g, c, vS, seen, hr, hSO⟩ := rrule_of h
 rw [deep_rule_ok p t hok]
 have H53 := Lib.hid (r53 t ht w)
 rw [Iq hok, hok] at H53
 have hvs := (bindB_size t).2
 generalize (Bt t).1 = key at *
 generalize (Bt t).2.1 = val at *
 obtain ⟨hbB, hBl, -, c5, -, hRS, -, hn, hm⟩ := Hz hr
 obtain ⟨AS, cS, rfl⟩ := Kd.Bd hRS
 have hsl : seen.length ≤ 3 := by
  have := hSO.len
  have h1 := Bool.toNat_le (!(Cy p.rules).f1.toList.isEmpty)
  have h2 := Bool.toNat_le (Cy p.rules).f3
  have h3 := Bool.toNat_le (Cy p.rules).f4
  omega
 have HBW := Aa.mk (Nat.le_trans hbB (Nat.le_of_lt hBl))
 have HR := Aa.mk hr
 have HC5 := Aa.mk c5
 have HSO := Aa.mk hSO
 have HPN := Aa.mk hpn
 have HOK : ∀ (x' : S116) (e : Bool), Fl p.pools (Cy p.rules) key val = (x', e) → ruleDE p 0 key val = B9 0 e ∧ ruleD p key val = { p with rules := p.rules.set (p.rules.length - 1) x' } := fun x' e q => by
  unfold ruleDE ruleD
  rw [q]
  exact ⟨rfl, rfl⟩
 have HBAD : ∀ w', (Fl p.pools (Cy p.rules) key val).2 = false → Below base w w' → (Ending.returned (.int .i64 800) = Ending.returned (.int .i64 (ruleDE p 0 key val)) ∧ Below base w w' ∧ (ruleDE p 0 key val = 0 → RSt w' base B (ruleD p key val) .rule)) := fun w' q hb => by
  have e : ruleDE p 0 key val = 800 := by unfold ruleDE; rw [q]; rfl
  rw [e]
  exact ⟨rfl, hb, fun h0 => absurd h0 (by decide)⟩
 replace HOK := Lib.hid HOK
 replace HBAD := Lib.hid HBAD
 clear hr h hok hbB hSO hpn hRS hvs
 obtain ⟨n, hnn⟩ : ∃ n, p.rules.length = n := ⟨_, rfl⟩
 have HNN := Aa.mk hnn
 rw [hnn] at hn hm
 have hlt : n - 1 < n := by omega
 have hwn : wrap64 (((n : Nat) : Int) - 1) = ((n - 1 : Nat) : Int) := by unfold wrap64; omega
 clear hnn
 obtain ⟨SL, hSL⟩ : ∃ SL, seen.length = SL := ⟨_, rfl⟩
 have HSL := Aa.mk hSL
 rw [hSL] at hsl
 clear hSL
 go_enter Tryz.func22, Tryz.ntmps22
 go_upto_region 12 with (first | (go_at_call 53; refine H53.out.mono ?_; rintro x w1 ⟨rfl, hb1⟩; have HB1 := Aa.mk (hb1.mono HBW.out); have HR1 := Aa.mk (rrule_below HR.out hb1); obtain ⟨-, -, c7, c6, -⟩ := Hz HR1.out; (rw [HNN.out] at c7); clear hb1))
 refine sX 12 (S := fun w' => w'.cell? ⟨B, 3, none⟩ = some (.slice (some ⟨g, 0, none⟩) n c)) (ds := []) (c7) (fun hHeld => ?_)
 have HBd := Aa.mk (HB1.out.drew)
 have HRd := Aa.mk (rrule_below HR1.out (Below.refl _ _).drew)
 clear HB1 HR1 c6 c7
 generalize w1.drew = wd at HBd HRd hHeld ⊢
 refine pX 0 88 ?_
 refine pX 1 89 ?_
 refine pX 2 90 ?_
 refine pX 4 92 ?_
 refine pX 5 93 ?_
 refine pX 6 94 ?_
 refine tX 3 91 hHeld ?_
 refine tX 7 95 hHeld ?_
 refine pX 8 96 ?_
 refine pX 9 97 ?_
 refine pX 10 98 ?_
 refine pX 11 9 ?_
 refine dX ?_
 obtain ⟨-, -, -, -, c8, hRS, -⟩ := Hz HRd.out
 have hbd := Nat.le_trans HBW.out HBd.out.size
 have HBZ := Aa.mk hbd
 have H54 := Lib.hid (r54 seen (by have := HSL.out; omega) key AS cS wd (Kd.R_reads' hRS).2.2 (Kd.R_reads' hRS).2.1)
 rw [HNN.out] at c8
 clear hRS hbd hHeld
 by_cases hseen : (seen.any fun x => x.toList == key.toList) = true
 ·rw [hseen] at H54
  have HB0 := Aa.mk (HBAD.out · (rule_shut HSO.out HPN.out (Or.inl hseen)))
  clear hseen
  go_wp2_with (first | (go_at_call 54; refine H54.out.mono ?_; rintro x w3 ⟨rfl, hb3⟩; have HB3 := Aa.mk (HBd.out.trans (hb3.mono HBZ.out)); clear hb3))
  go_ret
  exact HB0.out _ HB3.out
 have hseen := Bool.eq_false_iff.2 hseen
 rw [hseen] at H54
 have HSE := Lib.hid hseen
 clear hseen
 by_cases hv : val.toList = []
 ·have hvb : (val.toList == ([] : List UInt8)) = true := beq_iff_eq.2 hv
  have HB0 := Aa.mk (HBAD.out · (rule_shut HSO.out HPN.out (Or.inr hv)))
  clear hv
  go_wp2_with (first | (go_at_call 54; refine H54.out.mono ?_; rintro x w3 ⟨rfl, hb3⟩; have HB3 := Aa.mk (HBd.out.trans (hb3.mono HBZ.out)); clear hb3))
  go_ret
  exact HB0.out _ HB3.out
 have hvb : (val.toList == ([] : List UInt8)) = false := beq_eq_false_iff_ne.2 hv
 have HV := Lib.hid hv
 clear hv
 go_upto_region 17 with (first | (go_at_call 54; refine H54.out.mono ?_; rintro x w3 ⟨rfl, hb3⟩; have HB3 := Aa.mk (HBd.out.trans (hb3.mono HBZ.out)); have HR3 := Aa.mk (rrule_below HRd.out hb3); have c9 := Be hb3 c8; have hz3 := Nat.le_trans HBW.out HB3.out.size; obtain ⟨-, -, -, -, -, hRS3, -⟩ := Hz HR3.out; have HS3 := Aa.mk hRS3; clear hb3 hRS3) | ((with_reducible refine Cz (b := .append) (xs := #[.tmp 113, .tmp 115]) rfl ?_); at_builtin; refine Kd.Ep Kd.string (w0 := w) base rfl (.tmp 113) (.tmp 115) 24 9 (.string ⟨#[]⟩) 16 rfl Tryz.underlying24 Hh rfl (by decide) (by omega) (.slice AS seen.length cS) seen key [.string key] (fun _ => True) (fun _ => False) rfl rfl rfl (fun _ hk => hk.elim) (fun _ _ => trivial) HS3.out HB3.out hz3 ?aL ?_; (case aL => have := HSL.out; omega); intro v5 w5 ho5 hb5 hg hat; obtain ⟨A5, c5, e5⟩ := Kd.Bd ho5; subst e5; obtain ⟨hbg, z4, zf, hr5⟩ := rrule_seen HR3.out ho5 hg hat ⟨_, _, _, rfl⟩; rw [List.length_append, List.length_singleton] at hr5; rw [HNN.out] at z4 zf hr5; have HR5 := Aa.mk hr5; have HB5 := Aa.mk (hb5.setCell (p := ⟨g, (n - 1) * 5 + 4, none⟩) hbg (.slice A5 (seen.length + 1) c5)); clear ho5 hb5 hg hat hr5))
 generalize w5.setCell ⟨g, (n - 1) * 5 + 4, none⟩ (.slice A5 (seen.length + 1) c5) = w6 at HR5 HB5 ⊢
 clear z4 zf c9 hz3 HS3 HR3 HB3 c8 H54 HBZ HRd HBd hvb hseen
 have HEND : ∀ (W : World), RRule W base B p g c (.slice A5 (seen.length + 1) c5) (seen ++ [key]) → Below base w W → ∀ (j : Nat) (u : Value) (x' : S116) (w7 : World), j < 4 → (∀ v, (cellsQ (Cy p.rules) v).set j u = cellsQ x' v) → w7 = W.setCell ⟨g, (n - 1) * 5 + j, none⟩ u → Ir (seen ++ [key]) x' ∧ Fl p.pools (Cy p.rules) key val = (x', true) → (Ending.returned (.int .i64 0) = Ending.returned (.int .i64 (ruleDE p 0 key val)) ∧ Below base w w7 ∧ (ruleDE p 0 key val = 0 → RSt w7 base B (ruleD p key val) .rule)) := fun W hr hb j u x' w7 hj hset hw hs => by
  obtain ⟨h1, h2⟩ := HOK.out x' true hs.2
  obtain ⟨q1, -, -, q4⟩ := rrule_put hr j hj u x' hset
  rw [HNN.out] at q4
  rw [h1, h2, hw, HNN.out]
  refine ⟨rfl, hb.setCell (p := ⟨g, (n - 1) * 5 + j, none⟩) q1 u, fun _ => rst_of q4 ?_⟩
  show Ir _ (Cy (p.rules.set (n - 1) x'))
  rw [← HNN.out, lastR_set _ _ (by rw [HNN.out]; exact hn)]
  exact hs.1
 replace HEND := Lib.hid HEND
 have HCELL : ∀ W, RRule W base B p g c (.slice A5 (seen.length + 1) c5) (seen ++ [key]) → ∀ j, j < 4 → (∃ u, W.cell? ⟨g, (n - 1) * 5 + j, none⟩ = some u) ∧ W.frozen? ⟨g, (n - 1) * 5 + j, none⟩ = false := fun W hr j hj => by
  obtain ⟨vE, vP, vD, vO, v6, nm, v8, v9, v10, v11, ok, -, hn1, -, hR, -⟩ := hr
  obtain ⟨A, m, cc, lc, lf, -⟩ := q_last hR.2.2.2.1 hn1
  rw [HNN.out] at lc lf
  exact ⟨⟨_, lc j _ (List.getElem?_eq_getElem (show j < (cellsQ (Cy p.rules) (.slice A m cc)).length by show j < 5; omega))⟩, lf j⟩
 replace HCELL := Lib.hid HCELL
 obtain ⟨⟨u1, s1⟩, t1⟩ := HCELL.out w6 HR5.out 1 (by decide)
 obtain ⟨⟨u2, s2⟩, t2⟩ := HCELL.out w6 HR5.out 2 (by decide)
 by_cases hk1 : key.toList = [99, 111, 109, 109, 97, 110, 100]
 ·have b1 : (key.toList == [99, 111, 109, 109, 97, 110, 100]) = true := beq_iff_eq.2 hk1
  have HF := Aa.mk (seen_cmd (pools := p.pools) HSO.out HSE.out hk1 HV.out)
  clear hk1
  go_wp2_with (fail)
  go_ret
  exact HEND.out w6 HR5.out HB5.out 1 (.string val) _ _ (by decide) (fun v => rfl) rfl HF.out
 have b1 : (key.toList == [99, 111, 109, 109, 97, 110, 100]) = false := beq_eq_false_iff_ne.2 hk1
 have HB0 := Aa.mk (HBAD.out w6 · HB5.out)
 have HK1 := Lib.hid hk1
 clear hk1
 by_cases hk2 : key.toList = [100, 101, 112, 115]
 ·have b2 : (key.toList == [100, 101, 112, 115]) = true := beq_iff_eq.2 hk2
  by_cases hv1 : val.toList = [49]
  ·have b3 : (val.toList == [49]) = true := beq_iff_eq.2 hv1
   have HF := Aa.mk (seen_deps (pools := p.pools) HSO.out HSE.out hk2 hv1)
   clear hk2 hv1
   go_wp2_with (fail)
   go_ret
   exact HEND.out w6 HR5.out HB5.out 2 (.bool true) _ _ (by decide) (fun v => rfl) rfl HF.out
  ·have b3 : (val.toList == [49]) = false := beq_eq_false_iff_ne.2 hv1
   have b4 : (key.toList == [112, 111, 111, 108]) = false := by rw [hk2]; decide
   have HF := Aa.mk (rule_else (pools := p.pools) (r := Cy p.rules) (k := key) (v := val) HK1.out (fun _ => hv1) (fun h => by rw [hk2] at h; exact absurd h (by decide)))
   clear hk2 hv1
   go_wp2_with (fail)
   go_ret
   exact HB0.out HF.out
 have b2 : (key.toList == [100, 101, 112, 115]) = false := beq_eq_false_iff_ne.2 hk2
 by_cases hk3 : key.toList = [112, 111, 111, 108]
 ·have b4 : (key.toList == [112, 111, 111, 108]) = true := beq_iff_eq.2 hk3
  obtain ⟨-, -, -, -, -, -, ⟨Ap, cp, p1, hCP, hcp⟩, -⟩ := Hz HR5.out
  have H32 := Lib.hid (r32 p.pools hpl val Ap cp w6 hCP hcp)
  clear hCP
  obtain ⟨I, hI⟩ : ∃ I, idxP (fun x : S44 => x.f0.toList == val.toList) p.pools = I := ⟨_, rfl⟩
  rw [hI] at H32
  by_cases h0 : 0 ≤ I
  ·have HF := Aa.mk (seen_pool (pools := p.pools) HSO.out HSE.out hk3 (by rw [hI]; exact h0))
   have b5 : decide (0 ≤ I) = true := decide_eq_true h0
   clear hk3 hI hk2
   go_wp2_with (first | (go_at_call 32; refine H32.out.mono ?_; rintro x w8 ⟨rfl, hb8⟩; have HR8 := Aa.mk (rrule_below HR5.out hb8); have HB8 := Aa.mk (HB5.out.trans (hb8.mono (Nat.le_trans HBW.out HB5.out.size))); obtain ⟨⟨u8, s8⟩, t8⟩ := HCELL.out w8 HR8.out 3 (by decide); clear hb8))
   go_ret
   exact HEND.out w8 HR8.out HB8.out 3 (.string val) _ _ (by decide) (fun v => rfl) rfl HF.out
  ·have HF := Aa.mk (rule_else (pools := p.pools) (r := Cy p.rules) (k := key) (v := val) HK1.out (fun h => absurd h hk2) (fun _ => by rw [hI]; exact h0))
   have b5 : decide (0 ≤ I) = false := decide_eq_false h0
   clear hk3 hI hk2
   go_wp2_with (first | (go_at_call 32; refine H32.out.mono ?_; rintro x w8 ⟨rfl, hb8⟩; have HB8 := Aa.mk hb8; clear hb8))
   go_ret
   exact HBAD.out _ HF.out (HB5.out.trans (HB8.out.mono (Nat.le_trans HBW.out HB5.out.size)))
 ·have b4 : (key.toList == [112, 111, 111, 108]) = false := beq_eq_false_iff_ne.2 hk3
  have HF := Aa.mk (rule_else (pools := p.pools) (r := Cy p.rules) (k := key) (v := val) HK1.out (fun h => absurd h hk2) (fun h => absurd h hk3))
  clear hk3 hk2
  go_wp2_with (fail)
  go_ret
  exact HB0.out HF.out
theorem name_some {x : ByteArray} (h : Ce x = true) : x.toList ≠ [] := fun q => by
 have h1 := (Hk h).1
 rw [Lib.size_eq, ← Lib.toList_data, q] at h1
 exact absurd h1 (by decide)
theorem deep22_calls (base B : Nat) (p : Pst) (o : Opn) (t : ByteArray) (ht : t.size ≤ 1048576) (w : World) (h : RSt w base B p o) (hG : GM p o) :
 Calls Tryz.prog 22 #[.pointer (some ⟨B, 0, none⟩), .string t] w fun x w' => x = .returned (.int .i64 (B7 p o t).2.2) ∧ Below base w w' ∧ ((B7 p o t).2.2 = 0 → RSt w' base B (B7 p o t).1 (B7 p o t).2.1) := by
 cases o with
 | none => exact (deep22_none base B p t ht w h).mono (fun x w' q => ⟨by rw [q.1, deep_none_E], q.2, fun h0 => by rw [deep_none_E] at h0; exact absurd h0 (by decide)⟩)
 | rule =>
  cases hok : (Bt t).2.2 with
  | false => exact (deep22_rule_bad base B p t ht w h hok).mono (fun x w' q => ⟨by rw [q.1, deep_rule_bad p t hok], q.2, fun h0 => by rw [deep_rule_bad p t hok] at h0; exact absurd h0 (by decide)⟩)
  | true => exact deep22_rule_ok base B p t ht (fun x hx => name_some (hG.names x hx)) (by have := hG.plen; omega) w h hok
 | pool => exact deep22_pool base B p t ht w h
 | build outs ins imp ord r own => exact deep22_build base B p outs ins imp ord r own t ht w h
theorem flat24_default (base B : Nat) (p : Pst) (t : ByteArray) (ht : t.size ≤ 1048576) (w : World) (h : RSt w base B p .none) (hlen : p.defs.length ≤ 8) (hw : (cutC 32 t).1.toList = [100, 101, 102, 97, 117, 108, 116]) :
 Calls Tryz.prog 24 #[.pointer (some ⟨B, 0, none⟩), .string t] w fun x w' => x = .returned (.int .i64 (defE p 0 (cutC 32 t).2.1)) ∧ Below base w w' ∧ (defE p 0 (cutC 32 t).2.1 = 0 → RSt w' base B (defP p (cutC 32 t).2.1) .none) := by
 obtain ⟨vE, vP, vD, vR, vO, op, v6, nm, v8, v9, v10, v11, ok, hbB, hb, hR, hS, ho⟩ := h
 obtain rfl : op = 0 := ho
 have hbw : base ≤ w.heap.size := Nat.le_trans hbB (Nat.le_of_lt (Cq hb))
 have H56 := Lib.hid (r56 t ht w)
 have hsz := (Hl 32 t).2
 obtain ⟨rest, hrest⟩ : ∃ q, (cutC 32 t).2.1 = q := ⟨_, rfl⟩
 obtain ⟨wd, hwd⟩ : ∃ q, (cutC 32 t).1 = q := ⟨_, rfl⟩
 rw [hrest, hwd] at H56
 rw [hrest] at hsz ⊢
 rw [hwd] at hw
 have e0 : (wd.toList == [114, 117, 108, 101]) = false := by rw [hw]; decide
 have e1 : (wd.toList == [112, 111, 111, 108]) = false := by rw [hw]; decide
 have e2 : (wd.toList == [98, 117, 105, 108, 100]) = false := by rw [hw]; decide
 have e3 : (wd.toList == [100, 101, 102, 97, 117, 108, 116]) = true := beq_iff_eq.2 hw
 have H57 := fun W => Lib.hid (r57 rest (Nat.le_trans hsz ht) W)
 have hws := Ed rest (Nat.le_trans hsz ht)
 have HB := Aa.mk hb
 have HR := Aa.mk hR
 have HS := Aa.mk hS
 have HWS := Aa.mk hws
 have HE := Lib.hid (def_eq p rest)
 have HP := Lib.hid (show defP p rest = { p with defs := p.defs ++ Bz (Cj rest) } from rfl)
 obtain ⟨AD, cD, rfl⟩ := Kd.Bd hR.2.2.1
 obtain ⟨ws, hwse⟩ : ∃ q, Cj rest = q := ⟨_, rfl⟩
 simp only [hwse] at H57 hws
 rw [hwse] at HE HP
 have H57 := Lib.hid H57
 have hwl := E0 hws
 have H61 : ∀ W A c, Kd.C Kd.string W A ws.length ws → ws.length ≤ c → Calls Tryz.prog 61 #[.slice A ws.length c] W fun e w' => ∃ A c, e = .returned (.tuple #[.slice A (En ws).1.length c, .bool (En ws).2]) ∧ Kd.C Kd.string w' A (En ws).1.length (En ws).1 ∧ Below W.heap.size W w' := fun W A c hC hc => by
  refine (r61 ws (Fy hws) (E0 hws) A c W hC hc).mono ?_
  rintro e w' ⟨v, he, hr, hb'⟩
  obtain ⟨A, c, rfl, _, hC⟩ := Kd.Dl hr
  exact ⟨A, c, he, hC, hb'⟩
 have hcl : (Bz ws).length = ws.length := by unfold Bz; exact List.length_map ..
 clear hb hR hS hwse hrest hwd hw
 cases hac : Dq ws with
 | false =>
  rw [hac] at HE
  simp only [show En ws = ([], false) by unfold En; rw [hac]; rfl] at H61
  replace H61 := Lib.hid H61
  go_enter Tryz.func24, Tryz.ntmps24
  go_wp2_with (first | (go_at_call 56; refine H56.out.mono ?_; rintro x w1 ⟨rfl, hb1⟩; have HB1 := Aa.mk hb1; clear hb1) | (go_at_call 57; refine (H57.out _).out.mono ?_; rintro x w2 ⟨vW, rfl, hrW, hb2⟩; obtain ⟨AW, cW, rfl⟩ := Kd.Bd hrW; have HB2 := Aa.mk (HB1.out.trans (hb2.mono HB1.out.size)); have HRW := Aa.mk hrW; clear hrW hb2) | (go_at_call 61; refine (H61.out _ AW cW (Kd.R_reads' HRW.out).2.2 (Kd.R_reads' HRW.out).2.1).mono ?_; rintro x w3 ⟨A3, c3, rfl, -, hb3⟩; have HB3 := Aa.mk (HB2.out.trans (hb3.mono HB2.out.size)); clear hb3))
  go_ret
  have q : defE p 0 rest = 800 := HE.out
  rw [q]
  exact ⟨rfl, HB3.out.mono hbw, fun h0 => absurd h0 (by decide)⟩
 | true =>
  rw [hac] at HE
  simp only [show En ws = (Bz ws, true) by unfold En; rw [hac]; rfl] at H61
  replace H61 := Lib.hid H61
  obtain ⟨ck, hck⟩ : ∃ q, Bz ws = q := ⟨_, rfl⟩
  rw [hck] at HE HP H61 hcl
  have HCL := Aa.mk hcl
  clear hck hcl
  by_cases h0 : ws.length = 0
  ·have b0 : ((ws.length : Int) == 0) = true := beq_iff_eq.2 (by omega)
   have HE2 := Lib.hid (show defE p 0 rest = 800 by rw [HE.out, decide_eq_false (show ¬ 0 < ws.length by omega)]; rfl)
   clear h0
   go_enter Tryz.func24, Tryz.ntmps24
   go_wp2_with (first | (go_at_call 56; refine H56.out.mono ?_; rintro x w1 ⟨rfl, hb1⟩; have HB1 := Aa.mk hb1; clear hb1) | (go_at_call 57; refine (H57.out _).out.mono ?_; rintro x w2 ⟨vW, rfl, hrW, hb2⟩; obtain ⟨AW, cW, rfl⟩ := Kd.Bd hrW; have HB2 := Aa.mk (HB1.out.trans (hb2.mono HB1.out.size)); have HRW := Aa.mk hrW; clear hrW hb2) | (go_at_call 61; refine (H61.out _ AW cW (Kd.R_reads' HRW.out).2.2 (Kd.R_reads' HRW.out).2.1).mono ?_; rintro x w3 ⟨A3, c3, rfl, -, hb3⟩; have HB3 := Aa.mk (HB2.out.trans (hb3.mono HB2.out.size)); clear hb3))
   go_ret
   rw [HE2.out]
   exact ⟨rfl, HB3.out.mono hbw, fun h0 => absurd h0 (by decide)⟩
  have b0 : ((ws.length : Int) == 0) = false := beq_false_of_ne (by omega)
  have hsum : wrap64 ((p.defs.length : Int) + (ck.length : Int)) = (p.defs.length : Int) + (ck.length : Int) := by have := HCL.out; unfold wrap64; omega
  have HE2 := Lib.hid (show defE p 0 rest = if decide (((p.defs ++ ck).length : Int) ≤ 8) = true then 0 else 801 by rw [HE.out, decide_eq_true (show 0 < ws.length by omega)]; rfl)
  clear HE h0
  by_cases h8 : (8 : Int) < (p.defs.length : Int) + (ck.length : Int)
  ·have b8 : decide ((8 : Int) < (p.defs.length : Int) + (ck.length : Int)) = true := decide_eq_true h8
   have HE3 := Lib.hid (show defE p 0 rest = 801 by rw [HE2.out, decide_eq_false (by rw [List.length_append]; omega)]; rfl)
   go_enter Tryz.func24, Tryz.ntmps24
   go_wp2_with (first | (go_at_call 56; refine H56.out.mono ?_; rintro x w1 ⟨rfl, hb1⟩; have HB1 := Aa.mk hb1; clear hb1) | (go_at_call 57; refine (H57.out _).out.mono ?_; rintro x w2 ⟨vW, rfl, hrW, hb2⟩; obtain ⟨AW, cW, rfl⟩ := Kd.Bd hrW; have HB2 := Aa.mk (HB1.out.trans (hb2.mono HB1.out.size)); have HRW := Aa.mk hrW; clear hrW hb2) | (go_at_call 61; refine (H61.out _ AW cW (Kd.R_reads' HRW.out).2.2 (Kd.R_reads' HRW.out).2.1).mono ?_; rintro x w3 ⟨A3, c3, rfl, -, hb3⟩; have HB3 := Aa.mk (HB2.out.trans (hb3.mono HB2.out.size)); have d2 := Ab (Aj HB.out HB3.out) 2; have d2 : w3.cell? ⟨B, 2, none⟩ = some (.slice AD p.defs.length cD) := d2; clear hb3))
   go_ret
   rw [HE3.out]
   exact ⟨rfl, HB3.out.mono hbw, fun h0 => absurd h0 (by decide)⟩
  ·have b8 : decide ((8 : Int) < (p.defs.length : Int) + (ck.length : Int)) = false := decide_eq_false h8
   have HE3 := Lib.hid (show defE p 0 rest = 0 by rw [HE2.out, decide_eq_true (by rw [List.length_append]; omega)]; rfl)
   obtain ⟨L, hL⟩ : ∃ q, p.defs ++ ck = q := ⟨_, rfl⟩
   rw [hL] at HP
   have HL := Lib.hid hL
   clear hL
   go_enter Tryz.func24, Tryz.ntmps24
   go_upto_region 34 with (first | (go_at_call 56; refine H56.out.mono ?_; rintro x w1 ⟨rfl, hb1⟩; have HB1 := Aa.mk hb1; clear hb1) | (go_at_call 57; refine (H57.out _).out.mono ?_; rintro x w2 ⟨vW, rfl, hrW, hb2⟩; obtain ⟨AW, cW, rfl⟩ := Kd.Bd hrW; have HB2 := Aa.mk (HB1.out.trans (hb2.mono HB1.out.size)); have HRW := Aa.mk hrW; clear hrW hb2) | (go_at_call 61; refine (H61.out _ AW cW (Kd.R_reads' HRW.out).2.2 (Kd.R_reads' HRW.out).2.1).mono ?_; rintro x w3 ⟨A3, c3, rfl, hC3, hb3⟩; have HB3 := Aa.mk (HB2.out.trans (hb3.mono HB2.out.size)); have HC3 := Aa.mk hC3; have HP3 := Aa.mk (Aj HB.out HB3.out); have HR3 := Aa.mk (D8 HR.out HB3.out); have d2 : w3.cell? ⟨B, 2, none⟩ = some (.slice AD p.defs.length cD) := Ab HP3.out 2; clear hb3 hC3) | ((with_reducible refine Cz (b := .append) (xs := #[.tmp 192, .tmp 193]) rfl ?_); at_builtin; refine Kd.R_append_rows Kd.string (w0 := w) base rfl (.tmp 192) (.tmp 193) 24 9 (.string ⟨#[]⟩) 16 rfl Tryz.underlying24 Hh rfl (by decide) (by omega) (.slice AD p.defs.length cD) p.defs ck A3 ck.length c3 (fun _ => True) (fun _ => False) rfl rfl (Kd.De HR3.out.2.2.1 (fun _ _ => trivial)) HC3.out (fun _ _ h => h) (fun _ hk => hk.elim) (fun _ _ => trivial) (HB3.out.mono hbw) (Nat.le_trans hbw HB3.out.size) ?aL ?_; (case aL => have := HCL.out; omega); intro v5 w5 ho5 hb5 hg5 hat5; have hE5 := Kd.R_after (ok := fun _ => True) (Kd.De HR3.out.1 (fun k hk => ⟨trivial, hk.1⟩)) hg5 hat5; rw [HL.out] at ho5; obtain ⟨A5, c5, e5⟩ := Kd.Bd ho5; subst e5; have HP5 := Aa.mk (Dw HP3.out HR3.out.2.2.1 hg5 (by decide)); have HR5 := Aa.mk (show Ha w5 base { p with defs := L } vE vP (.slice A5 L.length c5) vR vO (fun _ => True) from ⟨Kd.De hE5 (fun k hk => ⟨hk.2, trivial⟩), Dd HR3.out.2.1 HR3.out.2.2.1 hg5 (by decide), ho5, Dd HR3.out.2.2.2.1 HR3.out.2.2.1 hg5 (by decide), Dd HR3.out.2.2.2.2 HR3.out.2.2.1 hg5 (by decide)⟩); have HB5 := Aa.mk hb5; have d5 : w5.cell? ⟨B, 2, none⟩ = some (.slice AD p.defs.length cD) := Ab HP5.out 2; have f5 := As HP5.out 2; clear ho5 hb5 hg5 hat5 hE5))
   go_wp2_with (fail)
   go_ret
   rw [HE3.out, HP.out]
   exact ⟨rfl, HB5.out.setCell (p := ⟨B, 2, none⟩) hbB _, fun _ => ⟨_, _, _, _, _, 0, _, _, _, _, _, _, _, hbB, Az HP5.out 2 _ rfl, Hi HR5.out HP5.out 2 _, HS.out, rfl⟩⟩
theorem G5 {w W : World} {B : Nat} (h : Kept w W (fun k => k = B)) (j : Nat) (u : Value) : Kept w (W.setCell ⟨B, j, none⟩ u) (fun k => k = B) := Kept.then_ h (Bm W B j u) (fun k hk => .inl hk)
theorem row_fresh {W w5 : World} {base : Nat} {vD v : Value} {defs xs : List ByteArray} {ok : Nat → Prop} (h : Kd.R Kd.string 9 w5 W.heap.size (fun _ => True) v xs) (hD : Kd.R Kd.string 9 W base ok vD defs) (hb : base ≤ W.heap.size) : Kd.R Kd.string 9 w5 base (fun k => some k ≠ vD.ownBlock) v xs := by
 obtain ⟨_, ho⟩ := Kd.R_own hD
 exact Kd.Dv (Kd.De (Kd.R_new h ho) (fun k hk => hk.2)) hb
theorem flat24_build (base B : Nat) (p : Pst) (t : ByteArray) (ht : t.size ≤ 1048576) (w : World) (h : RSt w base B p .none) (hlen : p.edges.length ≤ 16) (hw : (cutC 32 t).1.toList = [98, 117, 105, 108, 100]) :
 Calls Tryz.prog 24 #[.pointer (some ⟨B, 0, none⟩), .string t] w fun x w' => x = .returned (.int .i64 (Hv p 0 (cutC 32 t).2.1)) ∧ Below base w w' ∧ (Hv p 0 (cutC 32 t).2.1 = 0 → RSt w' base B p (buildO p 0 (cutC 32 t).2.1)) := by
 obtain ⟨vE, vP, vD, vR, vO, op, v6, nm, v8, v9, v10, v11, ok, hbB, hb, hR, hS, ho⟩ := h
 obtain rfl : op = 0 := ho
 have hbw : base ≤ w.heap.size := Nat.le_trans hbB (Nat.le_of_lt (Cq hb))
 have H56 := Lib.hid (r56 t ht w)
 have hsz := (Hl 32 t).2
 obtain ⟨rest, hrest⟩ : ∃ q, (cutC 32 t).2.1 = q := ⟨_, rfl⟩
 obtain ⟨wd, hwd⟩ : ∃ q, (cutC 32 t).1 = q := ⟨_, rfl⟩
 rw [hrest, hwd] at H56
 rw [hrest] at hsz ⊢
 rw [hwd] at hw
 have e0 : (wd.toList == [114, 117, 108, 101]) = false := by rw [hw]; decide
 have e1 : (wd.toList == [112, 111, 111, 108]) = false := by rw [hw]; decide
 have e2 : (wd.toList == [98, 117, 105, 108, 100]) = true := beq_iff_eq.2 hw
 have e3 : (wd.toList == [100, 101, 102, 97, 117, 108, 116]) = false := by rw [hw]; decide
 have H57 := fun W => Lib.hid (r57 rest (Nat.le_trans hsz ht) W)
 have hws := Ed rest (Nat.le_trans hsz ht)
 have HB := Aa.mk hb
 have HR := Aa.mk hR
 have HS := Aa.mk hS
 have HWS := Aa.mk hws
 have HE := Aa.mk (build_eq p rest)
 have HO := Aa.mk (show buildO p 0 rest = Im p (Cr rest) (Ip p 0 (Cr rest)) from rfl)
 have HE1 := Aa.mk (show Ip p 0 (Cr rest) = B9 (Db 0 (Cr rest).2.2.2.2.2) (decide (0 ≤ idxP (fun x : S116 => x.f0.toList == (Cr rest).2.1.toList) p.rules)) from rfl)
 have hsm := buildR_small rest (Nat.le_trans hsz ht)
 have H59 := fun W => words59_calls rest (Nat.le_trans hsz ht) W
 obtain ⟨AE, cE, rfl⟩ := Kd.Bd hR.1
 obtain ⟨AR, cR, rfl⟩ := Kd.Bd hR.2.2.2.1
 obtain ⟨⟨o1, nm1, i1, m1, r1, code⟩, hbe⟩ : ∃ q, Cr rest = q := ⟨_, rfl⟩
 simp only [hbe] at H59 hsm
 rw [hbe] at HE HO HE1
 obtain ⟨s0, s2, s3, s4⟩ := hsm
 obtain ⟨⟨q0, b0⟩, hq0⟩ : ∃ q, En o1 = q := ⟨_, rfl⟩
 obtain ⟨⟨q2, b2⟩, hq2⟩ : ∃ q, En i1 = q := ⟨_, rfl⟩
 obtain ⟨⟨q3, b3⟩, hq3⟩ : ∃ q, En m1 = q := ⟨_, rfl⟩
 obtain ⟨⟨q4, b4⟩, hq4⟩ : ∃ q, En r1 = q := ⟨_, rfl⟩
 have hcl : ∀ {xs q b}, En xs = (q, b) → Dq xs = b ∧ (b = true → q = Bz xs) := fun {xs q b} e => by
  unfold En at e
  split at e
  ·rename_i hh
   injection e with e1 e2
   subst e1; subst e2
   exact ⟨hh, fun _ => rfl⟩
  ·rename_i hh
   injection e with e1 e2
   subst e1; subst e2
   exact ⟨Bool.eq_false_iff.2 hh, fun hq => absurd hq (by decide)⟩
 have HCL := Aa.mk (And.intro (hcl hq0) (And.intro (hcl hq2) (And.intro (hcl hq3) (hcl hq4))))
 have H60 : ∀ (W : World) A0 A2 A3 A4 c0 c2 c3 c4, (Kd.C Kd.string W A0 o1.length o1 ∧ o1.length ≤ c0) → (Kd.C Kd.string W A2 i1.length i1 ∧ i1.length ≤ c2) → (Kd.C Kd.string W A3 m1.length m1 ∧ m1.length ≤ c3) → (Kd.C Kd.string W A4 r1.length r1 ∧ r1.length ≤ c4) → Calls Tryz.prog 60 #[.agg #[.slice A0 o1.length c0, .string nm1, .slice A2 i1.length c2, .slice A3 m1.length c3, .slice A4 r1.length c4]] W fun e w' => ∃ D0 d0 D2 d2 D3 d3 D4 d4, e = .returned (.tuple #[.agg #[.slice D0 q0.length d0, .string nm1, .slice D2 q2.length d2, .slice D3 q3.length d3, .slice D4 q4.length d4], .bool (b0 && (b2 && (b3 && b4)))]) ∧ Kd.R Kd.string 9 w' W.heap.size (fun _ => True) (.slice D0 q0.length d0) q0 ∧ Kd.R Kd.string 9 w' W.heap.size (fun _ => True) (.slice D2 q2.length d2) q2 ∧ Kd.R Kd.string 9 w' W.heap.size (fun _ => True) (.slice D3 q3.length d3) q3 ∧ Kd.R Kd.string 9 w' W.heap.size (fun _ => True) (.slice D4 q4.length d4) q4 ∧ Below W.heap.size W w' := fun W A0 A2 A3 A4 c0 c2 c3 c4 h0 h2 h3 h4 => by
  have hc := r60 o1 i1 m1 r1 nm1 (Fy s0) (Fy s2) (Fy s3) (Fy s4) (E0 s0) (E0 s2) (E0 s3) (E0 s4) A0 A2 A3 A4 c0 c2 c3 c4 W h0.1 h0.2 h2.1 h2.2 h3.1 h3.2 h4.1 h4.2
  rw [hq0, hq2, hq3, hq4] at hc
  refine hc.mono ?_
  rintro e w' ⟨v0, v2, v3, v4, he, r0, r2, r3, r4, hb⟩
  obtain ⟨D0, d0, rfl⟩ := Kd.Bd r0
  obtain ⟨D2, d2, rfl⟩ := Kd.Bd r2
  obtain ⟨D3, d3, rfl⟩ := Kd.Bd r3
  obtain ⟨D4, d4, rfl⟩ := Kd.Bd r4
  exact ⟨D0, d0, D2, d2, D3, d3, D4, d4, he, r0, r2, r3, r4, hb⟩
 replace H60 := Lib.hid H60
 replace H59 := Lib.hid H59
 have H57 := Lib.hid H57
 obtain ⟨al, hal⟩ : ∃ q, (b0 && (b2 && (b3 && b4))) = q := ⟨_, rfl⟩
 simp only [hal] at H60
 have HAL := Aa.mk hal
 obtain ⟨I, hI⟩ : ∃ q, idxP (fun x : S116 => x.f0.toList == nm1.toList) p.rules = q := ⟨_, rfl⟩
 have HII := Aa.mk hI
 have H58 : ∀ W, Below w.heap.size w W → Calls Tryz.prog 58 #[.pointer (some ⟨B, 0, none⟩), .string nm1] W fun e w' => e = .returned (.int .i64 I) ∧ Below W.heap.size W w' := fun W hbb => hI ▸ (find58_drawn base B (fun _ => True) _ _ _ _ _ _ _ _ _ _ _ nm p.rules nm1 W (Aj HB.out hbb) (Kd.Bj HR.out.2.2.2.1 hbb)).mono (fun e w' q => ⟨q.1, q.2.below⟩)
 replace H58 := Lib.hid H58
 clear hb hR hS hws hrest hwd hw hq0 hq2 hq3 hq4 s0 s2 s3 s4 hal hI hbe hcl HWS
 go_enter Tryz.func24, Tryz.ntmps24
 go_upto_region 19 with (first | (go_at_call 56; refine H56.out.mono ?_; rintro x w1 ⟨rfl, hb1⟩; have HB1 := Aa.mk hb1; clear hb1) | (go_at_call 57; refine (H57.out _).out.mono ?_; rintro x w2 ⟨vW, rfl, hrW, hb2⟩; obtain ⟨AW, cW, rfl⟩ := Kd.Bd hrW; have HB2 := Aa.mk (HB1.out.trans (hb2.mono HB1.out.size)); have HRW := Aa.mk hrW; clear hrW hb2) | (go_at_call 59; refine (H59.out _).mono ?_; rintro x w3 ⟨⟨A0, c0, A2, c2, A3, c3, A4, c4, rfl, k0, k2, k3, k4⟩, hb3⟩; have HB3 := Aa.mk (HB2.out.trans (hb3.mono HB2.out.size)); have HK := Aa.mk (And.intro k0 (And.intro k2 (And.intro k3 k4))); clear k0 k2 k3 k4 hb3) | (go_at_call 60; refine (H60.out _ A0 A2 A3 A4 c0 c2 c3 c4 ⟨Kd.Gg HK.out.1.1 _, HK.out.1.2⟩ ⟨Kd.Gg HK.out.2.1.1 _, HK.out.2.1.2⟩ ⟨Kd.Gg HK.out.2.2.1.1 _, HK.out.2.2.1.2⟩ ⟨Kd.Gg HK.out.2.2.2.1 _, HK.out.2.2.2.2⟩).mono ?_; rintro x w5 ⟨D0, d0, D2, d2, D3, d3, D4, d4, rfl, r0, r2, r3, r4, hb5⟩; have hba := HB3.out.alloc HB3.out.size (.cells #[.slice A0 o1.length c0, .string nm1, .slice A2 i1.length c2, .slice A3 m1.length c3, .slice A4 r1.length c4] 66); have hY := Aj (Cv w3 (.cells #[.slice A0 o1.length c0, .string nm1, .slice A2 i1.length c2, .slice A3 m1.length c3, .slice A4 r1.length c4] 66)) hb5; have HB5 := Aa.mk (hba.trans (hb5.mono hba.size)); have hRa := D8 HR.out hba; have hbz := Nat.le_trans hbw hba.size; have HQ5 := Aa.mk (And.intro (row_fresh r0 hRa.2.2.1 hbz) (And.intro (row_fresh r2 hRa.2.2.1 hbz) (And.intro (row_fresh r3 hRa.2.2.1 hbz) (row_fresh r4 hRa.2.2.1 hbz)))); have HZ3 := Aa.mk HB3.out.size; have x0 := Ab hY 0; have x1 := Ab hY 1; have x2 := Ab hY 2; have x3 := Ab hY 3; have x4 := Ab hY 4; have y0 := As hY 0; have y1 := As hY 1; have y2 := As hY 2; have y3 := As hY 3; have y4 := As hY 4; have HY5 := Aa.mk hY; clear r0 r2 r3 r4 hb5 hba hY hRa hbz))
 have HY6 : Aa ((((((w5.setCell ⟨w3.heap.size, 0, none⟩ (.slice D0 q0.length d0)).setCell ⟨w3.heap.size, 1, none⟩ (.string nm1)).setCell ⟨w3.heap.size, 2, none⟩ (.slice D2 q2.length d2)).setCell ⟨w3.heap.size, 3, none⟩ (.slice D3 q3.length d3)).setCell ⟨w3.heap.size, 4, none⟩ (.slice D4 q4.length d4)).heap[w3.heap.size]? = some (.cells #[.slice D0 q0.length d0, .string nm1, .slice D2 q2.length d2, .slice D3 q3.length d3, .slice D4 q4.length d4] 66 (0, 0))) := ⟨(Az (Az (Az (Az (Az HY5.out 0 (.slice D0 q0.length d0) rfl) 1 (.string nm1) rfl) 2 (.slice D2 q2.length d2) rfl) 3 (.slice D3 q3.length d3) rfl) 4 (.slice D4 q4.length d4) rfl)⟩
 have HB6 := Aa.mk (C7 (j := 4) (v := (.slice D4 q4.length d4)) (C7 (j := 3) (v := (.slice D3 q3.length d3)) (C7 (j := 2) (v := (.slice D2 q2.length d2)) (C7 (j := 1) (v := (.string nm1)) (C7 (j := 0) (v := (.slice D0 q0.length d0)) HB5.out HZ3.out) HZ3.out) HZ3.out) HZ3.out) HZ3.out)
 have hk6 : Kept w5 (((((w5.setCell ⟨w3.heap.size, 0, none⟩ (.slice D0 q0.length d0)).setCell ⟨w3.heap.size, 1, none⟩ (.string nm1)).setCell ⟨w3.heap.size, 2, none⟩ (.slice D2 q2.length d2)).setCell ⟨w3.heap.size, 3, none⟩ (.slice D3 q3.length d3)).setCell ⟨w3.heap.size, 4, none⟩ (.slice D4 q4.length d4)) (fun k => k = w3.heap.size) := (G5 (G5 (G5 (G5 (G5 (Kept.of_below (Below.refl _ _) _) 0 (.slice D0 q0.length d0)) 1 (.string nm1)) 2 (.slice D2 q2.length d2)) 3 (.slice D3 q3.length d3)) 4 (.slice D4 q4.length d4))
 have hX6 : ∀ k, k = w3.heap.size → ∃ cells q, w5.heap[k]? = some (.cells cells q (0, 0)) ∧ q ∉ [9] := fun k hk => by subst hk; exact ⟨_, 66, HY5.out, by decide⟩
 have HQ6 := Aa.mk (And.intro (Bf HQ5.out.1 hk6 hX6) (And.intro (Bf HQ5.out.2.1 hk6 hX6) (And.intro (Bf HQ5.out.2.2.1 hk6 hX6) (Bf HQ5.out.2.2.2 hk6 hX6))))
 clear hk6 hX6 HY5 HQ5 HB5 x0 x1 x2 x3 x4 y0 y1 y2 y3 y4 HK
 generalize ((((w5.setCell ⟨w3.heap.size, 0, none⟩ (.slice D0 q0.length d0)).setCell ⟨w3.heap.size, 1, none⟩ (.string nm1)).setCell ⟨w3.heap.size, 2, none⟩ (.slice D2 q2.length d2)).setCell ⟨w3.heap.size, 3, none⟩ (.slice D3 q3.length d3)).setCell ⟨w3.heap.size, 4, none⟩ (.slice D4 q4.length d4) = w6 at HY6 HB6 HQ6 ⊢
 obtain ⟨X2, hX2⟩ : ∃ q, w3.heap.size = q := ⟨_, rfl⟩
 rw [hX2] at HY6 HZ3 ⊢
 clear hX2
 by_cases hc : code = 0
 case neg =>
  have bc : (code != 0) = true := bne_iff_ne.2 hc
  go_wp2_with (fail)
  go_ret
  rw [HE.out, if_neg (fun q => hc q.1.1)]
  exact ⟨rfl, HB6.out.mono hbw, fun h0 => absurd h0 (by decide)⟩
 have bc : (code != 0) = false := bne_eq_false_iff_eq.2 hc
 have HCO := Lib.hid hc
 clear hc
 have HALL := Aa.mk (show (Dq o1 && (Dq i1 && (Dq m1 && Dq r1))) = al by rw [HCL.out.1.1, HCL.out.2.1.1, HCL.out.2.2.1.1, HCL.out.2.2.2.1]; exact HAL.out)
 cases al with
 | false =>
  go_wp2_with (fail)
  go_ret
  rw [HE.out, if_neg (fun q => by have q2 := q.2; rw [HALL.out] at q2; exact absurd q2 (by decide))]
  exact ⟨rfl, HB6.out.mono hbw, fun h0 => absurd h0 (by decide)⟩
 | true =>
  have k6 : w6.cell? ⟨X2, 1, none⟩ = some (.string nm1) := Ab HY6.out 1
  by_cases hi : I < 0
  ·have bi : decide (I < 0) = true := decide_eq_true hi
   have HE2 := Lib.hid (show Hv p 0 rest = 800 by rw [HE.out, if_neg (fun q => by have q2 := q.1.2; rw [HII.out] at q2; omega)])
   clear hi
   go_wp2_with (first | (go_at_call 58; refine (H58.out _ HB6.out).mono ?_; rintro x w7 ⟨rfl, hb7⟩; have HB7 := Aa.mk (HB6.out.trans (hb7.mono HB6.out.size)); clear hb7))
   go_ret
   rw [HE2.out]
   exact ⟨rfl, HB7.out.mono hbw, fun h0 => absurd h0 (by decide)⟩
  have bi : decide (I < 0) = false := decide_eq_false hi
  have HE2 := Lib.hid (show Hv p 0 rest = if decide ((p.edges.length : Int) < 16) = true then 0 else 801 by rw [HE.out, if_pos ⟨⟨HCO.out, by show 0 ≤ idxP (fun x : S116 => x.f0.toList == nm1.toList) p.rules; rw [HII.out]; omega⟩, HALL.out⟩])
  have HIN := Aa.mk (show 0 ≤ I by omega)
  clear hi
  by_cases h16 : p.edges.length = 16
  ·have b16 : ((p.edges.length : Int) == 16) = true := beq_iff_eq.2 (by omega)
   have HE3 := Lib.hid (show Hv p 0 rest = 801 by rw [HE2.out, decide_eq_false (show ¬ (p.edges.length : Int) < 16 by omega)]; rfl)
   clear h16
   go_wp2_with (first | (go_at_call 58; refine (H58.out _ HB6.out).mono ?_; rintro x w7 ⟨rfl, hb7⟩; have HB7 := Aa.mk (HB6.out.trans (hb7.mono HB6.out.size)); have z0 : w7.cell? ⟨B, 0, none⟩ = some (.slice AE p.edges.length cE) := Ab (Aj HB.out HB7.out) 0; clear hb7))
   go_ret
   rw [HE3.out]
   exact ⟨rfl, HB7.out.mono hbw, fun h0 => absurd h0 (by decide)⟩
  have b16 : ((p.edges.length : Int) == 16) = false := beq_false_of_ne (by omega)
  have HE3 := Lib.hid (show Hv p 0 rest = 0 by rw [HE2.out, decide_eq_true (show (p.edges.length : Int) < 16 by omega)]; rfl)
  clear h16
  go_wp2_with (first | (go_at_call 58; refine (H58.out _ HB6.out).mono ?_; rintro x w7 ⟨rfl, hb7⟩; have HB7 := Aa.mk (HB6.out.trans (hb7.mono HB6.out.size)); have HP7 := Aa.mk (Aj HB.out HB7.out); have z0 : w7.cell? ⟨B, 0, none⟩ = some (.slice AE p.edges.length cE) := Ab HP7.out 0; have HQ7 := Aa.mk (And.intro (Kd.Bj HQ6.out.1 hb7) (And.intro (Kd.Bj HQ6.out.2.1 hb7) (And.intro (Kd.Bj HQ6.out.2.2.1 hb7) (Kd.Bj HQ6.out.2.2.2 hb7)))); have hY7 := Aj HY6.out hb7; have y0 : w7.cell? ⟨X2, 0, none⟩ = some (.slice D0 q0.length d0) := Ab hY7 0; have y1 : w7.cell? ⟨X2, 1, none⟩ = some (.string nm1) := Ab hY7 1; have y2 : w7.cell? ⟨X2, 2, none⟩ = some (.slice D2 q2.length d2) := Ab hY7 2; have y3 : w7.cell? ⟨X2, 3, none⟩ = some (.slice D3 q3.length d3) := Ab hY7 3; have y4 : w7.cell? ⟨X2, 4, none⟩ = some (.slice D4 q4.length d4) := Ab hY7 4; have u5 : w7.cell? ⟨B, 5, none⟩ = some (.int .i64 0) := Ab HP7.out 5; have f5 := As HP7.out 5; have u6 : w7.cell? ⟨B, 6, none⟩ = some (v6) := Ab HP7.out 6; have f6 := As HP7.out 6; have u7 : w7.cell? ⟨B, 7, none⟩ = some (.string nm) := Ab HP7.out 7; have f7 := As HP7.out 7; have u8 : w7.cell? ⟨B, 8, none⟩ = some (v8) := Ab HP7.out 8; have f8 := As HP7.out 8; have u9 : w7.cell? ⟨B, 9, none⟩ = some (v9) := Ab HP7.out 9; have f9 := As HP7.out 9; have u10 : w7.cell? ⟨B, 10, none⟩ = some (v10) := Ab HP7.out 10; have f10 := As HP7.out 10; have u11 : w7.cell? ⟨B, 11, none⟩ = some (v11) := Ab HP7.out 11; have f11 := As HP7.out 11; clear hb7 hY7))
  go_ret
  have hE1 : Ip p 0 (o1, nm1, i1, m1, r1, code) = 0 := by
   rw [HE1.out]
   show B9 (Db 0 code) (decide (0 ≤ idxP (fun x : S116 => x.f0.toList == nm1.toList) p.rules)) = 0
   rw [HCO.out, HII.out, decide_eq_true HIN.out]
   rfl
  have hbs := HAL.out
  simp only [Bool.and_eq_true] at hbs
  have hO : buildO p 0 rest = .build q0 q2 q3 q4 (Eh p.rules I) [] := by
   rw [HO.out]
   unfold Im
   rw [if_pos hE1, HCL.out.1.2 hbs.1, HCL.out.2.1.2 hbs.2.1, HCL.out.2.2.1.2 hbs.2.2.1, HCL.out.2.2.2.2 hbs.2.2.2, ← HII.out]
  have HB7b := HB7.out.mono hbw
  rw [HE3.out, hO]
  have hk := (show Kept w7 _ (fun k => k = B) from (G5 (G5 (G5 (G5 (G5 (G5 (G5 (Kept.of_below (Below.refl _ _) _) 6 (.slice D0 q0.length d0)) 7 (.string nm1)) 8 (.slice D2 q2.length d2)) 9 (.slice D3 q3.length d3)) 10 (.slice D4 q4.length d4)) 11 (.slice none 0 0)) 5 (.int .i64 3)))
  refine ⟨rfl, (((((((HB7b.setCell (p := ⟨B, 6, none⟩) hbB (.slice D0 q0.length d0)).setCell (p := ⟨B, 7, none⟩) hbB (.string nm1)).setCell (p := ⟨B, 8, none⟩) hbB (.slice D2 q2.length d2)).setCell (p := ⟨B, 9, none⟩) hbB (.slice D3 q3.length d3)).setCell (p := ⟨B, 10, none⟩) hbB (.slice D4 q4.length d4)).setCell (p := ⟨B, 11, none⟩) hbB (.slice none 0 0)).setCell (p := ⟨B, 5, none⟩) hbB (.int .i64 3)), fun _ => ⟨_, _, _, _, _, 3, _, nm1, _, _, _, _, ok, hbB, (Az (Az (Az (Az (Az (Az (Az HP7.out 6 (.slice D0 q0.length d0) rfl) 7 (.string nm1) rfl) 8 (.slice D2 q2.length d2) rfl) 9 (.slice D3 q3.length d3) rfl) 10 (.slice D4 q4.length d4) rfl) 11 (.slice none 0 0) rfl) 5 (.int .i64 3) rfl), RRows_keptB (D8 HR.out HB7.out) HP7.out hk, HS.out, rfl, Bf HQ7.out.1 hk (Dt HP7.out (by decide)), Bf HQ7.out.2.1 hk (Dt HP7.out (by decide)), Bf HQ7.out.2.2.1 hk (Dt HP7.out (by decide)), Bf HQ7.out.2.2.2 hk (Dt HP7.out (by decide)), Kd.Di _ _ _ _ _, smallS_nil, by rw [HII.out]; exact HIN.out, by rw [HII.out]⟩⟩
theorem flat24_bind (base B : Nat) (p : Pst) (t : ByteArray) (ht : t.size ≤ 1048576) (w : World) (h : RSt w base B p .none) (hw0 : (cutC 32 t).1.toList ≠ [114, 117, 108, 101]) (hw1 : (cutC 32 t).1.toList ≠ [112, 111, 111, 108]) (hw2 : (cutC 32 t).1.toList ≠ [98, 117, 105, 108, 100]) (hw3 : (cutC 32 t).1.toList ≠ [100, 101, 102, 97, 117, 108, 116]) :
 Calls Tryz.prog 24 #[.pointer (some ⟨B, 0, none⟩), .string t] w fun x w' => x = .returned (.int .i64 (Ft p t).2.2) ∧ Below base w w' ∧ ((Ft p t).2.2 = 0 → RSt w' base B (Ft p t).1 (Ft p t).2.1) := by
 obtain ⟨vE, vP, vD, vR, vO, op, v6, nm, v8, v9, v10, v11, ok, hbB, hb, hR, hS, ho⟩ := h
 obtain rfl : op = 0 := ho
 have hbw : base ≤ w.heap.size := Nat.le_trans hbB (Nat.le_of_lt (Cq hb))
 have H56 := Lib.hid (r56 t ht w)
 have hsz := (Hl 32 t).2
 obtain ⟨rest, hrest⟩ : ∃ q, (cutC 32 t).2.1 = q := ⟨_, rfl⟩
 obtain ⟨wd, hwd⟩ : ∃ q, (cutC 32 t).1 = q := ⟨_, rfl⟩
 rw [hrest, hwd] at H56
 rw [hrest] at hsz
 rw [hwd] at hw0 hw1 hw2 hw3
 have e0 : (wd.toList == [114, 117, 108, 101]) = false := beq_false_of_ne hw0
 have e1 : (wd.toList == [112, 111, 111, 108]) = false := beq_false_of_ne hw1
 have e2 : (wd.toList == [98, 117, 105, 108, 100]) = false := beq_false_of_ne hw2
 have e3 : (wd.toList == [100, 101, 102, 97, 117, 108, 116]) = false := beq_false_of_ne hw3
 have H57 := fun W => Lib.hid (r57 rest (Nat.le_trans hsz ht) W)
 have hws := Ed rest (Nat.le_trans hsz ht)
 have HB := Aa.mk hb
 have HR := Aa.mk hR
 have HS := Aa.mk hS
 have HWS := Aa.mk hws
 obtain ⟨hq1, hq2⟩ := rb_flat p t
 have H52 := Lib.hid (fun (W : World) (hb : Below w.heap.size w W) => bind52_true base B vE vP vD vR vO v6 v8 v9 v10 v11 0 nm p.outer t W hbB (Aj HB.out hb) (Kd.Bj HR.out.2.2.2.2 hb) hS ht)
 obtain ⟨E, hE⟩ : ∃ q, (Ft p t).2.2 = q := ⟨_, rfl⟩
 rw [hE] at hq1 ⊢
 simp only [← hq1] at H52 hq2
 have HQ := Lib.hid hq2
 have H57 := Lib.hid H57
 clear hb hR hws hrest hwd hw0 hw1 hw2 hw3 hS hq1 hq2 hE HWS
 go_enter Tryz.func24, Tryz.ntmps24
 go_wp2_with (first | (go_at_call 56; refine H56.out.mono ?_; rintro x w1 ⟨rfl, hb1⟩; have HB1 := Aa.mk hb1; clear hb1) | (go_at_call 57; refine (H57.out _).out.mono ?_; rintro x w2 ⟨vW, rfl, hrW, hb2⟩; obtain ⟨AW, cW, rfl⟩ := Kd.Bd hrW; have HB2 := Aa.mk (HB1.out.trans (hb2.mono HB1.out.size)); have HRW := Aa.mk hrW; clear hrW hb2) | (go_at_call 52; refine (H52.out _ HB2.out).mono ?_; rintro x w5 ⟨rfl, hb5, hk5, h05⟩; have HB5 := Aa.mk hb5; have HK5 := Aa.mk hk5; have H05 := Aa.mk h05; clear hb5 hk5 h05))
 go_ret
 refine ⟨rfl, (HB2.out.mono hbw).trans HB5.out, fun h0 => ?_⟩
 obtain ⟨v', hb', hv'⟩ := H05.out h0
 obtain ⟨e1, e2⟩ := HQ.out h0
 rw [e1, e2]
 obtain ⟨h1, h2, h3, h4, -⟩ := RRows_keptB (D8 HR.out HB2.out) (Aj HB.out HB2.out) HK5.out
 exact ⟨vE, vP, vD, vR, v', 0, v6, nm, v8, v9, v10, v11, ok, hbB, hb', ⟨h1, h2, h3, h4, hv'⟩, smallS_put HS.out _ _, rfl⟩
theorem flat24_calls (base B : Nat) (p : Pst) (t : ByteArray) (ht : t.size ≤ 1048576) (w : World) (h : RSt w base B p .none) (hI : Inv p .none) :
 Calls Tryz.prog 24 #[.pointer (some ⟨B, 0, none⟩), .string t] w fun x w' => x = .returned (.int .i64 (F8 p t).2.2) ∧ Below base w w' ∧ ((F8 p t).2.2 = 0 → RSt w' base B (F8 p t).1 (F8 p t).2.1) := by
 obtain ⟨i1, i2, i3, i4, i5, i6, i7⟩ := hI
 by_cases h0 : (cutC 32 t).1.toList = [114, 117, 108, 101]
 ·rw [show F8 p t = ({ p with rules := p.rules ++ [⟨(oneW 0 (cutC 32 t).2.1).1, ⟨#[]⟩, ⟨#[]⟩, false, false⟩] }, .rule, ruleE p 0 (cutC 32 t).2.1) by unfold F8; simp only; rw [if_pos (beq_iff_eq.2 h0)]]
  exact flat24_rule base B p t ht w h i3 h0
 by_cases h1 : (cutC 32 t).1.toList = [112, 111, 111, 108]
 ·rw [show F8 p t = ({ p with pools := p.pools ++ [⟨(oneW 0 (cutC 32 t).2.1).1, 0⟩] }, .pool, poolE p 0 (cutC 32 t).2.1) by unfold F8; simp only; rw [if_neg (fun q => h0 (eq_of_beq q)), if_pos (beq_iff_eq.2 h1)]]
  exact flat24_pool base B p t ht w h i4 h1
 by_cases h2 : (cutC 32 t).1.toList = [98, 117, 105, 108, 100]
 ·rw [show F8 p t = (p, buildO p 0 (cutC 32 t).2.1, Hv p 0 (cutC 32 t).2.1) by unfold F8; simp only; rw [if_neg (fun q => h0 (eq_of_beq q)), if_neg (fun q => h1 (eq_of_beq q)), if_pos (beq_iff_eq.2 h2)]]
  exact flat24_build base B p t ht w h i5 h2
 by_cases h3 : (cutC 32 t).1.toList = [100, 101, 102, 97, 117, 108, 116]
 ·rw [show F8 p t = (defP p (cutC 32 t).2.1, .none, defE p 0 (cutC 32 t).2.1) by unfold F8; simp only; rw [if_neg (fun q => h0 (eq_of_beq q)), if_neg (fun q => h1 (eq_of_beq q)), if_neg (fun q => h2 (eq_of_beq q)), if_pos (beq_iff_eq.2 h3)]]
  exact flat24_default base B p t ht w h i6 h3
 rw [show F8 p t = Ft p t by unfold F8; simp only; rw [if_neg (fun q => h0 (eq_of_beq q)), if_neg (fun q => h1 (eq_of_beq q)), if_neg (fun q => h2 (eq_of_beq q)), if_neg (fun q => h3 (eq_of_beq q))]]
 exact flat24_bind base B p t ht w h h0 h1 h2 h3
def Ans (w w' : World) (e : Ending) (r : List S42 × List S44 × List ByteArray × Int) : Prop := ∃ v0_ v1_ v2_ : Value, e = .returned (.tuple #[.agg #[v0_, v1_, v2_], .int .i64 r.2.2.2]) ∧
 Kd.R k42 42 w' w.heap.size (fun k_ => some k_ ≠ (v1_ : Value).ownBlock ∧ some k_ ≠ (v2_ : Value).ownBlock) v0_ r.1 ∧ Kd.R k44 44 w' w.heap.size (fun k_ => some k_ ≠ (v0_ : Value).ownBlock ∧ some k_ ≠ (v2_ : Value).ownBlock) v1_ r.2.1 ∧ Kd.R Kd.string 9 w' w.heap.size (fun k_ => some k_ ≠ (v0_ : Value).ownBlock ∧ some k_ ≠ (v1_ : Value).ownBlock) v2_ r.2.2.1 ∧ Below w.heap.size w w'
theorem ans_nil {w w' : World} {c : Int} (hb : Below w.heap.size w w') : Ans w w' (.returned (.tuple #[.agg #[.slice none 0 0, .slice none 0 0, .slice none 0 0], .int .i64 c])) ([], [], [], c) :=
 ⟨_, _, _, rfl, Kd.Di _ _ _ _ _, Kd.Di _ _ _ _ _, Kd.Di _ _ _ _ _, hb⟩
theorem linesGo_len : ∀ (k : Nat) (rs : List ByteArray) (out : List S59), (E8 k rs out).1.length ≤ out.length + k
 | 0, rs, out => by cases rs <;> exact Nat.le_refl _
 | _ + 1, [], out => Nat.le_add_right _ _
 | k + 1, r :: rs, out => by
  unfold E8
  cases hj : Ff r r rs with
  | none => exact Nat.zero_le _
  | some q =>
   have h1 := linesGo_len k q.2 (Gc out q.1)
   have h2 : (Gc out q.1).length ≤ out.length + 1 := by
    unfold Gc
    split
    ·omega
    ·rw [List.length_append, List.length_singleton]; omega
   simp only
   omega
theorem splitL_len : ∀ (l cur : List UInt8), (Ek cur l).length ≤ l.length + 1
 | [], cur => by simp [Ek]
 | c :: l, cur => by
  unfold Ek
  split
  ·have := splitL_len l []
   simp only [List.length_cons]
   omega
  ·have := splitL_len l (cur ++ [c])
   simp only [List.length_cons]
   omega
theorem lines_len (s : ByteArray) (hs : s.size ≤ 9223372036854775807) : (Ef s).1.length ≤ 4096 := by
 unfold Ef
 split
 ·rename_i hm
  unfold mayB at hm
  simp only [Bool.and_eq_true, Bool.or_eq_true, decide_eq_true_eq] at hm
  have h1 := linesGo_len (rowsOf s).length (rowsOf s) []
  have h2 := splitL_len s.data.toList []
  have h3 : (rowsOf s).length ≤ (Ek [] s.data.toList).length := by unfold rowsOf; rw [List.length_map, List.length_dropLast]; omega
  have h4 := hm.1
  rw [Lib.size_eq] at h4
  simp only [List.length_nil] at h1
  omega
 ·exact Nat.zero_le _
theorem parseGo_cons (x : S59) (l : List S59) (p : Pst) (o : Opn) : Fw (x :: l) p o = if (Ez p o x.f0 x.f1).2.2 = 0 then Fw l (Ez p o x.f0 x.f1).1 (Ez p o x.f0 x.f1).2.1 else Ez p o x.f0 x.f1 := rfl
theorem g_nil {w : World} {G : Nat} (h : w.heap[G]? = some (.cells #[.slice none 0 0, .slice none 0 0, .slice none 0 0] 26 (0, 0))) : (((w.setCell ⟨G, 0, none⟩ (.slice none 0 0)).setCell ⟨G, 1, none⟩ (.slice none 0 0)).setCell ⟨G, 2, none⟩ (.slice none 0 0)).heap[G]? = some (.cells #[.slice none 0 0, .slice none 0 0, .slice none 0 0] 26 (0, 0)) := Az (Az (Az h 0 _ rfl) 1 _ rfl) 2 _ rfl
theorem g_put {w : World} {G : Nat} {a b c : Value} (h : w.heap[G]? = some (.cells #[.slice none 0 0, .slice none 0 0, .slice none 0 0] 26 (0, 0))) : (((w.setCell ⟨G, 0, none⟩ a).setCell ⟨G, 1, none⟩ b).setCell ⟨G, 2, none⟩ c).heap[G]? = some (.cells #[a, b, c] 26 (0, 0)) := Az (Az (Az h 0 _ rfl) 1 _ rfl) 2 _ rfl
theorem g_below {w W : World} {a b c : Value} (h : Below w.heap.size w W) : Below w.heap.size w (((W.setCell ⟨w.heap.size, 0, none⟩ a).setCell ⟨w.heap.size, 1, none⟩ b).setCell ⟨w.heap.size, 2, none⟩ c) :=
 ((h.setCell (p := ⟨w.heap.size, 0, none⟩) (Nat.le_refl _) _).setCell (p := ⟨w.heap.size, 1, none⟩) (Nat.le_refl _) _).setCell (p := ⟨w.heap.size, 2, none⟩) (Nat.le_refl _) _
theorem R_not {α β : Type} {d : Kd α} {d' : Kd β} {e t base base' : Nat} {ok ok' : Nat → Prop} {w : World} {v v' : Value} {xs : List α} {ys : List β} (h : d.R e w base ok v xs) (h' : d'.R t w base' ok' v' ys) (ht : t ∉ e :: d.E) : d.R e w base (fun k => ok k ∧ some k ≠ v'.ownBlock) v xs :=
 Kd.De (Kd.Ex h) (fun k hk => ⟨hk.1, fun he => by
  obtain ⟨_, _, _, q, hq, cells, hc⟩ := hk
  obtain ⟨cells2, hc2⟩ := Da h' he.symm
  rw [hc] at hc2
  simp only [Option.some.injEq, Obj.cells.injEq] at hc2
  exact ht (hc2.2.1 ▸ hq)⟩)
theorem parse_calls (s : ByteArray) (hs : s.size ≤ 9223372036854775807) (w : World) :
 Calls Tryz.prog 10 #[.string s] w fun e w' => Ans w w' e (Ge s) := by
 have hls := lines_size s
 have hln := lines_len s hs
 have HL := Lib.hid (lines_calls s hs (w.alloc (.cells #[.slice none 0 0, .slice none 0 0, .slice none 0 0] 26)))
 obtain ⟨Z, hZ⟩ : ∃ Z, Ge s = Z := ⟨_, rfl⟩
 have hZ2 := hZ
 rw [hZ]
 unfold Ge at hZ2
 obtain ⟨⟨ls, c⟩, hlc⟩ : ∃ q, Ef s = q := ⟨_, rfl⟩
 rw [hlc] at hls hln HL hZ2
 simp only at hls hln HL hZ2
 have HZ := Lib.hid hZ2
 have HLS := Lib.hid hls
 clear hls hZ hZ2 hlc
 have HA := Aa.mk ((Below.refl w.heap.size w).alloc (Nat.le_refl _) (.cells #[.slice none 0 0, .slice none 0 0, .slice none 0 0] 26))
 have HGa := Aa.mk (Cv w (.cells #[.slice none 0 0, .slice none 0 0, .slice none 0 0] 26))
 have hsz : (w.alloc (.cells #[.slice none 0 0, .slice none 0 0, .slice none 0 0] 26)).heap.size = w.heap.size + 1 := by simp
 by_cases h0 : c = 0
 ·subst h0
  have hz := HZ.out
  rw [if_pos rfl] at hz
  have HZ1 := Lib.hid hz
  clear hz HZ
  go_enter Tryz.func10, Tryz.ntmps10
  go_upto_region 5 with (first | (go_at_call 18; refine HL.out.mono ?_; rintro x w1 ⟨vl, rfl, hl, hb⟩; obtain ⟨Al, cl, rfl⟩ := Kd.Bd hl; have HG1 := Aa.mk (Aj HGa.out hb); have RL1 := Aa.mk (Kd.R_reads' hl).2.2; have HB1 := Aa.mk (HA.out.trans (hb.mono (by omega))); clear hl hb HGa HA))
  have hGB : w.heap.size < w1.heap.size := Cq HG1.out
  have hd := (Below.refl w1.heap.size w1).alloc (Nat.le_refl _) (.cells #[.slice none 0 0, .slice none 0 0, .slice none 0 0, .slice none 0 0, .slice none 0 0, .nilFunc, .nilFunc, .int .i64 0] 57)
  have HM2 : Aa (Mst (w1.alloc (.cells #[.slice none 0 0, .slice none 0 0, .slice none 0 0, .slice none 0 0, .slice none 0 0, .nilFunc, .nilFunc, .int .i64 0] 57)) w1.heap.size w1.heap.size pst0 .none 0) := ⟨⟨_, _, _, _, _, _, _, Nat.le_refl _, Cv w1 _, ⟨Kd.Di _ _ _ _ _, Kd.Di _ _ _ _ _, Kd.Di _ _ _ _ _, Kd.Di _ _ _ _ _, Kd.Di _ _ _ _ _⟩, rfl, rfl⟩⟩
  have HB2 := Aa.mk hd
  clear hd
  obtain ⟨B, hB⟩ : ∃ B, w1.heap.size = B := ⟨_, rfl⟩
  rw [hB] at HM2 HB2 hGB ⊢
  have hBG : B ≠ w.heap.size := by omega
  have HBB := Lib.hid hB
  clear hB
  generalize w1.alloc (.cells #[.slice none 0 0, .slice none 0 0, .slice none 0 0, .slice none 0 0, .slice none 0 0, .nilFunc, .nilFunc, .int .i64 0] 57) = w2 at HM2 HB2 ⊢
  go_wp2_with fail
  go_loopw [8, 21] (fun v8 v21 wr => ∃ (k : Nat) (p : Pst) (o : Opn), v21 = .int .i64 k ∧ k ≤ ls.length ∧ Aa (Fw ls pst0 .none = Fw (ls.drop k) p o) ∧ Aa (Inv p o) ∧ Aa (Mst wr B B p o 0) ∧ Aa (Below B w1 wr)) (fun v8 v21 _ => ls.length - (intOf v21).toNat)
  case atStart => exact ⟨0, pst0, .none, rfl, Nat.zero_le _, ⟨by rw [List.drop_zero]⟩, ⟨inv0⟩, ⟨HM2.out⟩, ⟨HB2.out⟩⟩
  case round =>
   obtain ⟨k, p, o, rfl, hk, HPG, HIV, HM, HB⟩ := hrel
   have hBw : B ≤ wr.heap.size := by
    have h1 := HB.out.size
    have h2 := HBB.out
    omega
   have HG := Aa.mk ((HB.out.block _ hGB).trans HG1.out)
   by_cases hlt : k < ls.length
   ·have RLr := Aa.mk (Kd.Bb RL1.out (by rw [HBB.out]; exact HB.out))
    obtain ⟨ad, rfl, r0, r1⟩ := at_T59 RLr.out (k : Int) (by omega) (by omega)
    have hx := HLS.out _ (List.getElem_mem hlt)
    have hrd : rd_T59 ls (k : Int) = ls[k] := by simp [rd_T59, List.getD_eq_getElem?_getD, hlt]
    rw [hrd] at r0 r1
    simp only [Int.toNat_natCast] at r0 r1
    have hgo := HPG.out
    rw [List.drop_eq_getElem_cons hlt] at hgo
    rw [parseGo_cons] at hgo
    generalize ls[k] = x at *
    obtain ⟨xd, xt⟩ := x
    have HA3 := Aa.mk ((Below.refl wr.heap.size wr).alloc (Nat.le_refl _) (.cells #[.bool xd, .string xt] 59))
    have HLC := Lib.hid (line_calls B B p o xd xt hx (wr.alloc (.cells #[.bool xd, .string xt] 59)) (Nat.le_trans hBw HA3.out.size) (Mst_below HM.out HA3.out) HIV.out)
    have hinv := inv_line (p := p) (o := o) (d := xd) hx HIV.out
    obtain ⟨⟨P', O', E'⟩, hL⟩ : ∃ q, Ez p o xd xt = q := ⟨_, rfl⟩
    rw [hL] at HLC hgo hinv
    simp only at HLC hgo hinv r0 r1
    have HINV := Lib.hid hinv
    clear hL hinv
    have CALL := HLC
    by_cases hE : E' = 0
    ·subst hE
     rw [if_pos rfl] at hgo
     have HGO := Aa.mk hgo
     clear hgo
     go_wp2_with (first | (go_at_call 19; refine HLC.out.mono ?_; rintro y w3 ⟨rfl, hm, hb⟩; have HM3 := Aa.mk hm; have HB3 := Aa.mk (HB.out.trans ((HA3.out.mono hBw).trans hb)); obtain ⟨_, _, _, _, _, _, _, _, hp3, _⟩ := hm; have q7 : w3.cell? ⟨B, 7, none⟩ = some (.int .i64 0) := Ab hp3 7; clear hp3 hb))
     exact ⟨⟨k + 1, P', O', by go_num, by omega, ⟨HGO.out⟩, ⟨HINV.out trivial⟩, ⟨HM3.out⟩, ⟨HB3.out⟩⟩, by simp [intOf]; omega⟩
    ·rw [if_neg hE] at hgo
     have HGO := Aa.mk hgo
     clear hgo
     have hEb : (E' != 0) = true := bne_iff_ne.2 hE
     go_upto_region 10 with (first | (go_at_call 19; refine HLC.out.mono ?_; rintro y w3 ⟨rfl, hm, hb⟩; have HB3 := Aa.mk (HB.out.trans ((HA3.out.mono hBw).trans hb)); obtain ⟨_, _, _, _, _, _, _, _, hp3, _⟩ := hm; have HP3 := Aa.mk hp3; have q7 : w3.cell? ⟨B, 7, none⟩ = some (.int .i64 E') := Ab hp3 7; clear hp3 hb))
     have HG3 := Aa.mk ((HB3.out.block _ hGB).trans HG1.out)
     refine sX 7 (S := fun w' => w'.cell? ⟨B, 7, none⟩ = some (.int .i64 E')) (ds := []) (q7) (fun hHeld => ?_)
     have g0 := Ab HG3.out 0
     have g1 := Ab (HG3.out) 1
     have g2 := Ab (HG3.out) 2
     have f0 := As (HG3.out) 0
     have f1 := As (HG3.out) 1
     have f2 := As (HG3.out) 2
     refine pX 0 33 ?_
     refine pX 1 34 ?_
     refine pX 2 35 ?_
     refine pX 3 36 ?_
     refine tX 4 37 hHeld ?_
     refine oX 5 none (fun K hK => ?_)
     refine kX ?_
     refine hK.out _ _ (Ab (E9 (E9 (E9 (blk_drew HP3.out) hBG _) hBG _) hBG _) 7) (fun hHeld => ?_)
     clear hK K
     refine pX 6 3 ?_
     refine dX ?_
     have hz := HZ1.out
     rw [HGO.out] at hz
     unfold Ig at hz
     rw [if_neg hE] at hz
     subst hz
     go_wp2_with fail
     have HGN := blk_drew (g_nil HG3.out)
     have HBN := (g_below (a := .slice none 0 0) (b := .slice none 0 0) (c := .slice none 0 0) (HB1.out.trans (HB3.out.mono (Nat.le_of_lt hGB)))).drew
     generalize (((w3.setCell ⟨w.heap.size, 0, none⟩ (.slice none 0 0)).setCell ⟨w.heap.size, 1, none⟩ (.slice none 0 0)).setCell ⟨w.heap.size, 2, none⟩ (.slice none 0 0)).drew = w9 at HGN HBN ⊢
     have z0 := Ab HGN 0
     have z1 := Ab HGN 1
     have z2 := Ab HGN 2
     refine bodyPost_ret (v := .tuple #[.agg #[.slice none 0 0, .slice none 0 0, .slice none 0 0], .int .i64 E']) (by simp [results, Tryz.results10, go_sem, z0, z1, z2]) rfl ?_
     exact ans_nil HBN
   ·obtain rfl : k = ls.length := by omega
    have hgo := HPG.out
    rw [List.drop_length] at hgo
    have hgo2 : Fw ls pst0 .none = (p, o, 0) := hgo
    have hz := HZ1.out
    rw [hgo2] at hz
    unfold Ig at hz
    rw [if_pos rfl] at hz
    simp only at hz
    clear hgo hgo2
    have HEN := Lib.hid (end_calls B B p o 0 wr HM.out HIV.out w.heap.size 26 _ HG.out (by decide))
    obtain ⟨E', hE'⟩ : ∃ q, Hn p o 0 = q := ⟨_, rfl⟩
    obtain ⟨P', hP'⟩ : ∃ q, Gs p o = q := ⟨_, rfl⟩
    rw [hE', hP'] at HEN hz
    clear hE' hP'
    by_cases hE : E' = 0
    ·subst hE
     rw [if_pos rfl] at hz
     have HZ2 := Lib.hid hz
     clear hz
     go_wp2_with (first | (go_at_call 20; refine HEN.out.mono ?_; rintro y w3 ⟨rfl, hm, hb, hq⟩; have HB3 := Aa.mk (HB.out.trans hb); have HG3 := Aa.mk hq; obtain ⟨vE, vP, vD, vO, vR, fd, fo, _, hp3, hr3, _⟩ := hm; obtain ⟨AE, cE, rfl⟩ := Kd.Bd hr3.1; obtain ⟨AP, cP, rfl⟩ := Kd.Bd hr3.2.1; obtain ⟨AD, cD, rfl⟩ := Kd.Bd hr3.2.2.1; have HP3 := Aa.mk hp3; have HR3 := Aa.mk hr3; have q7 : w3.cell? ⟨B, 7, none⟩ = some (.int .i64 0) := Ab hp3 7; have q0 := Ab hp3 0; have q1 := Ab hp3 1; have q2 := Ab hp3 2; have g0 := Ab HG3.out 0; have g1 := Ab HG3.out 1; have g2 := Ab HG3.out 2; have f0 := As HG3.out 0; have f1 := As HG3.out 1; have f2 := As HG3.out 2; clear hp3 hr3 hb hq))
     have hz2 := HZ2.out
     subst hz2
     have HGN := g_put (a := .slice AE P'.edges.length cE) (b := .slice AP P'.pools.length cP) (c := .slice AD P'.defs.length cD) HG3.out
     have HBN := g_below (a := .slice AE P'.edges.length cE) (b := .slice AP P'.pools.length cP) (c := .slice AD P'.defs.length cD) (HB1.out.trans (HB3.out.mono (Nat.le_of_lt hGB)))
     have hkk := Kept.then_ (Kept.then_ (Bm w3 w.heap.size 0 (.slice AE P'.edges.length cE)) (Bm _ w.heap.size 1 (.slice AP P'.pools.length cP)) (fun k hk => .inl hk)) (Bm _ w.heap.size 2 (.slice AD P'.defs.length cD)) (fun k hk => .inl hk)
     have HRN := B4 HR3.out hkk (Ca HG3.out (by decide))
     clear hkk
     generalize ((w3.setCell ⟨w.heap.size, 0, none⟩ (.slice AE P'.edges.length cE)).setCell ⟨w.heap.size, 1, none⟩ (.slice AP P'.pools.length cP)).setCell ⟨w.heap.size, 2, none⟩ (.slice AD P'.defs.length cD) = w9 at HGN HBN HRN ⊢
     have z0 := Ab HGN 0
     have z1 := Ab HGN 1
     have z2 := Ab HGN 2
     refine bodyPost_ret (v := .tuple #[.agg #[.slice AE P'.edges.length cE, .slice AP P'.pools.length cP, .slice AD P'.defs.length cD], .int .i64 0]) (by simp [results, Tryz.results10, go_sem, z0, z1, z2]) rfl ?_
     obtain ⟨n1, n2, n3, _, _⟩ := HRN
     have hle := Nat.le_of_lt hGB
     exact ⟨_, _, _, rfl, Kd.Dv (Kd.De (R_not n1 n2 (by decide)) (fun k hk => ⟨hk.2, hk.1⟩)) hle, Kd.Dv (Kd.De (R_not (R_not n2 n1 (by decide)) n3 (by decide)) (fun k hk => ⟨hk.1.2, hk.2⟩)) hle, Kd.Dv (Kd.De (R_not (R_not n3 n1 (by decide)) n2 (by decide)) (fun k hk => ⟨hk.1.2, hk.2⟩)) hle, HBN⟩
    ·rw [if_neg hE] at hz
     have HZ2 := Lib.hid hz
     clear hz
     have hEb : (E' != 0) = true := bne_iff_ne.2 hE
     go_upto_region 14 with (first | (go_at_call 20; refine HEN.out.mono ?_; rintro y w3 ⟨rfl, hm, hb, hq⟩; have HB3 := Aa.mk (HB.out.trans hb); have HG3 := Aa.mk hq; obtain ⟨_, _, _, _, _, _, _, _, hp3, _⟩ := hm; have HP3 := Aa.mk hp3; have q7 : w3.cell? ⟨B, 7, none⟩ = some (.int .i64 E') := Ab hp3 7; clear hp3 hb hq))
     refine sX 7 (S := fun w' => w'.cell? ⟨B, 7, none⟩ = some (.int .i64 E')) (ds := []) (q7) (fun hHeld => ?_)
     have g0 := Ab HG3.out 0
     have g1 := Ab (HG3.out) 1
     have g2 := Ab (HG3.out) 2
     have f0 := As (HG3.out) 0
     have f1 := As (HG3.out) 1
     have f2 := As (HG3.out) 2
     refine pX 0 46 ?_
     refine pX 1 47 ?_
     refine pX 2 48 ?_
     refine pX 3 49 ?_
     refine tX 4 50 hHeld ?_
     refine oX 5 none (fun K hK => ?_)
     refine kX ?_
     refine hK.out _ _ (Ab (E9 (E9 (E9 (blk_drew HP3.out) hBG _) hBG _) hBG _) 7) (fun hHeld => ?_)
     clear hK K
     refine pX 6 3 ?_
     refine dX ?_
     have hz := HZ2.out
     subst hz
     go_wp2_with fail
     have HGN := blk_drew (g_nil HG3.out)
     have HBN := (g_below (a := .slice none 0 0) (b := .slice none 0 0) (c := .slice none 0 0) (HB1.out.trans (HB3.out.mono (Nat.le_of_lt hGB)))).drew
     generalize (((w3.setCell ⟨w.heap.size, 0, none⟩ (.slice none 0 0)).setCell ⟨w.heap.size, 1, none⟩ (.slice none 0 0)).setCell ⟨w.heap.size, 2, none⟩ (.slice none 0 0)).drew = w9 at HGN HBN ⊢
     have z0 := Ab HGN 0
     have z1 := Ab HGN 1
     have z2 := Ab HGN 2
     refine bodyPost_ret (v := .tuple #[.agg #[.slice none 0 0, .slice none 0 0, .slice none 0 0], .int .i64 E']) (by simp [results, Tryz.results10, go_sem, z0, z1, z2]) rfl ?_
     exact ans_nil HBN
 ·have h0b : (c != 0) = true := bne_iff_ne.2 h0
  have hz := HZ.out
  rw [if_neg h0] at hz
  subst hz
  go_enter Tryz.func10, Tryz.ntmps10
  go_wp2_with (first | (go_at_call 18; refine HL.out.mono ?_; rintro x w1 ⟨vl, rfl, hl, hb⟩; obtain ⟨Al, cl, rfl⟩ := Kd.Bd hl; have HG1 := Aa.mk (Aj HGa.out hb); have HB1 := Aa.mk (HA.out.trans (hb.mono (by omega))); have g0 := Ab HG1.out 0; have g1 := Ab HG1.out 1; have g2 := Ab HG1.out 2; have f0 := As HG1.out 0; have f1 := As HG1.out 1; have f2 := As HG1.out 2; clear hl hb))
  have HGN := g_nil HG1.out
  have HBN := g_below (a := .slice none 0 0) (b := .slice none 0 0) (c := .slice none 0 0) HB1.out
  generalize ((w1.setCell ⟨w.heap.size, 0, none⟩ (.slice none 0 0)).setCell ⟨w.heap.size, 1, none⟩ (.slice none 0 0)).setCell ⟨w.heap.size, 2, none⟩ (.slice none 0 0) = w9 at HGN HBN ⊢
  have z0 := Ab HGN 0
  have z1 := Ab HGN 1
  have z2 := Ab HGN 2
  refine bodyPost_ret (v := .tuple #[.agg #[.slice none 0 0, .slice none 0 0, .slice none 0 0], .int .i64 800]) (by simp [results, Tryz.results10, go_sem, z0, z1, z2]) rfl ?_
  exact ans_nil HBN
def El.f (a0 : ByteArray) : Option (List S42 × List S44 × List ByteArray × Int) := if a0.size ≤ 9223372036854775807 then some (Ge a0) else none
theorem El.calls (a0 : ByteArray) (r1 : List S42) (r2 : List S44) (r3 : List ByteArray) (r4 : Int) (w : World) (h : El.f a0 = some (r1, r2, r3, r4)) :
 Calls Tryz.prog 10 #[.string a0] w fun e w' => ∃ v0_ v1_ v2_ : Value, e = .returned (.tuple #[.agg #[v0_, v1_, v2_], .int .i64 r4]) ∧ Kd.R k42 42 w' w.heap.size (fun k_ => some k_ ≠ (v2_ : Value).ownBlock) v0_ r1 ∧ Kd.R k44 44 w' w.heap.size (fun _ => True) v1_ r2 ∧ Kd.R Kd.string 9 w' w.heap.size (fun _ => True) v2_ r3 ∧ Below w.heap.size w w' := by
 unfold El.f at h
 split at h
 ·rename_i hs
  have h2 := Option.some.inj h
  have hc := parse_calls a0 hs w
  rw [h2] at hc
  refine hc.mono ?_
  rintro e w1 ⟨v0, v1, v2, he, n1, n2, n3, hb⟩
  exact ⟨v0, v1, v2, he, Kd.De n1 (fun k hk => hk.2), Kd.De n2 (fun k hk => trivial), Kd.De n3 (fun k hk => trivial), hb⟩
 ·cases h
end Go.Proofs.YtefheailchihaaaGreatDoor.Print
end
