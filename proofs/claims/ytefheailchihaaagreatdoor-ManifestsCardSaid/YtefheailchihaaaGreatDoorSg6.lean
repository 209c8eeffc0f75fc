import Derived.Lib.SliceRun
import Derived.Test.YtefheailchihaaaGreatDoorSg5
set_option maxHeartbeats 8000000
set_option maxRecDepth 100000
set_option linter.unusedVariables false
set_option linter.unusedSimpArgs false
section
namespace Go.Proofs.YtefheailchihaaaGreatDoor.Print
open Go.RowKit Go.Lib Go.Shelf Go.Proofs.YtefheailchihaaaGreatDoorW.PrintWords Go.Proofs.YtefheailchihaaaGreatDoorW.PrintLast Go.Proofs.YtefheailchihaaaGreatDoorW.PrintMore
def Dy {α : Type} (p : α → Bool) : List α → Nat → Int
 | [], _ => -1
 | x :: l, k => if p x = true then (k : Int) else Dy p l (k + 1)
def idxP {α : Type} (p : α → Bool) (l : List α) : Int := Dy p l 0
theorem Gm {α : Type} (p : α → Bool) (l : List α) (k : Nat) (h : k < l.length) :
 Dy p (l.drop k) k = if p l[k] = true then (k : Int) else Dy p (l.drop (k + 1)) (k + 1) := by
 rw [List.drop_eq_getElem_cons h]
 rfl
theorem Ie (l : List ByteArray) (k : Nat) (h : k < l.length) : rdOf ByteArray.empty l (k : Int) = l[k] := by simp [rdOf, List.getD_eq_getElem?_getD, h]
theorem rdOf_at' (l : List ByteArray) (k : Nat) (h : k < l.length) : rdOf (⟨#[]⟩ : ByteArray) l (k : Int) = l[k] := by simp [rdOf, List.getD_eq_getElem?_getD, h]
theorem firstFrom_cases {α : Type} (p : α → Bool) : ∀ (l : List α) (k : Nat), (Dy p l k = -1 ∧ ∀ x ∈ l, p x = false) ∨ ∃ j, ∃ h : j < l.length, Dy p l k = ((k + j : Nat) : Int) ∧ p l[j] = true ∧ ∀ x ∈ l.take j, p x = false := by
 intro l
 induction l with
 | nil => intro k; exact .inl ⟨rfl, by simp⟩
 | cons x l ih =>
  intro k
  cases hx : p x
  ·rcases ih (k + 1) with ⟨h1, h2⟩ | ⟨j, hj, h1, h2, h3⟩
   ·exact .inl ⟨by simp only [Dy]; rw [hx, if_neg (by decide)]; exact h1, fun y hy => by
     rcases List.mem_cons.1 hy with rfl | hy
     ·exact hx
     ·exact h2 y hy⟩
   ·refine .inr ⟨j + 1, by simp only [List.length_cons]; omega, ?_, by simpa using h2, ?_⟩
    ·simp only [Dy]; rw [hx, if_neg (by decide), h1]; congr 1; omega
    ·intro y hy
     rw [List.take_succ_cons] at hy
     rcases List.mem_cons.1 hy with rfl | hy
     ·exact hx
     ·exact h3 y hy
  ·exact .inr ⟨0, by simp, by simp only [Dy]; rw [hx, if_pos rfl]; simp, by simpa using hx, by simp⟩
theorem idxP_cases {α : Type} (p : α → Bool) (l : List α) : (idxP p l = -1 ∧ ∀ x ∈ l, p x = false) ∨ ∃ j, ∃ h : j < l.length, idxP p l = (j : Int) ∧ p l[j] = true ∧ ∀ x ∈ l.take j, p x = false := by
 have := firstFrom_cases p l 0
 simpa [idxP] using this
theorem idx144_calls (g : Nat) (p : ByteArray → Bool) (heg : ∀ args w, (callFunc g args).run Tryz.prog w = .ok (.enter g args) w)
 (hp : ∀ x W, Calls Tryz.prog g #[.string x] W fun e w' => e = .returned (.bool (p x)) ∧ Below W.heap.size W w') (A0 : Option Addr) (c0 : Nat) (l : List ByteArray) (w : World) (hr : Kd.C Kd.string w A0 l.length l) :
 Calls Tryz.prog 144 #[.slice A0 l.length c0, .func (.func g) #[] #[]] w fun e w' => e = .returned (.int .i64 (idxP p l)) ∧ Below w.heap.size w w' := by
 have HR := Aa.mk hr
 have HP := Lib.hid hp
 have hm := Hb hr
 clear hr hp
 go_enter Tryz.func144, Tryz.ntmps144
 go_wp2
 go_loopw [8] (fun v8 wr => ∃ k : Nat, v8 = .int .i64 k ∧ k ≤ l.length ∧ Aa (Dy p (l.drop k) k = idxP p l) ∧ Below w.heap.size w wr) (fun v8 _ => l.length - (intOf v8).toNat)
 case atStart => exact ⟨0, rfl, by omega, ⟨rfl⟩, Below.refl _ _⟩
 case round =>
  obtain ⟨k, rfl, hk, hf, hbw⟩ := hrel
  by_cases hlt : k < l.length
  ·obtain ⟨ad, rfl, f0⟩ := Kd.Ct (Kd.Bb HR.out hbw) (k : Int) (by omega) (by omega)
   have hq := Lib.hid (Gm p l k hlt)
   rw [Ie l k hlt] at f0
   simp only [Int.toNat_natCast] at f0
   generalize l[k] = x at *
   cases hpx : p x
   ·have hcl := HP.out x wr
    rw [hpx] at hcl
    have Hcl := Lib.hid hcl
    clear hcl
    go_wp2_with (first | (go_at_fn g; refine Hcl.out.mono ?_; rintro e w' ⟨rfl, hb2⟩))
    exact ⟨⟨k + 1, by go_num, by omega, ⟨by rw [← hf.out, hq.out, if_neg (by rw [hpx]; decide)]⟩, bel hbw hb2⟩, by simp [intOf]; omega⟩
   ·have hcl := HP.out x wr
    rw [hpx] at hcl
    have Hcl := Lib.hid hcl
    clear hcl
    go_wp2_with (first | (go_at_fn g; refine Hcl.out.mono ?_; rintro e w' ⟨rfl, hb2⟩))
    go_ret
    exact ⟨Hq (by rw [← hf.out, hq.out, if_pos hpx]), bel hbw hb2⟩
  ·have hd : l.drop k = [] := List.drop_of_length_le (by omega)
   have hq := Lib.hid hd
   clear hd
   go_wp2
   go_ret
   exact ⟨Hq (by rw [← hf.out, hq.out]; rfl), hbw⟩
theorem R_wipe {base g n cap : Nat} {ok : Nat → Prop} : ∀ (m o : Nat) (w : World) (xs : List ByteArray), Kd.R Kd.string 9 w base ok (.slice (some ⟨g, 0, none⟩) n cap) xs →
 ∃ ys, Kd.R Kd.string 9 (w.setCells g o (List.replicate m (.string ⟨#[]⟩))) base ok (.slice (some ⟨g, 0, none⟩) n cap) ys ∧ ys.length = xs.length ∧ ∀ i, i ≤ o → ys.take i = xs.take i := by
 intro m
 induction m with
 | zero => intro o w xs h; exact ⟨xs, h, rfl, fun _ _ => rfl⟩
 | succ m ih =>
  intro o w xs h
  have h1 := Kd.R_putn h (o : Int) (⟨#[]⟩ : ByteArray)
  rw [Int.toNat_natCast] at h1
  obtain ⟨ys, h2, h3, h4⟩ := ih (o + 1) _ _ h1
  refine ⟨ys, h2, by rw [h3, List.length_set], fun i hi => ?_⟩
  rw [h4 i (by omega), List.take_set_of_le (by omega)]
theorem below_cells {B g : Nat} (hg : B ≤ g) : ∀ (vs : List Value) (o : Nat) (w : World), Below B w (w.setCells g o vs)
 | [], _, w => Below.refl B w
 | v :: r, o, w => ((Below.refl B w).setCell (p := ⟨g, o, none⟩) hg v).trans (below_cells hg r (o + 1) _)
theorem filter_snoc {α : Type} (q : α → Bool) (l : List α) (b : Nat) (h : b < l.length) : (l.take (b + 1)).filter q = (l.take b).filter q ++ if q l[b] = true then [l[b]] else [] := by
 rw [List.take_succ_eq_append_getElem h, List.filter_append]
 cases hq : q l[b] <;> simp [hq]
theorem delete118_calls (g : Nat) (p : ByteArray → Bool) (heg : ∀ args w, (callFunc g args).run Tryz.prog w = .ok (.enter g args) w)
 (hp : ∀ x W, Calls Tryz.prog g #[.string x] W fun e w' => e = .returned (.bool (p x)) ∧ Below W.heap.size W w') (base : Nat) (v : Value) (l : List ByteArray) (w : World) (hbase : base ≤ w.heap.size) (hR : Kd.R Kd.string 9 w base (fun _ => True) v l) :
 Calls Tryz.prog 118 #[v, .func (.func g) #[] #[]] w fun e w' => ∃ v' : Value, e = .returned v' ∧ Kd.R Kd.string 9 w' base (fun _ => True) v' (l.filter fun x => !p x) ∧ Below base w w' := by
 obtain ⟨A, c, rfl, hlc, hC⟩ := Kd.Dl hR
 have HP := Lib.hid hp
 have HI := Lib.hid (idx144_calls g p heg hp A c l w hC)
 have HR := Aa.mk hR
 have hm := Hb hC
 clear hp hC hR
 rcases idxP_cases p l with ⟨h1, h2⟩ | ⟨j, hj, h1, h2, h3⟩
 ·rw [h1] at HI
  go_enter Tryz.func118, Tryz.ntmps118
  go_wp2_with (go_at_call 144; refine HI.out.mono ?_; rintro e w1 ⟨rfl, hb1⟩)
  go_ret
  refine ⟨_, rfl, ?_, hb1.mono hbase⟩
  have : (l.filter fun x => !p x) = l := List.filter_eq_self.2 (fun x hx => by rw [h2 x hx]; rfl)
  rw [this]
  exact Kd.Bj HR.out hb1
 ·rw [h1] at HI
  have hz1 : ((j : Int) == -1) = false := beq_eq_false_iff_ne.2 (by omega)
  obtain ⟨g0, cap, hv, hgb, hgl, cells, hcells⟩ := Kd.Gy HR.out (by omega)
  injection hv with ha _ hc
  subst ha hc
  have HGB := Lib.hid hgb
  have hfirst : l.take j = (l.take (j + 1)).filter (fun x => !p x) := by
   rw [filter_snoc _ l j hj, h2, if_neg (by decide), List.append_nil]
   exact (List.filter_eq_self.2 (fun x hx => by rw [h3 x hx]; rfl)).symm
  have HF := Lib.hid hfirst
  clear hfirst hcells hgb h2 h3 h1 hgl
  go_enter Tryz.func118, Tryz.ntmps118
  go_wp2_with (go_at_call 144; refine HI.out.mono ?_; rintro e w1 ⟨rfl, hb1⟩; have HB1 := Aa.mk hb1; clear hb1)
  obtain ⟨n, hn⟩ : ∃ n, l.length = n := ⟨_, rfl⟩
  have HN := Lib.hid hn
  rw [hn] at hlc hm hj ⊢
  clear hn
  go_loopw [5, 6, 7] (fun v5 v6 v7 wr => ∃ (a b : Nat) (ys : List ByteArray), v5 = .int .i64 a ∧ v6 = .int .i64 b ∧ a < b ∧ b ≤ n ∧ Aa (Kd.R Kd.string 9 wr base (fun _ => True) (.slice (some ⟨g0, 0, none⟩) n c) ys) ∧ Aa (ys.length = n) ∧ Aa (ys.take a = (l.take b).filter (fun x => !p x)) ∧ Aa (ys.drop b = l.drop b) ∧ Aa (Below base w wr)) (fun v5 v6 v7 _ => n - (intOf v6).toNat)
  case atStart => exact ⟨j, j + 1, l, rfl, by go_num, by omega, by omega, ⟨by have := Kd.Bj HR.out HB1.out; rw [HN.out] at this; exact this⟩, ⟨HN.out⟩, ⟨HF.out⟩, ⟨rfl⟩, ⟨HB1.out.mono hbase⟩⟩
  case round =>
   obtain ⟨a, b, ys, rfl, rfl, hab, hbn, HY, HL, HT, HD, HW⟩ := hrel
   have hwz : base ≤ wr.heap.size := Nat.le_trans hbase HW.out.size
   by_cases hlt : b < n
   ·obtain ⟨hx, hf⟩ := Kd.R_celln (⟨#[]⟩ : ByteArray) HY.out (b : Int) (by omega) (by omega)
    have hyb : rdOf (⟨#[]⟩ : ByteArray) ys (b : Int) = l[b]'(by rw [HN.out]; exact hlt) := by
     rw [rdOf_at' ys b (by rw [HL.out]; exact hlt)]
     have h5 := congrArg (fun t => t[0]?) HD.out
     simp only [List.getElem?_drop, Nat.add_zero] at h5
     rw [List.getElem?_eq_getElem (by rw [HL.out]; exact hlt), List.getElem?_eq_getElem (by rw [HN.out]; exact hlt)] at h5
     exact Option.some.inj h5
    rw [hyb, Int.toNat_natCast] at hx
    clear hyb hf
    have HS := Lib.hid (filter_snoc (fun x => !p x) l b (by rw [HN.out]; exact hlt))
    have HDD : Hid (ys.drop (b + 1) = l.drop (b + 1)) := Lib.hid (by
     have h5 := congrArg (fun t => t.drop 1) HD.out
     simpa [List.drop_drop, Nat.add_comm] using h5)
    generalize l[b]'(by rw [HN.out]; exact hlt) = x at *
    have hcl := HP.out x wr
    have hax : (a : Int) < (n : Int) := by omega
    cases hpx : p x
    ·rw [hpx] at hcl
     have Hcl := Lib.hid hcl
     clear hcl
     go_wp2_with (go_at_fn g; refine Hcl.out.mono ?_; rintro e w2 ⟨rfl, hb2⟩; have HY2 := Aa.mk (Kd.Bj HY.out hb2); have HW2 := Aa.mk (HW.out.trans (hb2.mono hwz)); obtain ⟨hx2, hf2⟩ := Kd.R_celln (⟨#[]⟩ : ByteArray) HY2.out (a : Int) (by omega) (by omega); rw [Int.toNat_natCast] at hx2 hf2; clear hb2)
     have hput := Kd.R_putn HY2.out (a : Int) x
     rw [Int.toNat_natCast] at hput
     refine ⟨⟨a + 1, b + 1, ys.set a x, by go_num, by go_num, by omega, by omega, ⟨hput⟩, ⟨by rw [List.length_set]; exact HL.out⟩, ⟨?_⟩, ⟨?_⟩, ⟨HW2.out.setCell HGB.out _⟩⟩, by simp [intOf]; omega⟩
     ·rw [take_set_succ ys a x (by have := HL.out; omega), HS.out, HT.out, hpx]
      rfl
     ·rw [List.drop_set_of_lt (by omega)]
      exact HDD.out
    ·rw [hpx] at hcl
     have Hcl := Lib.hid hcl
     clear hcl
     go_wp2_with (go_at_fn g; refine Hcl.out.mono ?_; rintro e w2 ⟨rfl, hb2⟩; have HY2 := Aa.mk (Kd.Bj HY.out hb2); have HW2 := Aa.mk (HW.out.trans (hb2.mono hwz)); clear hb2)
     refine ⟨⟨a, b + 1, ys, rfl, by go_num, by omega, by omega, HY2, HL, ⟨?_⟩, ⟨HDD.out⟩, HW2⟩, by simp [intOf]; omega⟩
     rw [HS.out, HT.out, hpx]
     simp
   ·obtain rfl : b = n := by omega
    have hcl : ∀ ty, (Builtin.clear_ #[24] ty #[.slice (some ⟨g0, a, none⟩) (b - a) (c - a)]).run Tryz.prog wr = .ok (.tuple #[]) (wr.setCells g0 a (List.replicate (b - a) (.string ⟨#[]⟩))) :=
     fun ty => Lib.run_clear_slice wr 24 9 ty (.string ⟨#[]⟩) Tryz.underlying24 (fun w => by first | exact Tryz.zeroValue9 w | exact Tryz.zeroValue9 | simp [go_sem]) rfl rfl g0 a _ _ (by omega) (fun t ht => by
      obtain ⟨hx, hf⟩ := Kd.R_celln (⟨#[]⟩ : ByteArray) HY.out ((a + t : Nat) : Int) (by omega) (by omega)
      rw [Int.toNat_natCast] at hx
      rw [hx]; rfl) (fun t ht => by
      obtain ⟨hx, hf⟩ := Kd.R_celln (⟨#[]⟩ : ByteArray) HY.out ((a + t : Nat) : Int) (by omega) (by omega)
      rw [Int.toNat_natCast] at hf
      exact hf)
    have p1 : (a : Int) ≤ (b : Int) := by omega
    have p2 : (b : Int) ≤ (c : Int) := by omega
    go_wp2_with fail
    go_ret
    obtain ⟨ys2, h1, h2, h3⟩ := R_wipe (b - a) a wr ys HY.out
    have h4 := Kd.R_take (m := a) h1 (by rw [h2, HL.out]; omega)
    have hfin : (l.filter fun x => !p x) = ys2.take a := by
     rw [h3 a (Nat.le_refl _), HT.out, List.take_of_length_le (by rw [HN.out]; omega)]
    rw [hfin]
    exact ⟨_, rfl, h4, HW.out.trans (below_cells HGB.out _ _ _)⟩
def Cj (s : ByteArray) : List ByteArray := (splitB 32 s.data.toList).filter fun x => !(x.toList == ([] : List UInt8))
theorem empty120_calls (x : ByteArray) (W : World) : Calls Tryz.prog 120 #[.string x] W fun e w' => e = .returned (.bool (x.toList == ([] : List UInt8))) ∧ Below W.heap.size W w' := by
 go_enter Tryz.func120, Tryz.ntmps120
 go_wp2
 go_ret
 exact ⟨Ee (by first | rfl | simp | (cases x.toList <;> rfl)), Below.refl _ _⟩
theorem notName145_calls (x : ByteArray) (W : World) : Calls Tryz.prog 145 #[.string x] W fun e w' => e = .returned (.bool (!Ce x)) ∧ Below W.heap.size W w' := by
 go_enter Tryz.func145, Tryz.ntmps145
 go_wp2_with (go_at_call 76; refine (Gl _ _).mono ?_; rintro e w1 ⟨rfl, hb⟩)
 go_ret
 exact ⟨rfl, hb⟩
theorem enters120 : ∀ args w, (callFunc 120 args).run Tryz.prog w = .ok (.enter 120 args) w := enters_of Tryz.func120 (by kernel_rfl) rfl
theorem enters145 : ∀ args w, (callFunc 145 args).run Tryz.prog w = .ok (.enter 145 args) w := enters_of Tryz.func145 (by kernel_rfl) rfl
theorem words_calls (s : ByteArray) (hs : s.size ≤ 1048576) (w : World) :
 Calls Tryz.prog 91 #[.string s] w fun e w' => ∃ v : Value, e = .returned v ∧ Kd.R Kd.string 9 w' w.heap.size (fun _ => True) v (Cj s) ∧ Below w.heap.size w w' := by
 go_enter Tryz.func91, Tryz.ntmps91
 go_wp2_with fail
 refine (split_calls 32 s hs _).mono ?_
 rintro e w1 ⟨v1, rfl, hR, hb1⟩
 have HR := Aa.mk hR
 have HB1 := Aa.mk hb1
 clear hR hb1
 go_wp2_with fail
 refine (delete118_calls 120 _ enters120 empty120_calls w.heap.size v1 _ _ HB1.out.size HR.out).mono ?_
 rintro e w2 ⟨v2, rfl, hR2, hb2⟩
 have HR2 := Aa.mk hR2
 have HB2 := Aa.mk (HB1.out.trans hb2)
 clear hR2 hb2
 go_wp2_with fail
 go_ret
 exact ⟨_, rfl, HR2.out, HB2.out⟩
def Vs (w : World) (ok : Nat → Prop) (v : Value) (xs : List ByteArray) : Prop := Kd.V Kd.string 9 w 0 ok v xs ∧ ∀ ad n c, v = .slice (some ad) n c → ad.spot = none
theorem Fh {w : World} {ok : Nat → Prop} {v : Value} {xs : List ByteArray} (h : Vs w ok v xs) : ∃ A c, v = .slice A xs.length c ∧ xs.length ≤ c ∧ Kd.C Kd.string w A xs.length xs := by
 obtain ⟨A, c, hv⟩ := Kd.V_slice h.1
 subst hv
 obtain ⟨_, h2, h3⟩ := Kd.V_reads' h.1
 exact ⟨A, c, rfl, h2, h3⟩
theorem Vs_of_R {w : World} {base : Nat} {ok : Nat → Prop} {v : Value} {xs : List ByteArray} (h : Kd.R Kd.string 9 w base ok v xs) : Vs w ok v xs := by
 refine ⟨Kd.R_V h, fun ad n c he => ?_⟩
 subst he
 rcases (Kd.own_of_R h).2 with ⟨h1, _⟩ | ⟨g, cap, cur, h1, _⟩
 ·cases h1
 ·injection h1 with h1 _ _
  injection h1 with h1
  subst h1
  rfl
theorem Vs_mono {w : World} {ok ok' : Nat → Prop} {v : Value} {xs : List ByteArray} (h : Vs w ok v xs) (hk : ∀ k, ok k → ok' k) : Vs w ok' v xs := ⟨Kd.V_mono h.1 hk, h.2⟩
theorem Fa {w w1 : World} {ok S : Nat → Prop} {v : Value} {xs : List ByteArray} (h : Vs w ok v xs) (hk : Kept w w1 S) (hne : ∀ k, ok k → ¬ S k) : Vs w1 ok v xs := ⟨Kd.V_kept h.1 hk hne, h.2⟩
theorem Dz {w w1 : World} {ok : Nat → Prop} {v : Value} {xs : List ByteArray} (h : Vs w ok v xs) (hb : Below w.heap.size w w1) : Vs w1 ok v xs := ⟨Kd.V_below h.1 hb, h.2⟩
theorem Vs_old {w w1 : World} {ok : Nat → Prop} {v : Value} {xs : List ByteArray} (h : Vs w ok v xs) (hb : Below w.heap.size w w1) : Vs w1 (fun k => ok k ∧ k < w.heap.size) v xs := ⟨Kd.V_old h.1 hb, h.2⟩
theorem Vs_drop {w : World} {ok : Nat → Prop} {A : Option Addr} {c m : Nat} {xs : List ByteArray} (h : Vs w ok (.slice A xs.length c) xs) (hm : m ≤ xs.length) : Vs w ok (.slice (if c = m then A else A.map (·.add (m * 1))) (xs.length - m) (c - m)) (xs.drop m) := by
 obtain ⟨_, h2, h3⟩ := Kd.V_at h.1
 refine ⟨⟨_, c - m, by rw [List.length_drop]; rfl, by rw [List.length_drop]; omega, Kd.F_cut h3 hm h2⟩, fun ad n c' he => ?_⟩
 injection he with he _ _
 by_cases hc : c = m
 ·rw [if_pos hc] at he
  exact h.2 ad _ _ (by rw [he])
 ·rw [if_neg hc] at he
  cases A with
  | none => cases he
  | some a =>
   injection he with he
   subst he
   have := h.2 a _ _ rfl
   simp only [Addr.add]
   split
   ·exact this
   ·first | rfl | exact this | simp [this]
theorem Vs_take {w : World} {ok : Nat → Prop} {A : Option Addr} {c m : Nat} {xs : List ByteArray} (h : Vs w ok (.slice A xs.length c) xs) (hm : m ≤ xs.length) : Vs w ok (.slice A m c) (xs.take m) := by
 obtain ⟨_, h2, h3⟩ := Kd.V_at h.1
 have hl : (xs.take m).length = m := by rw [List.length_take]; omega
 refine ⟨⟨A, c, by rw [hl], by rw [hl]; omega, Kd.F_take h3 hm⟩, fun ad n c' he => ?_⟩
 injection he with he _ _
 exact h.2 ad _ _ (by rw [he])
theorem add_off (b off j : Nat) : (⟨b, off, none⟩ : Addr).add j = ⟨b, off + j, none⟩ := by unfold Addr.add; split <;> simp_all
theorem clone_calls (ok : Nat → Prop) (v : Value) (xs : List ByteArray) (w : World) (h : Vs w ok v xs) (hn : xs.length ≤ 1048577) :
 Calls Tryz.prog 146 #[v] w fun e w' => ∃ v' : Value, e = .returned v' ∧ Kd.R Kd.string 9 w' w.heap.size (fun _ => True) v' xs ∧ Below w.heap.size w w' := by
 obtain ⟨A, c, rfl, hlc, hC⟩ := Fh h
 cases A with
 | none =>
  have h0 : xs.length = 0 := by
   rcases Nat.eq_zero_or_pos xs.length with h0 | h0
   ·exact h0
   ·obtain ⟨ad, he, _⟩ := hC.2.2 h0
    cases he
  refine (Tryz.slices_Clone_string_nil _ _ _).mono ?_
  rintro e w' ⟨rfl, rfl⟩
  rw [List.length_eq_zero_iff.1 h0]
  exact ⟨_, rfl, Kd.Di _ _ _ _ _, Below.refl _ _⟩
 | some ad =>
  have hs := h.2 ad _ _ rfl
  obtain ⟨b, off, sp⟩ := ad
  simp only at hs
  subst hs
  refine (Tryz.slices_Clone_string b off xs.length c xs w (Nat.le_refl _) (by omega) (fun j hj => ?_)).mono ?_
  ·obtain ⟨ad, he, hc⟩ := Kd.Ct hC (j : Int) (by omega) (by omega)
   injection he with he
   subst he
   rw [add_off, Int.toNat_natCast] at hc
   simpa [rdOf] using hc
  ·rintro e w' ⟨v', rfl, hown, _, hb⟩
   rw [List.take_length] at hown
   exact ⟨v', rfl, Kd.R_of_own hown (fun _ _ => trivial), hb⟩
def Rd (w : World) (base G : Nat) (v : Value) (ws : List ByteArray) (bad : Bool) : Prop :=
 w.heap[G]? = some (.cells #[v, .bool bad] 149 (0, 0)) ∧ base ≤ G ∧ Vs w (fun k => k ≠ G) v ws
theorem F7 {G : Nat} {w : World} {bad : Bool} {v : Value} (h : w.heap[G]? = some (.cells #[v, .bool bad] 149 (0, 0))) :
 w.cell? ⟨G, 0, none⟩ = some v ∧ w.cell? ⟨G, 1, none⟩ = some (.bool bad) ∧ w.frozen? ⟨G, 0, none⟩ = false ∧ w.frozen? ⟨G, 1, none⟩ = false :=
 ⟨Ab h 0, Ab h 1, As h 0, As h 1⟩
def Cm (ws : List ByteArray) : Nat := (ws.takeWhile Ce).length
theorem F5 (ws : List ByteArray) : Cm ws ≤ ws.length := (List.takeWhile_sublist _).length_le
theorem nNames_idx (ws : List ByteArray) : (idxP (fun x => !Ce x) ws = -1 ∧ Cm ws = ws.length) ∨ (idxP (fun x => !Ce x) ws = (Cm ws : Int) ∧ Cm ws < ws.length) := by
 have key : ∀ (l : List ByteArray) (j : Nat) (hj : j < l.length), Ce l[j] = false → (∀ x ∈ l.take j, Ce x = true) → Cm l = j := by
  intro l
  induction l with
  | nil => intro j hj; simp at hj
  | cons a l ih =>
   intro j hj h1 h2
   cases j with
   | zero => unfold Cm; rw [List.takeWhile_cons, if_neg (by simpa using h1)]; rfl
   | succ j =>
    have ha : Ce a = true := h2 a (by simp)
    have := ih j (by simpa using hj) (by simpa using h1) (fun x hx => h2 x (by simp [hx]))
    unfold Cm at this ⊢
    rw [List.takeWhile_cons, if_pos ha, List.length_cons, this]
 rcases idxP_cases (fun x => !Ce x) ws with ⟨h1, h2⟩ | ⟨j, hj, h1, h2, h3⟩
 ·refine .inl ⟨h1, ?_⟩
  have key2 : ∀ l : List ByteArray, (∀ x ∈ l, Ce x = true) → l.takeWhile Ce = l := by
   intro l
   induction l with
   | nil => intro _; rfl
   | cons a l ih => intro h; rw [List.takeWhile_cons, if_pos (h a (by simp)), ih (fun x hx => h x (by simp [hx]))]
  unfold Cm
  rw [key2 ws (fun x hx => by simpa using h2 x hx)]
 ·have := key ws j hj (by simpa using h2) (fun x hx => by simpa using h3 x hx)
  exact .inr ⟨by rw [h1, this], by omega⟩
theorem vs_idx {w : World} {ok : Nat → Prop} {A : Option Addr} {c : Nat} {xs : List ByteArray} (h : Vs w ok (.slice A xs.length c) xs) : xs.length ≤ c ∧ Kd.C Kd.string w A xs.length xs := by
 obtain ⟨_, h2, h3⟩ := Kd.V_reads' h.1
 exact ⟨h2, h3⟩
theorem kept2 (w2 : World) (G : Nat) (a b : Value) : Kept w2 ((w2.setCell ⟨G, 0, none⟩ a).setCell ⟨G, 1, none⟩ b) (fun k => k = G) :=
 Kept.setCell (S := fun k => k = G) (p := ⟨G, 1, none⟩) (Kept.setCell (S := fun k => k = G) (p := ⟨G, 0, none⟩) (Kept.refl w2 (fun k => k = G)) (Or.inl (show G = G from rfl)) a) (Or.inl (show G = G from rfl)) b
theorem rd_end {w2 : World} {base G : Nat} {v0 v2 : Value} {bad : Bool} {ws2 : List ByteArray} (hk : w2.heap[G]? = some (.cells #[v0, .bool bad] 149 (0, 0))) (hB : base ≤ G) (hV : Vs w2 (fun k => k ≠ G) v2 ws2) (b b' : Bool) (hb : b = b') :
 Rd ((w2.setCell ⟨G, 0, none⟩ v2).setCell ⟨G, 1, none⟩ (.bool b)) base G v2 ws2 b' := by
 subst hb
 refine ⟨Az (Az hk 0 v2 rfl) 1 _ rfl, hB, ?_⟩
 have hk2 := kept2 w2 G v2 (.bool b)
 exact Fa hV hk2 (fun k h1 h2 => h1 h2)
theorem kept_end {w w1 w2 : World} {G : Nat} (h1 : Below w.heap.size w w1) (h2 : Below w1.heap.size w1 w2) (a b : Value) : Kept w ((w2.setCell ⟨G, 0, none⟩ a).setCell ⟨G, 1, none⟩ b) (fun k => k = G) :=
 Kept.then_ ((Kept.of_below h1 _).below h2) (kept2 w2 G a b) (fun k hk => .inl hk)
theorem below_end {w w1 w2 : World} {base G : Nat} (h1 : Below w.heap.size w w1) (h2 : Below w1.heap.size w1 w2) (hB : base ≤ G) (hG : G < w.heap.size) (a b : Value) : Below base w ((w2.setCell ⟨G, 0, none⟩ a).setCell ⟨G, 1, none⟩ b) := by
 have hle : base ≤ w.heap.size := by omega
 have h3 := (h1.mono hle).trans (h2.mono (Nat.le_trans hle h1.size))
 exact (h3.setCell (p := ⟨G, 0, none⟩) hB a).setCell (p := ⟨G, 1, none⟩) hB b
theorem new_row {w w1 w2 W3 : World} {G : Nat} {v : Value} {xs : List ByteArray} (h : Kd.R Kd.string 9 w2 w1.heap.size (fun _ => True) v xs) (hb : Below w.heap.size w w1) (hG : G < w.heap.size) (hk : Kept w2 W3 (fun k => k = G)) :
 Kd.R Kd.string 9 W3 w.heap.size (fun _ => True) v xs := by
 have h1 := Kd.R_kept (Kd.Ex h) hk (fun k h2 h3 => by have h4 := h2.2.1; have h5 := hb.size; have h3' : k = G := h3; omega)
 exact Kd.Dv (Kd.De h1 (fun _ _ => trivial)) hb.size
theorem names_calls (base G : Nat) (v : Value) (ws : List ByteArray) (bad : Bool) (least : Nat) (hle : least ≤ 8) (w : World) (h : Rd w base G v ws bad) (hn : ws.length ≤ 1048577) :
 Calls Tryz.prog 113 #[.pointer (some ⟨G, 0, none⟩), .int .i64 least] w fun e w' => ∃ v' v2 : Value, e = .returned v' ∧ Kd.R Kd.string 9 w' w.heap.size (fun _ => True) v' (ws.take (Cm ws)) ∧
  Rd w' base G v2 (ws.drop (Cm ws)) (bad || (decide (Cm ws < least) || decide (8 < Cm ws))) ∧ Kept w w' (fun k => k = G) ∧ Below base w w' := by
 obtain ⟨hb, hB, hV⟩ := h
 have hGlt := Cq hb
 obtain ⟨A, c, rfl, hlc, hC⟩ := Fh hV
 have HV := Lib.hid hV
 have HBk := Lib.hid hb
 have HB := Lib.hid hB
 obtain ⟨c0, c1, f0, f1⟩ := F7 hb
 obtain ⟨K, hK⟩ : ∃ K, Cm ws = K := ⟨_, rfl⟩
 have hKl : K ≤ ws.length := by rw [← hK]; exact F5 ws
 have HI := Lib.hid (idx144_calls 145 (fun x => !Ce x) enters145 notName145_calls A c ws w hC)
 have hidx := nNames_idx ws
 rw [hK] at hidx ⊢
 obtain ⟨i9, hi9, _, hi9s, _⟩ := info_parts Hh
 have hcut : ∀ W : World, (Instr.slice 24 (.slice A ws.length c) none (some (.int .i64 K)) none).run Tryz.prog W = .ok (.slice A K c) W := fun W => by
  have := cut_to (P := Tryz.prog) 24 9 .i64 Tryz.underlying24 hi9 A ws.length c (K : Int) (by omega) (by omega) hlc W
  rwa [Int.toNat_natCast] at this
 have hfrom : ∀ W : World, (Instr.slice 24 (.slice A ws.length c) (some (.int .i64 K)) none none).run Tryz.prog W = .ok (.slice (if c = K then A else A.map (·.add (K * 1))) (ws.length - K) (c - K)) W := fun W => by
  have := cut_from (P := Tryz.prog) 24 9 .i64 Tryz.underlying24 hi9 1 hi9s A ws.length c (K : Int) (by omega) (by omega) W
  rwa [Int.toNat_natCast] at this
 obtain ⟨A2, hA2⟩ : ∃ A2, (if c = K then A else A.map (·.add (K * 1))) = A2 := ⟨_, rfl⟩
 have HVD : Hid (Vs w (fun k => k ≠ G) (.slice A2 (ws.length - K) (c - K)) (ws.drop K)) := Lib.hid (by rw [← hA2]; exact Vs_drop HV.out hKl)
 have HVT := Lib.hid (Vs_take HV.out hKl)
 rw [hA2] at hfrom
 clear hA2
 have h8 : ((8 : Int) < (K : Int)) ↔ 8 < K := by omega
 have htl : Hid ((ws.take K).length ≤ 1048577) := Lib.hid (by rw [List.length_take]; omega)
 obtain ⟨M, hM⟩ : ∃ M, ws.length - K = M := ⟨_, rfl⟩
 rw [hM] at hfrom HVD
 clear hM
 generalize ws.length = N at *
 clear hC hV hb hB hK HV
 rcases hidx with ⟨hi1, hi2⟩ | ⟨hi1, hi2⟩
 ·rw [hi1] at HI
  subst hi2
  go_enter Tryz.func113, Tryz.ntmps113
  go_wp2_with (first | (go_at_call 144; refine HI.out.mono ?_; rintro e w1 ⟨rfl, hb1⟩; have HB1 := Aa.mk hb1; have HK1 := Aa.mk ((hb1.block G hGlt).trans HBk.out); obtain ⟨c0, c1, f0, f1⟩ := F7 HK1.out; clear hb1) | (go_at_call 146; refine (clone_calls _ _ _ _ (Dz HVT.out HB1.out) htl.out).mono ?_; rintro e w2 ⟨v', rfl, hR2, hb2⟩; have HR2 := Aa.mk hR2; have HB2 := Aa.mk hb2; have HK2 := Aa.mk ((hb2.block G (Nat.lt_of_lt_of_le hGlt HB1.out.size)).trans HK1.out); obtain ⟨c0, c1, f0, f1⟩ := F7 HK2.out; clear hb2 hR2))
  all_goals (go_ret; exact ⟨v', _, rfl, new_row HR2.out HB1.out hGlt (kept2 w2 G _ _), rd_end HK2.out HB.out (Dz (Dz HVD.out HB1.out) HB2.out) _ _ (by first | (simp [*]; done) | (simp [*]; omega)), kept_end HB1.out HB2.out _ _, below_end HB1.out HB2.out HB.out hGlt _ _⟩)
 ·rw [hi1] at HI
  have hz : ¬ ((K : Int) < 0) := by omega
  go_enter Tryz.func113, Tryz.ntmps113
  go_wp2_with (first | (go_at_call 144; refine HI.out.mono ?_; rintro e w1 ⟨rfl, hb1⟩; have HB1 := Aa.mk hb1; have HK1 := Aa.mk ((hb1.block G hGlt).trans HBk.out); obtain ⟨c0, c1, f0, f1⟩ := F7 HK1.out; clear hb1) | (go_at_call 146; refine (clone_calls _ _ _ _ (Dz HVT.out HB1.out) htl.out).mono ?_; rintro e w2 ⟨v', rfl, hR2, hb2⟩; have HR2 := Aa.mk hR2; have HB2 := Aa.mk hb2; have HK2 := Aa.mk ((hb2.block G (Nat.lt_of_lt_of_le hGlt HB1.out.size)).trans HK1.out); obtain ⟨c0, c1, f0, f1⟩ := F7 HK2.out; clear hb2 hR2))
  all_goals (go_ret; exact ⟨v', _, rfl, new_row HR2.out HB1.out hGlt (kept2 w2 G _ _), rd_end HK2.out HB.out (Dz (Dz HVD.out HB1.out) HB2.out) _ _ (by first | (simp [*]; done) | (simp [*]; omega)), kept_end HB1.out HB2.out _ _, below_end HB1.out HB2.out HB.out hGlt _ _⟩)
theorem Vs_head {w : World} {ok : Nat → Prop} {A : Option Addr} {n c : Nat} {x : ByteArray} {l : List ByteArray} (h : Vs w ok (.slice A n c) (x :: l)) : ∃ b off, A = some ⟨b, off, none⟩ ∧ w.cell? ⟨b, off, none⟩ = some (.string x) := by
 obtain ⟨h1, h2, h3⟩ := Kd.V_reads' h.1
 obtain ⟨ad, he, hc⟩ := Kd.Ct h3 0 (by omega) (by simp only [List.length_cons]; omega)
 subst he
 have hs := h.2 ad _ _ rfl
 obtain ⟨b, off, sp⟩ := ad
 simp only at hs
 subst hs
 refine ⟨b, off, rfl, ?_⟩
 rw [show (0 : Int).toNat = 0 from rfl, add_off] at hc
 simpa [rdOf] using hc
def signB (ws : List ByteArray) (s : ByteArray) : Bool := match ws with
 | [] => false
 | x :: _ => x.toList == s.toList
theorem rd_put {w2 : World} {base G : Nat} {v0 v2 : Value} {bad : Bool} {ws2 : List ByteArray} (hk : w2.heap[G]? = some (.cells #[v0, .bool bad] 149 (0, 0))) (hB : base ≤ G) (hV : Vs w2 (fun k => k ≠ G) v2 ws2) :
 Rd (w2.setCell ⟨G, 0, none⟩ v2) base G v2 ws2 bad := by
 refine ⟨Az hk 0 v2 rfl, hB, ?_⟩
 exact Fa hV (Kept.setCell (S := fun k => k = G) (p := ⟨G, 0, none⟩) (Kept.refl w2 (fun k => k = G)) (Or.inl (show G = G from rfl)) v2) (fun k h1 h2 => h1 h2)
theorem rsign_calls (base G : Nat) (v : Value) (ws : List ByteArray) (bad : Bool) (s : ByteArray) (w : World) (h : Rd w base G v ws bad) :
 Calls Tryz.prog 114 #[.pointer (some ⟨G, 0, none⟩), .string s] w fun e w' => e = .returned (.bool (signB ws s)) ∧
  (∃ v2 : Value, Rd w' base G v2 (if signB ws s = true then ws.drop 1 else ws) bad) ∧ Kept w w' (fun k => k = G) ∧ Below base w w' := by
 obtain ⟨hb, hB, hV⟩ := h
 have hGlt := Cq hb
 obtain ⟨A, c, rfl, hlc, hC⟩ := Fh hV
 have HV := Lib.hid hV
 have HBk := Lib.hid hb
 have HB := Lib.hid hB
 obtain ⟨c0, c1, f0, f1⟩ := F7 hb
 clear hC hb hB
 cases ws with
 | nil =>
  clear hV
  go_enter Tryz.func114, Tryz.ntmps114
  go_wp2_with fail
  go_ret
  exact ⟨rfl, ⟨_, HBk.out, HB.out, HV.out⟩, Kept.refl _ _, Below.refl _ _⟩
 | cons x l =>
  obtain ⟨b, off, rfl, hx⟩ := Vs_head hV
  clear hV
  obtain ⟨i9, hi9, _, hi9s, _⟩ := info_parts Hh
  have hfrom : ∀ W : World, (Instr.slice 24 (.slice (some ⟨b, off, none⟩) (x :: l).length c) (some (.int .i64 1)) none none).run Tryz.prog W = .ok (.slice (if c = 1 then some ⟨b, off, none⟩ else (some ⟨b, off, none⟩ : Option Addr).map (·.add (1 * 1))) ((x :: l).length - 1) (c - 1)) W := fun W => by
   have := cut_from (P := Tryz.prog) 24 9 .i64 Tryz.underlying24 hi9 1 hi9s (some ⟨b, off, none⟩) (x :: l).length c (1 : Int) (by omega) (by simp only [List.length_cons]; omega) W
   exact this
  obtain ⟨A2, hA2⟩ : ∃ A2, (if c = 1 then some ⟨b, off, none⟩ else (some ⟨b, off, none⟩ : Option Addr).map (·.add (1 * 1))) = A2 := ⟨_, rfl⟩
  have HVD : Hid (Vs w (fun k => k ≠ G) (.slice A2 ((x :: l).length - 1) (c - 1)) ((x :: l).drop 1)) := Lib.hid (by rw [← hA2]; exact Vs_drop HV.out (by simp only [List.length_cons]; omega))
  rw [hA2] at hfrom
  clear hA2
  have hpos : (0 : Int) < ((x :: l).length : Int) := by simp only [List.length_cons]; omega
  have hSB : signB (x :: l) s = (x.toList == s.toList) := rfl
  rw [hSB]
  obtain ⟨M, hM⟩ : ∃ M, (x :: l).length - 1 = M := ⟨_, rfl⟩
  rw [hM] at hfrom HVD
  clear hM hSB
  generalize (x :: l).length = N at *
  obtain ⟨R, hR⟩ : ∃ R, (x.toList == s.toList) = R := ⟨_, rfl⟩
  rw [hR]
  cases R
  ·go_enter Tryz.func114, Tryz.ntmps114
   go_wp2_with fail
   go_ret
   exact ⟨rfl, ⟨_, HBk.out, HB.out, HV.out⟩, Kept.refl _ _, Below.refl _ _⟩
  ·go_enter Tryz.func114, Tryz.ntmps114
   go_wp2_with fail
   go_ret
   exact ⟨rfl, ⟨_, rd_put HBk.out HB.out HVD.out⟩, Kept.setCell (S := fun k => k = G) (p := ⟨G, 0, none⟩) (Kept.refl w (fun k => k = G)) (Or.inl (show G = G from rfl)) _, (Below.refl _ _).setCell HB.out _⟩
def E7 (ws : List ByteArray) (s : ByteArray) : List ByteArray × List ByteArray × Bool :=
 if signB ws s = true then ((ws.drop 1).take (Cm (ws.drop 1)), (ws.drop 1).drop (Cm (ws.drop 1)), decide (Cm (ws.drop 1) < 1) || decide (8 < Cm (ws.drop 1))) else ([], ws, false)
theorem part_calls (base G : Nat) (v : Value) (ws : List ByteArray) (bad : Bool) (s : ByteArray) (w : World) (h : Rd w base G v ws bad) (hn : ws.length ≤ 1048577) :
 Calls Tryz.prog 115 #[.pointer (some ⟨G, 0, none⟩), .string s] w fun e w' => ∃ v' v2 : Value, e = .returned v' ∧ Kd.R Kd.string 9 w' w.heap.size (fun _ => True) v' (E7 ws s).1 ∧
  Rd w' base G v2 (E7 ws s).2.1 (bad || (E7 ws s).2.2) ∧ Kept w w' (fun k => k = G) ∧ Below base w w' := by
 have hS := Lib.hid (rsign_calls base G v ws bad s w h)
 have HB := Lib.hid h.2.1
 have hGlt := Lib.hid (Cq h.1)
 have H := Lib.hid h
 clear h
 cases hR : signB ws s
 ·rw [hR] at hS
  rw [show E7 ws s = ([], ws, false) by unfold E7; rw [hR, if_neg (by decide)]]
  go_enter Tryz.func115, Tryz.ntmps115
  go_wp2_with (go_at_call 114; refine hS.out.mono ?_; rintro e w1 ⟨rfl, ⟨v2, hr⟩, hk, hb⟩; have HR := Aa.mk hr; have HK := Aa.mk hk; have HB1 := Aa.mk hb; clear hr hk hb)
  go_ret
  exact ⟨_, v2, rfl, Kd.Di _ _ _ _ _, by rw [Bool.or_false]; exact HR.out, HK.out, HB1.out⟩
 ·rw [hR] at hS
  rw [show E7 ws s = ((ws.drop 1).take (Cm (ws.drop 1)), (ws.drop 1).drop (Cm (ws.drop 1)), decide (Cm (ws.drop 1) < 1) || decide (8 < Cm (ws.drop 1))) by unfold E7; rw [hR, if_pos rfl]]
  rw [if_pos rfl] at hS
  have hn1 : Hid ((ws.drop 1).length ≤ 1048577) := Lib.hid (by rw [List.length_drop]; omega)
  generalize ws.drop 1 = ws1 at *
  go_enter Tryz.func115, Tryz.ntmps115
  go_wp2_with (first | (go_at_call 114; refine hS.out.mono ?_; rintro e w1 ⟨rfl, ⟨v2, hr⟩, hk, hb⟩; have HR := Aa.mk hr; have HK := Aa.mk hk; have HB1 := Aa.mk hb; clear hr hk hb) | (go_at_call 113; refine (names_calls base G v2 ws1 bad 1 (by omega) _ HR.out hn1.out).mono ?_; rintro e w2 ⟨v', v3, rfl, hr, hrd, hk, hb⟩; have HR2 := Aa.mk hr; have HRD := Aa.mk hrd; have HK2 := Aa.mk hk; have HB2 := Aa.mk hb; clear hr hrd hk hb))
  go_ret
  exact ⟨_, v3, rfl, Kd.Dv HR2.out HK.out.1, HRD.out, Kept.then_ HK.out HK2.out (fun k hk => .inl hk), HB1.out.trans HB2.out⟩
def buildB (s : ByteArray) : Option (List ByteArray × ByteArray × List ByteArray × List ByteArray × List ByteArray) :=
 let ws := Cj s
 let n := Cm ws
 if (decide (n < 1) || decide (8 < n)) = true then none else
 if signB (ws.drop n) ⟨#[58]⟩ = false then none else
 match (ws.drop n).drop 1 with
 | [] => none
 | r :: ws3 =>
  if Ce r = false then none else
  let m := Cm ws3
  let p := E7 (ws3.drop m) ⟨#[124]⟩
  let q := E7 p.2.1 ⟨#[124, 124]⟩
  if (decide (8 < m) || p.2.2 || q.2.2 || decide (0 < q.2.1.length)) = true then none else some (ws.take n, r, ws3.take m, p.1, q.1)
def Cr (s : ByteArray) : List ByteArray × ByteArray × List ByteArray × List ByteArray × List ByteArray × Int :=
 match buildB s with
 | none => ([], ⟨#[]⟩, [], [], [], 700)
 | some (a, b, c, d, e) => (a, b, c, d, e, 0)
theorem wordsOf_len (s : ByteArray) : (Cj s).length ≤ s.size + 1 := by
 unfold Cj
 refine Nat.le_trans (List.length_filter_le _ _) ?_
 rw [splitB_len]
 have : s.data.toList.count 32 ≤ s.data.toList.length := List.count_le_length
 rw [Lib.size_eq]
 omega
theorem vs_new {w w1 : World} {base0 G base : Nat} {v : Value} {xs : List ByteArray} (h : Kd.R Kd.string 9 w base (fun _ => True) v xs) (h1 : base0 ≤ base) (h2 : G < base) : Vs w (fun k => k ≠ G ∧ base0 ≤ k) v xs :=
 Vs_mono (Vs_of_R (Kd.Ex h)) (fun k hk => by have := hk.2.1; omega)
theorem vs_g {w w1 : World} {base0 G : Nat} {v : Value} {xs : List ByteArray} (h : Vs w (fun k => k ≠ G ∧ base0 ≤ k) v xs) (hk : Kept w w1 (fun k => k = G)) : Vs w1 (fun k => k ≠ G ∧ base0 ≤ k) v xs := Fa h hk (fun k h1 h2 => h1.1 h2)
theorem vs_end {w : World} {base0 G : Nat} {v : Value} {xs : List ByteArray} (h : Vs w (fun k => k ≠ G ∧ base0 ≤ k) v xs) : Vs w (fun k => base0 ≤ k) v xs := Vs_mono h (fun k hk => hk.2)
theorem Fj (w : World) (ok : Nat → Prop) : Vs w ok (.slice none 0 0) [] := ⟨Kd.V_nil _ _ _ _ _, fun ad n c he => by injection he with he _ _; cases he⟩
theorem Bm (w : World) (G j : Nat) (a : Value) : Kept w (w.setCell ⟨G, j, none⟩ a) (fun k => k = G) := Kept.setCell (S := fun k => k = G) (p := ⟨G, j, none⟩) (Kept.refl w (fun k => k = G)) (Or.inl (show G = G from rfl)) a
theorem rd_made {w0 w1 : World} {v : Value} {ws : List ByteArray} (h : Kd.R Kd.string 9 w1 w0.heap.size (fun _ => True) v ws) (hle : w0.heap.size ≤ w1.heap.size) : Rd (w1.alloc (.cells #[v, .bool false] 149)) w0.heap.size w1.heap.size v ws false := by
 refine ⟨heap_alloc_new w1 _, hle, ?_⟩
 have h1 := Vs_of_R (Kd.Ex h)
 exact Dz (Vs_mono h1 (fun k hk => by have := hk.2.2.1; omega)) ((Below.refl _ _).alloc (Nat.le_refl _) _)
theorem build_calls (s : ByteArray) (hs : s.size ≤ 1048576) (w : World) :
 Calls Tryz.prog 85 #[.string s] w fun e w' => ∃ vO vI vM vR : Value, e = .returned (.tuple #[vO, .string (Cr s).2.1, vI, vM, vR, .int .i64 (Cr s).2.2.2.2.2]) ∧
  Vs w' (fun k => w.heap.size ≤ k) vO (Cr s).1 ∧ Vs w' (fun k => w.heap.size ≤ k) vI (Cr s).2.2.1 ∧ Vs w' (fun k => w.heap.size ≤ k) vM (Cr s).2.2.2.1 ∧ Vs w' (fun k => w.heap.size ≤ k) vR (Cr s).2.2.2.2.1 ∧ Below w.heap.size w w' := by
 have hwl := wordsOf_len s
 obtain ⟨ws, hws⟩ : ∃ ws, Cj s = ws := ⟨_, rfl⟩
 obtain ⟨Z, hZ⟩ : ∃ Z, Cr s = Z := ⟨_, rfl⟩
 have HZ := Lib.hid hZ
 unfold Cr buildB at hZ
 simp only at hZ
 rw [hws] at hZ hwl
 have hHZ : Hid (Cr s = Z) := HZ
 rw [HZ.out]
 obtain ⟨n, hn⟩ : ∃ n, Cm ws = n := ⟨_, rfl⟩
 rw [hn] at hZ
 have HWS := Lib.hid (words_calls s hs w)
 rw [hws] at HWS
 go_enter Tryz.func85, Tryz.ntmps85
 go_wp2_with (go_at_call 91; refine HWS.out.mono ?_; rintro e w1 ⟨v1, rfl, hR, hb1⟩; obtain ⟨A1, k1, rfl⟩ := Kd.Bd hR; have HR := Aa.mk hR; have HB1 := Aa.mk hb1; clear hR hb1)
 have hrd := rd_made HR.out HB1.out.size
 have HBA := Aa.mk (HB1.out.alloc HB1.out.size (.cells #[.slice A1 ws.length k1, .bool false] 149))
 have hszA : w.heap.size ≤ w1.heap.size := HB1.out.size
 generalize hGG : w1.heap.size = G at hrd hszA ⊢
 generalize w1.alloc (.cells #[.slice A1 ws.length k1, .bool false] 149) = W1 at hrd HBA ⊢
 have HRD := Aa.mk hrd
 have hlw : ws.length ≤ 1048577 := by omega
 clear hrd hGG HR HB1 hws hwl
 refine (names_calls w.heap.size G _ ws false 1 (by omega) _ HRD.out hlw).mono ?_
 rw [hn]
 rintro e w2 ⟨vO, v2, rfl, hO, hrd2, hk2, hb2⟩
 have hG2 : G < W1.heap.size := Cq HRD.out.1
 have HO2 := Aa.mk (vs_new (base0 := w.heap.size) (w1 := w) hO (by omega) hG2)
 have HRD2 := Aa.mk hrd2
 have HB2 := Aa.mk (HBA.out.trans hb2)
 clear hO hrd2 hk2 hb2 HRD HBA
 rw [Bool.false_or] at HRD2
 clear HWS hHZ hG2
 have hl1 : (ws.drop n).length ≤ 1048577 := by rw [List.length_drop]; omega
 generalize ws.take n = outs at *
 generalize ws.drop n = ws1 at *
 generalize (decide (n < 1) || decide (8 < n)) = B1 at *
 obtain ⟨AO, kO, hAO⟩ : ∃ A c, vO = .slice A outs.length c := by
  obtain ⟨A, c, h, _⟩ := Fh HO2.out
  exact ⟨A, c, h⟩
 subst hAO
 have HS := Lib.hid (rsign_calls w.heap.size G v2 ws1 B1 ⟨#[58]⟩ w2 HRD2.out)
 clear hn hlw
 cases hS : signB ws1 ⟨#[58]⟩
 ·have hZe : Z = ([], ⟨#[]⟩, [], [], [], 700) := by
   rw [← hZ, hS]
   cases B1 <;> rfl
  clear hZ
  rw [hS, if_neg (by decide)] at HS
  go_wp2_with (go_at_call 114; refine HS.out.mono ?_; rintro e w3 ⟨rfl, ⟨v3, hr⟩, hk, hb⟩; have HRD3 := Aa.mk hr; have HB3 := Aa.mk (HB2.out.trans hb); obtain ⟨c0, c1, f0, f1⟩ := F7 hr.1; clear hr hk hb)
  refine bodyPost_ret (v := .tuple #[.slice none 0 0, .string ⟨#[]⟩, .slice none 0 0, .slice none 0 0, .slice none 0 0, .int .i64 700]) (by simp [results, Tryz.results85, go_sem]) rfl ?_
  rw [hZe]
  exact ⟨_, _, _, _, rfl, Fj _ _, Fj _ _, Fj _ _, Fj _ _, HB3.out.setCell hszA _⟩
 ·rw [hS] at hZ
  rw [hS, if_pos rfl] at HS
  have hl2 : (ws1.drop 1).length ≤ 1048577 := by rw [List.length_drop]; omega
  generalize ws1.drop 1 = ws2 at *
  cases B1
  ·cases ws2 with
   | nil =>
    have hZe : Z = ([], ⟨#[]⟩, [], [], [], 700) := by rw [← hZ]; rfl
    clear hZ
    go_wp2_with (go_at_call 114; refine HS.out.mono ?_; rintro e w3 ⟨rfl, ⟨v3, hr⟩, hk, hb⟩; obtain ⟨A3, k3, rfl, _, _⟩ := Fh hr.2.2; have HRD3 := Aa.mk hr; have HB3 := Aa.mk (HB2.out.trans hb); obtain ⟨c0, c1, f0, f1⟩ := F7 hr.1; clear hr hk hb; simp only [List.length_nil] at c0)
    refine bodyPost_ret (v := .tuple #[.slice none 0 0, .string ⟨#[]⟩, .slice none 0 0, .slice none 0 0, .slice none 0 0, .int .i64 700]) (by simp [results, Tryz.results85, go_sem]) rfl ?_
    rw [hZe]
    exact ⟨_, _, _, _, rfl, Fj _ _, Fj _ _, Fj _ _, Fj _ _, HB3.out.setCell hszA _⟩
   | cons r ws3 =>
    have hpos : (0 : Int) < ((r :: ws3).length : Int) := by simp only [List.length_cons]; omega
    have hne0 : (((r :: ws3).length : Int) == 0) = false := beq_eq_false_iff_ne.2 (by omega)
    have hl3 : ws3.length ≤ 1048577 := by simp only [List.length_cons] at hl2; omega
    cases hM : Ce r
    ·have hZe : Z = ([], ⟨#[]⟩, [], [], [], 700) := by rw [← hZ]; simp [hM]
     clear hZ
     go_wp2_with (go_at_call 114; refine HS.out.mono ?_; rintro e w3 ⟨rfl, ⟨v3, hr⟩, hk, hb⟩; obtain ⟨A3, k3, rfl, _, _⟩ := Fh hr.2.2; obtain ⟨b3, o3, rfl, hx⟩ := Vs_head hr.2.2; have HRD3 := Aa.mk hr; have HB3 := Aa.mk (HB2.out.trans hb); obtain ⟨c0, c1, f0, f1⟩ := F7 hr.1; clear hr hk hb; generalize (r :: ws3).length = N at *)
     refine (Gl _ _).mono ?_
     rintro e w4 ⟨rfl, hb4⟩
     rw [hM]
     have HK4 := Aa.mk (Aj HRD3.out.1 hb4)
     have HB4 := Aa.mk (HB3.out.trans (hb4.mono HB3.out.size))
     obtain ⟨c0, c1, f0, f1⟩ := F7 HK4.out
     clear hb4 hx
     go_wp2_with fail
     refine bodyPost_ret (v := .tuple #[.slice none 0 0, .string ⟨#[]⟩, .slice none 0 0, .slice none 0 0, .slice none 0 0, .int .i64 700]) (by simp [results, Tryz.results85, go_sem]) rfl ?_
     rw [hZe]
     exact ⟨_, _, _, _, rfl, Fj _ _, Fj _ _, Fj _ _, Fj _ _, HB4.out.setCell hszA _⟩
    ·simp only [hM] at hZ
     go_wp2_with (go_at_call 114; refine HS.out.mono ?_; rintro e w3 ⟨rfl, ⟨v3, hr⟩, hk, hb⟩; obtain ⟨A3, k3, rfl, hk3, hC3⟩ := Fh hr.2.2; obtain ⟨b3, o3, rfl, hx⟩ := Vs_head hr.2.2; have HRD3 := Aa.mk hr; have HB3 := Aa.mk (HB2.out.trans hb); have HO3 := Aa.mk (vs_g HO2.out hk); obtain ⟨c0, c1, f0, f1⟩ := F7 hr.1; clear hr hk hb)
     have hbG : b3 ≠ G := Kd.F_in (Kd.V_F HRD3.out.2.2.1) rfl (by simp only [List.length_cons]; omega) (by decide)
     have hGb : G ≠ b3 := fun e => hbG e.symm
     obtain ⟨i9, hi9, _, hi9s, _⟩ := info_parts Hh
     have hfrom : ∀ W : World, (Instr.slice 24 (.slice (some ⟨b3, o3, none⟩) (r :: ws3).length k3) (some (.int .i64 1)) none none).run Tryz.prog W = .ok (.slice (if k3 = 1 then some ⟨b3, o3, none⟩ else (some ⟨b3, o3, none⟩ : Option Addr).map (·.add (1 * 1))) ((r :: ws3).length - 1) (k3 - 1)) W := fun W =>
      cut_from (P := Tryz.prog) 24 9 .i64 Tryz.underlying24 hi9 1 hi9s (some ⟨b3, o3, none⟩) (r :: ws3).length k3 (1 : Int) (by omega) (by simp only [List.length_cons]; omega) W
     obtain ⟨A6, hA6⟩ : ∃ A6, (if k3 = 1 then some ⟨b3, o3, none⟩ else (some ⟨b3, o3, none⟩ : Option Addr).map (·.add (1 * 1))) = A6 := ⟨_, rfl⟩
     have HVD : Hid (Vs w3 (fun k => k ≠ G) (.slice A6 ((r :: ws3).length - 1) (k3 - 1)) ws3) := Lib.hid (by rw [← hA6]; exact Vs_drop HRD3.out.2.2 (by simp only [List.length_cons]; omega))
     rw [hA6] at hfrom
     clear hA6 hC3 hk3
     obtain ⟨M, hM2⟩ : ∃ M, (r :: ws3).length - 1 = M := ⟨_, rfl⟩
     rw [hM2] at hfrom HVD
     clear hM2
     generalize (r :: ws3).length = N at *
     refine (Gl _ _).mono ?_
     rintro e w4 ⟨rfl, hb4⟩
     rw [hM]
     have HK4 := Aa.mk (Aj HRD3.out.1 hb4)
     have HB4 := Aa.mk (HB3.out.trans (hb4.mono HB3.out.size))
     have HO4 := Aa.mk (Dz HO3.out hb4)
     have HV4 := Aa.mk (Dz HVD.out hb4)
     obtain ⟨c0, c1, f0, f1⟩ := F7 HK4.out
     have hx4 := Be hb4 hx
     clear hb4 hx HVD HO3 HB3
     go_wp2_with fail
     have hk6 : Kept w4 ((w4.setCell ⟨G, 1, none⟩ (.bool false)).setCell ⟨G, 0, none⟩ (.slice A6 M (k3 - 1))) (fun k => k = G) := Kept.then_ (Bm w4 G 1 _) (Bm _ G 0 _) (fun k hk => .inl hk)
     have hrd6 : Rd ((w4.setCell ⟨G, 1, none⟩ (.bool false)).setCell ⟨G, 0, none⟩ (.slice A6 M (k3 - 1))) w.heap.size G (.slice A6 M (k3 - 1)) ws3 false := ⟨Az (Az HK4.out 1 _ rfl) 0 _ rfl, hszA, Fa HV4.out hk6 (fun k h1 h2 => h1 h2)⟩
     have HRD6 := Aa.mk hrd6
     have HO6 := Aa.mk (vs_g HO4.out hk6)
     have HB6 := Aa.mk ((HB4.out.setCell (p := ⟨G, 1, none⟩) hszA (.bool false)).setCell (p := ⟨G, 0, none⟩) hszA (.slice A6 M (k3 - 1)))
     clear hk6 hrd6 c0 c1 f0 f1 hx4 HK4 HB4 HO4 HV4 HRD3 hfrom hne0
     generalize (w4.setCell ⟨G, 1, none⟩ (.bool false)).setCell ⟨G, 0, none⟩ (.slice A6 M (k3 - 1)) = W6 at *
     simp only [Bool.false_eq_true, Bool.true_eq_false, ↓reduceIte] at hZ
     refine (names_calls w.heap.size G _ ws3 false 0 (by omega) _ HRD6.out hl3).mono ?_
     rintro e w7 ⟨vI, v7, rfl, hI, hrd7, hk7, hb7⟩
     have hG6 : G < W6.heap.size := Cq HRD6.out.1
     have hsz6 : w.heap.size ≤ W6.heap.size := HB6.out.size
     have HI7 := Aa.mk (vs_new (base0 := w.heap.size) (w1 := w) hI hsz6 hG6)
     have HO7 := Aa.mk (vs_g HO6.out hk7)
     have HB7 := Aa.mk (HB6.out.trans hb7)
     have hbad : (false || (decide (Cm ws3 < 0) || decide (8 < Cm ws3))) = decide (8 < Cm ws3) := by simp
     rw [hbad] at hrd7
     have HRD7 := Aa.mk hrd7
     have hl4 : (ws3.drop (Cm ws3)).length ≤ 1048577 := by rw [List.length_drop]; omega
     clear hbad hI hrd7 hk7 hb7 HO6 HB6 HRD6
     generalize decide (8 < Cm ws3) = b7 at *
     generalize ws3.drop (Cm ws3) = ws4 at *
     generalize ws3.take (Cm ws3) = ins at *
     go_wp2_with fail
     refine (part_calls w.heap.size G _ ws4 b7 ⟨#[124]⟩ _ HRD7.out hl4).mono ?_
     have hl5 : (E7 ws4 ⟨#[124]⟩).2.1.length ≤ 1048577 := by
      unfold E7
      split
      ·simp only [List.length_drop]; omega
      ·exact hl4
     generalize E7 ws4 ⟨#[124]⟩ = P at *
     rintro e w8 ⟨vM, v8, rfl, hM8, hrd8, hk8, hb8⟩
     have hG7 : G < w7.heap.size := Cq HRD7.out.1
     have HM8 := Aa.mk (vs_new (base0 := w.heap.size) (w1 := w) hM8 HB7.out.size hG7)
     have HI8 := Aa.mk (vs_g HI7.out hk8)
     have HO8 := Aa.mk (vs_g HO7.out hk8)
     have HB8 := Aa.mk (HB7.out.trans hb8)
     have HRD8 := Aa.mk hrd8
     clear hM8 hrd8 hk8 hb8 HI7 HO7 HB7 HRD7
     go_wp2_with fail
     refine (part_calls w.heap.size G _ P.2.1 _ ⟨#[124, 124]⟩ _ HRD8.out hl5).mono ?_
     generalize E7 P.2.1 ⟨#[124, 124]⟩ = Q at *
     rintro e w9 ⟨vR, v9, rfl, hM9, hrd9, hk9, hb9⟩
     have hG8 : G < w8.heap.size := Cq HRD8.out.1
     have HR9 := Aa.mk (vs_new (base0 := w.heap.size) (w1 := w) hM9 HB8.out.size hG8)
     have HM9 := Aa.mk (vs_g HM8.out hk9)
     have HI9 := Aa.mk (vs_g HI8.out hk9)
     have HO9 := Aa.mk (vs_g HO8.out hk9)
     have HB9 := Aa.mk (HB8.out.trans hb9)
     obtain ⟨A9, k9, rfl, _, _⟩ := Fh hrd9.2.2
     obtain ⟨c0, c1, f0, f1⟩ := F7 hrd9.1
     clear hM9 hrd9 hk9 hb9 HM8 HI8 HO8 HB8 HRD8
     cases hbd : (b7 || P.2.2 || Q.2.2)
     ·rw [hbd] at hZ c1
      by_cases hz : 0 < Q.2.1.length
      ·have hZe : Z = ([], ⟨#[]⟩, [], [], [], 700) := by rw [← hZ]; simp [hz]
       have hz1 : (0 : Int) < (Q.2.1.length : Int) := by omega
       clear hZ
       go_wp2_with fail
       refine bodyPost_ret (v := .tuple #[.slice none 0 0, .string ⟨#[]⟩, .slice none 0 0, .slice none 0 0, .slice none 0 0, .int .i64 700]) (by simp [results, Tryz.results85, go_sem]) rfl ?_
       rw [hZe]
       exact ⟨_, _, _, _, rfl, Fj _ _, Fj _ _, Fj _ _, Fj _ _, HB9.out⟩
      ·have hZe : Z = (outs, r, ins, P.1, Q.1, 0) := by rw [← hZ]; simp [hz]
       have hz1 : ¬ (0 : Int) < (Q.2.1.length : Int) := by omega
       clear hZ
       go_wp2_with fail
       refine bodyPost_ret (v := .tuple #[.slice AO outs.length kO, .string r, vI, vM, vR, .int .i64 0]) (by simp [results, Tryz.results85, go_sem]) rfl ?_
       rw [hZe]
       exact ⟨_, _, _, _, rfl, vs_end HO9.out, vs_end HI9.out, vs_end HM9.out, vs_end HR9.out, HB9.out⟩
     ·rw [hbd] at hZ c1
      have hZe : Z = ([], ⟨#[]⟩, [], [], [], 700) := by rw [← hZ]; simp
      clear hZ
      go_wp2_with fail
      refine bodyPost_ret (v := .tuple #[.slice none 0 0, .string ⟨#[]⟩, .slice none 0 0, .slice none 0 0, .slice none 0 0, .int .i64 700]) (by simp [results, Tryz.results85, go_sem]) rfl ?_
      rw [hZe]
      exact ⟨_, _, _, _, rfl, Fj _ _, Fj _ _, Fj _ _, Fj _ _, HB9.out⟩
  ·have hZe : Z = ([], ⟨#[]⟩, [], [], [], 700) := by rw [← hZ]; rfl
   clear hZ
   go_wp2_with (go_at_call 114; refine HS.out.mono ?_; rintro e w3 ⟨rfl, ⟨v3, hr⟩, hk, hb⟩; have HRD3 := Aa.mk hr; have HB3 := Aa.mk (HB2.out.trans hb); obtain ⟨c0, c1, f0, f1⟩ := F7 hr.1; clear hr hk hb)
   refine bodyPost_ret (v := .tuple #[.slice none 0 0, .string ⟨#[]⟩, .slice none 0 0, .slice none 0 0, .slice none 0 0, .int .i64 700]) (by simp [results, Tryz.results85, go_sem]) rfl ?_
   rw [hZe]
   exact ⟨_, _, _, _, rfl, Fj _ _, Fj _ _, Fj _ _, Fj _ _, HB3.out.setCell hszA _⟩
def C4 : List ByteArray → List ByteArray → Option (List ByteArray)
 | kept, [] => some kept
 | kept, p :: l =>
  if p.toList = ([] : List UInt8) ∨ p.toList = [46] then C4 kept l else
  if p.toList ≠ [46, 46] then C4 (kept ++ [p]) l else
  if kept.length = 0 then none else C4 (kept.take (kept.length - 1)) l
def Em (xs : List ByteArray) (sep : ByteArray) : ByteArray := ⟨(Lib.join (xs.map (·.data.toList)) sep.data.toList).toArray⟩
def Ej (s : ByteArray) : ByteArray × Int :=
 if Ce s = true ∧ bt s 0 ≠ 47 then
  match C4 [] (splitB 47 s.data.toList) with
  | none => (⟨#[]⟩, 200)
  | some kept => if kept.length = 0 then (⟨#[]⟩, 200) else (Em kept ⟨#[47]⟩, 0)
 else (⟨#[]⟩, 200)
theorem splitC_size (c : UInt8) (l : List UInt8) : ∀ cur, ∀ r ∈ Ec c cur l, r.length ≤ cur.length + l.length := by
 induction l with
 | nil => intro cur r hr; simp only [Ec, List.mem_singleton] at hr; subst hr; omega
 | cons d l ih =>
  intro cur r hr
  simp only [Ec] at hr
  rw [List.length_cons]
  by_cases h : d = c
  ·rw [if_pos h] at hr
   rcases List.mem_cons.1 hr with rfl | hr
   ·omega
   ·have := ih [] r hr; simp only [List.length_nil] at this; omega
  ·rw [if_neg h] at hr
   have := ih _ r hr
   rw [List.length_append, List.length_singleton] at this
   omega
theorem splitB_size (c : UInt8) (l : List UInt8) : ∀ y ∈ splitB c l, y.size ≤ l.length := by
 intro y hy
 unfold splitB at hy
 obtain ⟨r, hr, rfl⟩ := List.mem_map.1 hy
 have := splitC_size c l [] r hr
 rw [Lib.size_eq]
 simpa using this
theorem lens_le (M : Nat) (kept : List ByteArray) (h : ∀ y ∈ kept, y.size ≤ M) : Lib.lens (kept.map (·.data.toList)) ≤ M * kept.length := by
 induction kept with
 | nil => simp [Lib.lens]
 | cons y l ih =>
  have h1 := ih (fun z hz => h z (List.mem_cons_of_mem _ hz))
  have h2 := h y (List.mem_cons_self ..)
  rw [Lib.size_eq] at h2
  simp only [List.map_cons, Lib.lens, List.length_cons, Nat.mul_add, Nat.mul_one] at h1 ⊢
  first | omega | (simp only [List.sum_cons] at h1 ⊢; omega) | (simp [Lib.lens] at h1 ⊢; omega)
theorem join_le (M : Nat) (kept : List ByteArray) (sep : List UInt8) (h : ∀ y ∈ kept, y.size ≤ M) : (Lib.join (kept.map (·.data.toList)) sep).length ≤ sep.length * kept.length + M * kept.length := by
 cases kept with
 | nil => simp [Lib.join, List.intercalate]
 | cons y l =>
  have h1 := lens_le M (y :: l) h
  rw [List.map_cons] at h1 ⊢
  rw [Lib.join_length, List.length_map, List.length_cons]
  rw [List.length_cons] at h1
  have h2 : sep.length * l.length ≤ sep.length * (l.length + 1) := Nat.mul_le_mul_left _ (by omega)
  omega
theorem bt_zero (s : ByteArray) (h : 0 < s.size) : bt s 0 = ((s[0]'h).toNat : Int) := by
 have h2 := Lib.size_eq s
 simp [bt, ByteArray.getElem_eq_getElem_data]
 rw [dif_pos h]
theorem clean_calls (s : ByteArray) (hs : s.size ≤ 1048576) (w : World) :
 Calls Tryz.prog 116 #[.string s] w fun e w' => e = .returned (.tuple #[.string (Ej s).1, .int .i64 (Ej s).2]) ∧ Below w.heap.size w w' := by
 obtain ⟨Z, hZ⟩ : ∃ Z, Ej s = Z := ⟨_, rfl⟩
 have HZ := Lib.hid hZ
 rw [hZ]
 unfold Ej at hZ
 cases hM : Ce s
 ·have hZe : Z = (⟨#[]⟩, 200) := by rw [← hZ, if_neg (fun h => by rw [hM] at h; exact absurd h.1 (by decide))]
  clear hZ
  go_enter Tryz.func116, Tryz.ntmps116
  go_wp2_with (go_at_call 76; refine (Gl _ _).mono ?_; rintro e w1 ⟨rfl, hb⟩; rw [hM])
  go_ret2
  rw [hZe]
  exact ⟨rfl, hb⟩
 ·have h1 : 0 < s.size := by
   unfold Ce at hM
   rw [Bool.and_eq_true] at hM
   exact of_decide_eq_true hM.1
  have hb0 : bt s 0 = ((s[0]'h1).toNat : Int) := bt_zero s h1
  cases hc : (((s[0]'h1).toNat : Int) == 47)
  ·have hcn : bt s 0 ≠ 47 := by rw [hb0]; exact fun e => by rw [e] at hc; exact absurd hc (by decide)
   rw [if_pos ⟨hM, hcn⟩] at hZ
   clear hb0 hcn
   go_enter Tryz.func116, Tryz.ntmps116
   go_wp2_with (first | (go_at_call 76; refine (Gl _ _).mono ?_; rintro e w1 ⟨rfl, hb⟩; rw [hM]; have HB0 := Aa.mk hb; clear hb) | (go_at_call 119; refine (split_calls 47 s hs _).mono ?_; rintro e w2 ⟨v, rfl, hR, hb⟩; obtain ⟨A, cc, rfl⟩ := Kd.Bd hR; have HR := Aa.mk hR; have HB1 := Aa.mk hb; clear hR hb))
   obtain ⟨ps, hps⟩ : ∃ ps, splitB 47 s.data.toList = ps := ⟨_, rfl⟩
   have hpl : ps.length ≤ 1048577 := by
    rw [← hps, splitB_len]
    have : s.data.toList.count 47 ≤ s.data.toList.length := List.count_le_length
    rw [← Lib.size_eq] at this
    omega
   have HPS : Hid (∀ y ∈ ps, y.size ≤ 1048576) := Lib.hid (fun y hy => by
    rw [← hps] at hy
    have := splitB_size 47 _ y hy
    rw [← Lib.size_eq] at this
    omega)
   rw [hps] at hZ HR ⊢
   clear hps hM hc
   have HC := Aa.mk (Kd.R_reads' HR.out).2.2
   have hB2 := HB0.out.trans (HB1.out.mono HB0.out.size)
   have HB2 := Aa.mk hB2
   clear hB2 HR HB1 HB0
   go_loopw [4, 6, 18] (fun v4 v6 v18 wr => ∃ (k : Nat) (kept : List ByteArray), v18 = .int .i64 k ∧ k ≤ ps.length ∧ kept.length ≤ k ∧ Aa (Kd.R Kd.string 9 wr w2.heap.size (fun _ => True) v4 kept) ∧ Aa (C4 kept (ps.drop k) = C4 [] ps) ∧ Aa (Below w2.heap.size w2 wr) ∧ Aa (∀ y ∈ kept, y.size ≤ 1048576)) (fun v4 v6 v18 _ => ps.length - (intOf v18).toNat)
   case atStart => exact ⟨0, [], rfl, by omega, by simp, ⟨Kd.Di _ _ _ _ _⟩, ⟨rfl⟩, ⟨Below.refl _ _⟩, ⟨fun y hy => by simp at hy⟩⟩
   case round =>
    obtain ⟨k, kept, rfl, hk, hkl, HR, HG, HB, HSZ⟩ := hrel
    have hzz : w2.heap.size ≤ wr.heap.size := HB.out.size
    obtain ⟨A4, k4, rfl, hk4, hC4⟩ := Kd.Dl HR.out
    by_cases hlt : k < ps.length
    ·obtain ⟨ad, rfl, f0⟩ := Kd.Ct (Kd.Bb HC.out HB.out) (k : Int) (by omega) (by omega)
     rw [Ie ps k hlt] at f0
     simp only [Int.toNat_natCast] at f0
     have hcons := List.drop_eq_getElem_cons hlt
     have HCO := Lib.hid hcons
     clear hcons
     have HXS := Lib.hid (HPS.out _ (List.getElem_mem hlt))
     generalize ps[k] = x at *
     by_cases e1 : x.toList = ([] : List UInt8)
     ·have hgo : C4 kept (x :: ps.drop (k + 1)) = C4 kept (ps.drop (k + 1)) := by simp only [C4]; rw [if_pos (.inl e1)]
      have HGO := Lib.hid hgo
      have e1b : (x.toList == ([] : List UInt8)) = true := beq_iff_eq.2 e1
      clear hgo
      go_wp2_with fail
      exact ⟨⟨k + 1, kept, by go_num, by omega, by omega, HR, ⟨by rw [← HGO.out, ← HCO.out]; exact HG.out⟩, HB, HSZ⟩, by simp [intOf]; omega⟩
     ·by_cases e2 : x.toList = ([46] : List UInt8)
      ·have hgo : C4 kept (x :: ps.drop (k + 1)) = C4 kept (ps.drop (k + 1)) := by simp only [C4]; rw [if_pos (.inr e2)]
       have HGO := Lib.hid hgo
       have e2b : (x.toList == ([46] : List UInt8)) = true := beq_iff_eq.2 e2
       clear hgo
       go_wp2_with fail
       all_goals first
        | exact ⟨⟨k + 1, kept, by go_num, by omega, by omega, HR, ⟨by rw [← HGO.out, ← HCO.out]; exact HG.out⟩, HB, HSZ⟩, by simp [intOf]; omega⟩
        | (rename_i hx; exact absurd (List.isEmpty_iff.mp hx) e1)
      ·have e2b : (x.toList == ([46] : List UInt8)) = false := beq_eq_false_iff_ne.2 e2
       by_cases e3 : x.toList = ([46, 46] : List UInt8)
       ·have e3b : (x.toList == ([46, 46] : List UInt8)) = true := beq_iff_eq.2 e3
        have e3c : (x.toList != ([46, 46] : List UInt8)) = false := by rw [bne, e3b]; rfl
        by_cases h0 : kept.length = 0
        ·have hgo : C4 kept (x :: ps.drop (k + 1)) = none := by simp only [C4]; rw [if_neg (by rintro (h | h) <;> contradiction), if_neg (fun h => h e3), if_pos h0]
         have hZe : Z = (⟨#[]⟩, 200) := by rw [← hZ, ← HG.out, HCO.out, hgo]
         have h0b : ((kept.length : Int) == 0) = true := beq_iff_eq.2 (by omega)
         clear hZ hgo
         go_wp2_with fail
         all_goals first
          | (go_ret2; rw [hZe]; exact ⟨rfl, HB2.out.trans (HB.out.mono HB2.out.size)⟩)
          | (rename_i hx; exact absurd (List.isEmpty_iff.mp hx) e1)
        ·have hgo : C4 kept (x :: ps.drop (k + 1)) = C4 (kept.take (kept.length - 1)) (ps.drop (k + 1)) := by simp only [C4]; rw [if_neg (by rintro (h | h) <;> contradiction), if_neg (fun h => h e3), if_neg h0]
         have HGO := Lib.hid hgo
         have h0b : ((kept.length : Int) == 0) = false := beq_eq_false_iff_ne.2 (by omega)
         clear hgo
         obtain ⟨i9, hi9, _, hi9s, _⟩ := info_parts Hh
         have hcut : ∀ W : World, (Instr.slice 24 (.slice A4 kept.length k4) none (some (.int .i64 ((kept.length : Int) - 1))) none).run Tryz.prog W = .ok (.slice A4 (kept.length - 1) k4) W := fun W => by
          have := cut_to (P := Tryz.prog) 24 9 .i64 Tryz.underlying24 hi9 A4 kept.length k4 ((kept.length : Int) - 1) (by omega) (by omega) hk4 W
          rwa [show ((kept.length : Int) - 1).toNat = kept.length - 1 by omega] at this
         have HT := Aa.mk (Kd.R_take (m := kept.length - 1) HR.out (by omega))
         have hL : (kept.take (kept.length - 1)).length ≤ k := by rw [List.length_take]; omega
         go_wp2_with fail
         all_goals first
          | exact ⟨⟨k + 1, kept.take (kept.length - 1), by go_num, by omega, by omega, HT, ⟨by rw [← HGO.out, ← HCO.out]; exact HG.out⟩, HB, ⟨fun y hy => HSZ.out y (List.mem_of_mem_take hy)⟩⟩, by simp [intOf]; omega⟩
          | (rename_i hx; exact absurd (List.isEmpty_iff.mp hx) e1)
       ·have hgo : C4 kept (x :: ps.drop (k + 1)) = C4 (kept ++ [x]) (ps.drop (k + 1)) := by simp only [C4]; rw [if_neg (by rintro (h | h) <;> contradiction), if_pos e3]
        have HGO := Lib.hid hgo
        have e3b : (x.toList == ([46, 46] : List UInt8)) = false := beq_eq_false_iff_ne.2 e3
        have e3c : (x.toList != ([46, 46] : List UInt8)) = true := by rw [bne, e3b]; rfl
        clear hgo
        go_wp2_with ((with_reducible refine Cz (b := .append) (xs := #[.tmp 37, .tmp 39]) rfl ?_); at_builtin; refine Kd.Ep Kd.string (w0 := w2) w2.heap.size rfl (.tmp 37) (.tmp 39) 24 9 (.string ⟨#[]⟩) 16 rfl Tryz.underlying24 Hh rfl (by decide) (by omega) (.slice A4 kept.length k4) kept x [.string x] (fun _ => True) (fun _ => False) rfl rfl rfl (fun _ hk => hk.elim) (fun _ _ => trivial) HR.out HB.out hzz ?aL ?_; (case aL => omega); intro v5 w5 ho5 hb5 hg hat; clear hg hat; have HO5 := Aa.mk ho5; have HB5 := Aa.mk hb5; clear ho5 hb5)
        all_goals first
         | exact ⟨⟨k + 1, kept ++ [x], by go_num, by omega, by rw [List.length_append, List.length_singleton]; omega, HO5, ⟨by rw [← HGO.out, ← HCO.out]; exact HG.out⟩, HB5, ⟨fun y hy => by
          rcases List.mem_append.1 hy with hy | hy
          ·exact HSZ.out y hy
          ·rw [List.mem_singleton.1 hy]; exact HXS.out⟩⟩, by simp [intOf]; omega⟩
         | (rename_i hx; exact absurd (List.isEmpty_iff.mp hx) e1)
    ·have hd : ps.drop k = [] := List.drop_of_length_le (by omega)
     have hG := HG.out
     rw [hd] at hG
     rw [← hG] at hZ
     simp only [C4] at hZ
     clear hG hd
     by_cases h0 : kept.length = 0
     ·have hZe : Z = (⟨#[]⟩, 200) := by rw [← hZ, if_pos h0]
      have h0b : ((kept.length : Int) == 0) = true := beq_iff_eq.2 (by omega)
      clear hZ
      go_wp2_with fail
      go_ret2
      rw [hZe]
      exact ⟨rfl, HB2.out.trans (HB.out.mono HB2.out.size)⟩
     ·have hZe : Z = (Em kept ⟨#[47]⟩, 0) := by rw [← hZ, if_neg h0]
      have h0b : ((kept.length : Int) == 0) = false := beq_eq_false_iff_ne.2 (by omega)
      clear hZ
      obtain ⟨g, cap, hv, hgb, hgl, cells, hcells⟩ := Kd.Gy HR.out (by omega)
      injection hv with ha _ hc
      subst ha hc
      have HJ := Lib.hid (Tryz.strings_Join g 0 k4 kept ⟨#[47]⟩ wr (fun j x hj => by
       have hjl : j < kept.length := (List.getElem?_eq_some_iff.mp hj).1
       obtain ⟨hx, _⟩ := Kd.R_celln (⟨#[]⟩ : ByteArray) HR.out (j : Int) (by omega) (by omega)
       rw [Int.toNat_natCast, rdOf_at' kept j hjl] at hx
       rw [Nat.zero_add, hx, (List.getElem?_eq_some_iff.mp hj).2]) hgl (by omega) hk4 (by
       have h5 := join_le 1048576 kept [47] HSZ.out
       have h6 : ([47] : List UInt8).length * kept.length = kept.length := by simp
       rw [h6] at h5
       exact Nat.le_trans h5 (by omega)))
      clear hcells hgb hgl
      go_wp2_with (go_at_call 117; refine HJ.out.mono ?_; rintro e w5 ⟨rfl, hb5⟩; have HB5 := Aa.mk hb5; clear hb5)
      go_ret2
      rw [hZe]
      exact ⟨rfl, HB2.out.trans ((HB.out.mono HB2.out.size).trans (HB5.out.mono (Nat.le_trans HB2.out.size hzz)))⟩
  ·have hZe : Z = (⟨#[]⟩, 200) := by rw [← hZ, if_neg (fun h => h.2 (by rw [hb0]; exact beq_iff_eq.1 hc))]
   clear hZ hb0
   go_enter Tryz.func116, Tryz.ntmps116
   go_wp2_with (first | (go_at_call 76; refine (Gl _ _).mono ?_; rintro e w1 ⟨rfl, hb⟩; rw [hM]; have HB0 := Aa.mk hb; clear hb))
   go_ret2
   rw [hZe]
   exact ⟨rfl, HB0.out⟩
end Go.Proofs.YtefheailchihaaaGreatDoor.Print
end
