import Derived.Test.YtefheailchihaaaGreatDoorSg2
set_option maxHeartbeats 8000000
set_option maxRecDepth 100000
set_option linter.unusedVariables false
set_option linter.unusedSimpArgs false
section
namespace Go.Proofs.YtefheailchihaaaGreatDoor.Print
open Go.RowKit Go.Proofs.YtefheailchihaaaGreatDoorW.PrintWords Go.Proofs.YtefheailchihaaaGreatDoorW.PrintLast Go.Proofs.YtefheailchihaaaGreatDoorW.PrintMore
attribute [local go_sem] max2_int min2_int max_two min_two max_three min_three max_four min_four
def Cd.l0 : Nat → List ByteArray → ByteArray → Int → Option (Bool)
 | 0, _, _, _ => none
 | k + 1, x0, x1, x5 => if x5 < (x0.length : Int) then (if 0 ≤ x5 then (if (rdOf ByteArray.empty x0 x5).toList = x1.toList then (some true) else (Cd.l0 k x0 x1 (wrap64 (x5 + 1)))) else (none)) else (some false)
def Cd.f (k : Nat) (l0 : List ByteArray) (a1 : ByteArray) : Option (Bool) := Cd.l0 k l0 a1 0
theorem Cd.mono_l : ∀ k, (∀ y0 y1 y2, LeO (Cd.l0 k y0 y1 y2) (Cd.l0 (k + 1) y0 y1 y2))
 | 0 => fun _ _ _ r h => by simp [Cd.l0] at h
 | k + 1 => by
  have ih0 := Cd.mono_l k
  ·intro y0 y1 y2
   unfold Cd.l0
   repeat' first
   | (with_reducible exact ih0 _ _ _)
   | (with_reducible exact LeO.refl _)
   | (with_reducible exact LeO.none _)
   | (with_reducible refine LeO.ite ?_ ?_)
   | (with_reducible refine LeO.bind ?_ (fun _ => ?_))
   | exact ih0 _ _ _
   | exact LeO.none _
   | refine LeO.ite ?_ ?_
   | refine LeO.bind ?_ (fun _ => ?_)
theorem Cd.mono : ∀ a0 a1 k, LeO (Cd.f k a0 a1) (Cd.f (k + 1) a0 a1) := by
 intro a0 a1 k
 have ih0 := Cd.mono_l k
 unfold Cd.f
 repeat' first
  | (with_reducible exact ih0 _ _ _)
  | (with_reducible exact LeO.refl _)
  | (with_reducible exact LeO.none _)
  | (with_reducible refine LeO.ite ?_ ?_)
  | (with_reducible refine LeO.bind ?_ (fun _ => ?_))
  | exact ih0 _ _ _
  | exact LeO.none _
  | refine LeO.ite ?_ ?_
  | refine LeO.bind ?_ (fun _ => ?_)
theorem Cd.calls (k : Nat) (A0 : Option Addr) (c0 : Nat) (l0 : List ByteArray) (a1 : ByteArray) (r : Bool) (w : World) (hr0 : Kd.C Kd.string w A0 l0.length l0) (hc0 : l0.length ≤ c0) (h : Cd.f k l0 a1 = some r) :
 Calls Tryz.prog 54 #[.slice A0 l0.length c0, .string a1] w fun e w' => e = .returned (.bool r) ∧ Ch w w' := by
 have HR0 := Aa.mk hr0
 have HC0 := Aa.mk hc0
 clear hr0 hc0
 have H : (Cd.l0 k l0 a1 0) = some r := h
 clear h
 have H' := Aa.mk H
 clear H
 go_enter Tryz.func54, Tryz.ntmps54
 go_wp2
 go_loopg [5] k (fun kq v5 w' => ∃ (x5_1 : Int), v5 = .int .i64 x5_1 ∧ Aa (Cd.l0 kq l0 a1 x5_1 = some r) ∧ Aa (kq ≤ k) ∧ Ch w w')
 case atStart => exact ⟨(0), zqD, H', ⟨Nat.le_refl _⟩, zqF⟩
 case round =>
  clear H'
  try clear p2
  obtain ⟨x5_1, rfl, HA, HK1, ⟨m1, rfl⟩⟩ := hrel
  cases gk with
  | zero => exact absurd HA.out (by simp [Cd.l0])
  | succ k1 =>
   have H := HA.out
   clear HA
   simp only [Cd.l0] at H
   by_cases c3 : x5_1 < (l0.length : Int)
   ·rw [if_pos c3] at H
    have c3b0 : decide (x5_1 < (l0.length : Int)) = true := decide_eq_true c3
    clear c3
    by_cases c4 : 0 ≤ x5_1
    ·rw [if_pos c4] at H
     have c4b0 : decide (0 ≤ x5_1) = true := decide_eq_true c4
     clear c4
     by_cases c5 : (rdOf ByteArray.empty l0 x5_1).toList = a1.toList
     ·rw [if_pos c5] at H
      have c5b0 : ((rdOf ByteArray.empty l0 x5_1).toList == a1.toList) = true := beq_iff_eq.mpr c5
      have c5b1 : ((rdOf ByteArray.empty l0 x5_1).toList != a1.toList) = false := bne_eq_false_iff_eq.mpr c5
      clear c5
      obtain rfl := Option.some.inj H
      have p169 : 0 ≤ (x5_1 : Int) := of_decide_eq_true zqA
      have q169 : x5_1 < (l0.length : Int) := of_decide_eq_true zqA
      obtain ⟨ad169, e169, hx169_0⟩ := Kd.Ct HR0.out x5_1 p169 q169
      cases e169
      replace p169 := eq_true p169
      replace q169 := eq_true q169
      go_wp2
      go_ret
      exact ⟨zqD, zqF⟩
     ·rw [if_neg c5] at H
      have c5b0 : ((rdOf ByteArray.empty l0 x5_1).toList == a1.toList) = false := beq_eq_false_iff_ne.mpr c5
      have c5b1 : ((rdOf ByteArray.empty l0 x5_1).toList != a1.toList) = true := bne_iff_ne.mpr c5
      have H' := Aa.mk H
      clear H
      have p169 : 0 ≤ (x5_1 : Int) := of_decide_eq_true zqA
      have q169 : x5_1 < (l0.length : Int) := of_decide_eq_true zqA
      obtain ⟨ad169, e169, hx169_0⟩ := Kd.Ct HR0.out x5_1 p169 q169
      cases e169
      replace p169 := eq_true p169
      replace q169 := eq_true q169
      go_wp2
      go_roundg k1
      case measure => have := HK1.out; omega
      case rel => exact ⟨(wrap64 (x5_1 + 1)), zqD, H', ⟨by have := HK1.out; omega⟩, zqF⟩
    ·rw [if_neg c4] at H
     exact absurd H (by simp)
   ·rw [if_neg c3] at H
    have c3b0 : decide (x5_1 < (l0.length : Int)) = false := decide_eq_false c3
    clear c3
    obtain rfl := Option.some.inj H
    go_wp2
    go_ret
    exact ⟨zqD, zqF⟩
def Bw.l0 : Nat → List (S44) → ByteArray → Int → Option (Int)
 | 0, _, _, _ => none
 | k + 1, x0, x1, x5 => if x5 < (x0.length : Int) then (if 0 ≤ x5 then (if ((Ds x0 x5).f0).toList = x1.toList then (some x5) else (Bw.l0 k x0 x1 (wrap64 (x5 + 1)))) else (none)) else (some (-1))
def Bw.f (k : Nat) (l0 : List (S44)) (a1 : ByteArray) : Option (Int) := Bw.l0 k l0 a1 0
theorem Bw.mono_l : ∀ k, (∀ y0 y1 y2, LeO (Bw.l0 k y0 y1 y2) (Bw.l0 (k + 1) y0 y1 y2))
 | 0 => fun _ _ _ r h => by simp [Bw.l0] at h
 | k + 1 => by
  have ih0 := Bw.mono_l k
  ·intro y0 y1 y2
   unfold Bw.l0
   repeat' first
   | (with_reducible exact ih0 _ _ _)
   | (with_reducible exact LeO.refl _)
   | (with_reducible exact LeO.none _)
   | (with_reducible refine LeO.ite ?_ ?_)
   | (with_reducible refine LeO.bind ?_ (fun _ => ?_))
   | exact ih0 _ _ _
   | exact LeO.none _
   | refine LeO.ite ?_ ?_
   | refine LeO.bind ?_ (fun _ => ?_)
theorem Bw.mono : ∀ a0 a1 k, LeO (Bw.f k a0 a1) (Bw.f (k + 1) a0 a1) := by
 intro a0 a1 k
 have ih0 := Bw.mono_l k
 unfold Bw.f
 repeat' first
  | (with_reducible exact ih0 _ _ _)
  | (with_reducible exact LeO.refl _)
  | (with_reducible exact LeO.none _)
  | (with_reducible refine LeO.ite ?_ ?_)
  | (with_reducible refine LeO.bind ?_ (fun _ => ?_))
  | exact ih0 _ _ _
  | exact LeO.none _
  | refine LeO.ite ?_ ?_
  | refine LeO.bind ?_ (fun _ => ?_)
theorem Bw.calls (k : Nat) (A0 : Option Addr) (c0 : Nat) (l0 : List (S44)) (a1 : ByteArray) (r : Int) (w : World) (hr0 : Kd.C k44 w A0 l0.length l0) (hc0 : l0.length ≤ c0) (h : Bw.f k l0 a1 = some r) :
 Calls Tryz.prog 32 #[.slice A0 l0.length c0, .string a1] w fun e w' => e = .returned (.int .i64 r) ∧ Ch w w' := by
 have HR0 := Aa.mk hr0
 have HC0 := Aa.mk hc0
 clear hr0 hc0
 have H : (Bw.l0 k l0 a1 0) = some r := h
 clear h
 have H' := Aa.mk H
 clear H
 go_enter Tryz.func32, Tryz.ntmps32
 go_wp2
 go_loopg [5] k (fun kq v5 w' => ∃ (x5_1 : Int), v5 = .int .i64 x5_1 ∧ Aa (Bw.l0 kq l0 a1 x5_1 = some r) ∧ Aa (kq ≤ k) ∧ Ch w w')
 case atStart => exact ⟨(0), zqD, H', ⟨Nat.le_refl _⟩, zqF⟩
 case round =>
  clear H'
  try clear p2
  obtain ⟨x5_1, rfl, HA, HK1, ⟨m1, rfl⟩⟩ := hrel
  cases gk with
  | zero => exact absurd HA.out (by simp [Bw.l0])
  | succ k1 =>
   have H := HA.out
   clear HA
   simp only [Bw.l0] at H
   by_cases c3 : x5_1 < (l0.length : Int)
   ·rw [if_pos c3] at H
    have c3b0 : decide (x5_1 < (l0.length : Int)) = true := decide_eq_true c3
    clear c3
    by_cases c4 : 0 ≤ x5_1
    ·rw [if_pos c4] at H
     have c4b0 : decide (0 ≤ x5_1) = true := decide_eq_true c4
     clear c4
     by_cases c5 : ((Ds l0 x5_1).f0).toList = a1.toList
     ·rw [if_pos c5] at H
      have c5b0 : (((Ds l0 x5_1).f0).toList == a1.toList) = true := beq_iff_eq.mpr c5
      have c5b1 : (((Ds l0 x5_1).f0).toList != a1.toList) = false := bne_eq_false_iff_eq.mpr c5
      clear c5
      obtain rfl := Option.some.inj H
      have p124 : 0 ≤ (x5_1 : Int) := of_decide_eq_true zqA
      have q124 : x5_1 < (l0.length : Int) := of_decide_eq_true zqA
      obtain ⟨ad124, e124, hx124_0, hx124_1⟩ := at_T44 HR0.out x5_1 p124 q124
      cases e124
      replace p124 := eq_true p124
      replace q124 := eq_true q124
      go_wp2
      go_ret
      exact ⟨zqD, zqF⟩
     ·rw [if_neg c5] at H
      have c5b0 : (((Ds l0 x5_1).f0).toList == a1.toList) = false := beq_eq_false_iff_ne.mpr c5
      have c5b1 : (((Ds l0 x5_1).f0).toList != a1.toList) = true := bne_iff_ne.mpr c5
      have H' := Aa.mk H
      clear H
      have p124 : 0 ≤ (x5_1 : Int) := of_decide_eq_true zqA
      have q124 : x5_1 < (l0.length : Int) := of_decide_eq_true zqA
      obtain ⟨ad124, e124, hx124_0, hx124_1⟩ := at_T44 HR0.out x5_1 p124 q124
      cases e124
      replace p124 := eq_true p124
      replace q124 := eq_true q124
      go_wp2
      go_roundg k1
      case measure => have := HK1.out; omega
      case rel => exact ⟨(wrap64 (x5_1 + 1)), zqD, H', ⟨by have := HK1.out; omega⟩, zqF⟩
    ·rw [if_neg c4] at H
     exact absurd H (by simp)
   ·rw [if_neg c3] at H
    have c3b0 : decide (x5_1 < (l0.length : Int)) = false := decide_eq_false c3
    clear c3
    obtain rfl := Option.some.inj H
    go_wp2
    go_ret
    exact ⟨zqD, zqF⟩
mutual
def Ax.j0 : Nat → List (S174) → ByteArray → ByteArray → Bool → Option ((List (S174)) × Int)
 | 0, _, _, _, _ => none
 | k + 1, x0, x1, x2, x22 => if x22 = true then (some (([] : List (S174)), 400)) else ((some (([] : List (S174)) : List (S174))).bind fun y153 => (if y153.length + x0.length < 4398046511104 then (Ax.l0 k x1 x2 (y153 ++ x0) 0) else (none)))
def Ax.l0 : Nat → ByteArray → ByteArray → List (S174) → Int → Option ((List (S174)) × Int)
 | 0, _, _, _, _ => none
 | k + 1, x1, x2, x8, x9 => if x9 < (x8.length : Int) then (if 0 ≤ x9 then (if ((Bg x8 x9).f0).toList = x1.toList then (some ((x8.set (x9 : Int).toNat (⟨(Bg x8 x9).f0, x2⟩ : S174)), 0)) else (Ax.l0 k x1 x2 x8 (wrap64 (x9 + 1)))) else (none)) else (if (x8.length : Int) = 16 then (some (([] : List (S174)), 401)) else (if x8.length < 4398046511104 then (some ((x8 ++ [(⟨x1, x2⟩ : S174)]), 0)) else (none)))
end
def Ax.f (k : Nat) (l0 : List (S174)) (a1 : ByteArray) (a2 : ByteArray) : Option ((List (S174)) × Int) := (Af.f k l0).bind fun t150 => (if t150 = true then ((Ag.f k a1).bind fun t151 => (if t151 = true then ((An.f k a2 0 256).bind fun t152 => (Ax.j0 k l0 a1 a2 (!t152))) else (Ax.j0 k l0 a1 a2 true))) else (Ax.j0 k l0 a1 a2 true))
theorem Ax.mono_l : ∀ k, (∀ y0 y1 y2 y3, LeO (Ax.j0 k y0 y1 y2 y3) (Ax.j0 (k + 1) y0 y1 y2 y3)) ∧ (∀ y0 y1 y2 y3, LeO (Ax.l0 k y0 y1 y2 y3) (Ax.l0 (k + 1) y0 y1 y2 y3))
 | 0 => ⟨fun _ _ _ _ r h => by simp [Ax.j0] at h, fun _ _ _ _ r h => by simp [Ax.l0] at h⟩
 | k + 1 => by
  obtain ⟨ih0, ih1⟩ := Ax.mono_l k
  refine ⟨?_, ?_⟩
  ·intro y0 y1 y2 y3
   unfold Ax.j0
   repeat' first
   | (with_reducible exact ih0 _ _ _ _)
   | (with_reducible exact ih1 _ _ _ _)
   | (with_reducible exact Ag.mono _ _)
   | (with_reducible exact An.mono _ _ _ _)
   | (with_reducible exact Af.mono _ _)
   | (with_reducible exact LeO.refl _)
   | (with_reducible exact LeO.none _)
   | (with_reducible refine LeO.ite ?_ ?_)
   | (with_reducible refine LeO.bind ?_ (fun _ => ?_))
   | exact ih0 _ _ _ _
   | exact ih1 _ _ _ _
   | exact Ag.mono _ _
   | exact An.mono _ _ _ _
   | exact Af.mono _ _
   | exact LeO.none _
   | refine LeO.ite ?_ ?_
   | refine LeO.bind ?_ (fun _ => ?_)
  ·intro y0 y1 y2 y3
   unfold Ax.l0
   repeat' first
   | (with_reducible exact ih0 _ _ _ _)
   | (with_reducible exact ih1 _ _ _ _)
   | (with_reducible exact Ag.mono _ _)
   | (with_reducible exact An.mono _ _ _ _)
   | (with_reducible exact Af.mono _ _)
   | (with_reducible exact LeO.refl _)
   | (with_reducible exact LeO.none _)
   | (with_reducible refine LeO.ite ?_ ?_)
   | (with_reducible refine LeO.bind ?_ (fun _ => ?_))
   | exact ih0 _ _ _ _
   | exact ih1 _ _ _ _
   | exact Ag.mono _ _
   | exact An.mono _ _ _ _
   | exact Af.mono _ _
   | exact LeO.none _
   | refine LeO.ite ?_ ?_
   | refine LeO.bind ?_ (fun _ => ?_)
theorem Ax.mono : ∀ a0 a1 a2 k, LeO (Ax.f k a0 a1 a2) (Ax.f (k + 1) a0 a1 a2) := by
 intro a0 a1 a2 k
 obtain ⟨ih0, ih1⟩ := Ax.mono_l k
 unfold Ax.f
 repeat' first
  | (with_reducible exact ih0 _ _ _ _)
  | (with_reducible exact ih1 _ _ _ _)
  | (with_reducible exact Ag.mono _ _)
  | (with_reducible exact An.mono _ _ _ _)
  | (with_reducible exact Af.mono _ _)
  | (with_reducible exact LeO.refl _)
  | (with_reducible exact LeO.none _)
  | (with_reducible refine LeO.ite ?_ ?_)
  | (with_reducible refine LeO.bind ?_ (fun _ => ?_))
  | exact ih0 _ _ _ _
  | exact ih1 _ _ _ _
  | exact Ag.mono _ _
  | exact An.mono _ _ _ _
  | exact Af.mono _ _
  | exact LeO.none _
  | refine LeO.ite ?_ ?_
  | refine LeO.bind ?_ (fun _ => ?_)
theorem Ax.calls (k : Nat) (A0 : Option Addr) (c0 : Nat) (l0 : List (S174)) (a1 : ByteArray) (a2 : ByteArray) (r1 : List (S174)) (r2 : Int) (w : World) (hr0 : Kd.C k174 w A0 l0.length l0) (hc0 : l0.length ≤ c0) (h : Ax.f k l0 a1 a2 = some (r1, r2)) :
 Calls Tryz.prog 95 #[.slice A0 l0.length c0, .string a1, .string a2] w fun e w' => ∃ v0_ : Value, e = .returned (.tuple #[v0_, .int .i64 r2]) ∧ Kd.R k174 174 w' w.heap.size (fun _ => True) v0_ r1 ∧ Below w.heap.size w w' := by
 have hu174 := Tryz.underlying174
 have HR0 := Aa.mk hr0
 have HC0 := Aa.mk hc0
 clear hr0 hc0
 have HB := Aa.mk (Below.refl w.heap.size w)
 have H : ((Af.f k l0).bind fun t150 => (if t150 = true then ((Ag.f k a1).bind fun t151 => (if t151 = true then ((An.f k a2 0 256).bind fun t152 => (Ax.j0 k l0 a1 a2 (!t152))) else (Ax.j0 k l0 a1 a2 true))) else (Ax.j0 k l0 a1 a2 true))) = some (r1, r2) := h
 clear h
 have HC4 := Aa.mk H
 clear H
 go_enter Tryz.func95, Tryz.ntmps95
 go_upto_region 1 with (fail)
 go_cut [22] (fun v22 wc => ∃ (kq : Nat) (x22_3 : Bool), v22 = .bool x22_3 ∧ Aa (Ax.j0 kq l0 a1 a2 x22_3 = some (r1, r2)) ∧ Aa (kq ≤ k) ∧ Aa (Below w.heap.size w wc))
 case first =>
  have H := HC4.out
  clear HC4
  replace H := Option.bind_eq_some_iff.mp H
  obtain ⟨t150, A50, H⟩ := H
  replace H : (if t150 = true then ((Ag.f k a1).bind fun t151 => (if t151 = true then ((An.f k a2 0 256).bind fun t152 => (Ax.j0 k l0 a1 a2 (!t152))) else (Ax.j0 k l0 a1 a2 true))) else (Ax.j0 k l0 a1 a2 true)) = some (r1, r2) := H
  have A5 := Aa.mk A50
  clear A50
  by_cases c6 : t150 = true
  ·subst c6
   have H1 : ((Ag.f k a1).bind fun t151 => (if t151 = true then ((An.f k a2 0 256).bind fun t152 => (Ax.j0 k l0 a1 a2 (!t152))) else (Ax.j0 k l0 a1 a2 true))) = some (r1, r2) := by rw [if_pos rfl] at H; exact H
   clear H
   have H := H1
   clear H1
   replace H := Option.bind_eq_some_iff.mp H
   obtain ⟨t151, A70, H⟩ := H
   replace H : (if t151 = true then ((An.f k a2 0 256).bind fun t152 => (Ax.j0 k l0 a1 a2 (!t152))) else (Ax.j0 k l0 a1 a2 true)) = some (r1, r2) := H
   have A7 := Aa.mk A70
   clear A70
   by_cases c8 : t151 = true
   ·subst c8
    have H1 : ((An.f k a2 0 256).bind fun t152 => (Ax.j0 k l0 a1 a2 (!t152))) = some (r1, r2) := by rw [if_pos rfl] at H; exact H
    clear H
    have H := H1
    clear H1
    replace H := Option.bind_eq_some_iff.mp H
    obtain ⟨t152, A90, H⟩ := H
    replace H : (Ax.j0 k l0 a1 a2 (!t152)) = some (r1, r2) := H
    have A9 := Aa.mk A90
    clear A90
    have H' := Aa.mk H
    clear H
    go_wp2_with (first | ((with_reducible refine Ck (f := 130) rfl ?_); refine Dx (some 11) rfl rfl Tryz.func130 (by kernel_rfl) rfl #[.slice A0 l0.length c0] rfl zqC ?_; (with_reducible refine (Af.calls k _ _ l0 true _ ?side1 ?side2 A5.out).mono ?_); (case side1 => repeat (first | exact (Kd.Bb HR0.out HB.out) | (with_reducible refine Kd.Gg ?_ _) | (with_reducible refine Kd.Ht ?_ _) | (with_reducible refine Kd.C_drew ?_))); (case side2 => exact HC0.out); rintro e w' ⟨rfl, ⟨nd, rfl⟩⟩; refine ⟨_, rfl, ?_⟩) | (go_at_call 31; (with_reducible refine (Ag.calls k a1 true _ A7.out).mono ?_); rintro e w' ⟨rfl, ⟨nd, rfl⟩⟩) | (go_at_call 48; (with_reducible refine (An.calls k a2 0 256 t152 _ A9.out).mono ?_); rintro e w' ⟨rfl, ⟨nd, rfl⟩⟩))
    go_meet
    case rel => exact ⟨_, (!t152), zqD, H', ⟨by first | omega | exact Nat.le_refl _⟩, ⟨zqB⟩⟩
   ·replace c8 := Bool.eq_false_iff.mpr c8
    subst c8
    have H1 : (Ax.j0 k l0 a1 a2 true) = some (r1, r2) := by rw [if_neg (show ¬ (false = true) by decide)] at H; exact H
    clear H
    have H := H1
    clear H1
    have H' := Aa.mk H
    clear H
    go_wp2_with (first | ((with_reducible refine Ck (f := 130) rfl ?_); refine Dx (some 11) rfl rfl Tryz.func130 (by kernel_rfl) rfl #[.slice A0 l0.length c0] rfl zqC ?_; (with_reducible refine (Af.calls k _ _ l0 true _ ?side1 ?side2 A5.out).mono ?_); (case side1 => repeat (first | exact (Kd.Bb HR0.out HB.out) | (with_reducible refine Kd.Gg ?_ _) | (with_reducible refine Kd.Ht ?_ _) | (with_reducible refine Kd.C_drew ?_))); (case side2 => exact HC0.out); rintro e w' ⟨rfl, ⟨nd, rfl⟩⟩; refine ⟨_, rfl, ?_⟩) | (go_at_call 31; (with_reducible refine (Ag.calls k a1 false _ A7.out).mono ?_); rintro e w' ⟨rfl, ⟨nd, rfl⟩⟩))
    go_meet
    case rel => exact ⟨_, (true), zqD, H', ⟨by first | omega | exact Nat.le_refl _⟩, ⟨zqB⟩⟩
  ·replace c6 := Bool.eq_false_iff.mpr c6
   subst c6
   have H1 : (Ax.j0 k l0 a1 a2 true) = some (r1, r2) := by rw [if_neg (show ¬ (false = true) by decide)] at H; exact H
   clear H
   have H := H1
   clear H1
   have H' := Aa.mk H
   clear H
   go_wp2_with (first | ((with_reducible refine Ck (f := 130) rfl ?_); refine Dx (some 11) rfl rfl Tryz.func130 (by kernel_rfl) rfl #[.slice A0 l0.length c0] rfl zqC ?_; (with_reducible refine (Af.calls k _ _ l0 false _ ?side1 ?side2 A5.out).mono ?_); (case side1 => repeat (first | exact (Kd.Bb HR0.out HB.out) | (with_reducible refine Kd.Gg ?_ _) | (with_reducible refine Kd.Ht ?_ _) | (with_reducible refine Kd.C_drew ?_))); (case side2 => exact HC0.out); rintro e w' ⟨rfl, ⟨nd, rfl⟩⟩; refine ⟨_, rfl, ?_⟩))
   go_meet
   case rel => exact ⟨_, (true), zqD, H', ⟨by first | omega | exact Nat.le_refl _⟩, ⟨zqB⟩⟩
 case rest =>
  clear HC4
  try clear c1
  try clear p2
  try clear c6
  try clear c8
  try clear c9
  obtain ⟨kq, x22_3, rfl, HA, HJ3, HB⟩ := hcut
  cases kq with
  | zero => exact absurd HA.out (by simp [Ax.j0])
  | succ kj3 =>
   have H := HA.out
   clear HA
   simp only [Ax.j0] at H
   by_cases c10 : x22_3 = true
   ·subst c10
    have H1 : (some (([] : List (S174)), 400)) = some (r1, r2) := by rw [if_pos rfl] at H; exact H
    clear H
    have H := H1
    clear H1
    simp only [Option.some.injEq, Prod.mk.injEq] at H
    obtain ⟨rfl, rfl⟩ := H
    go_wp2
    go_ret2
    exact ⟨_, by first | rfl | (simp [Cp, Co] <;> rfl) | (simp [*, Cp, Co] <;> rfl), by first | exact Kd.Di _ _ _ _ _ | exact Kd.N_nil _ _ _ _ _ | exact Kd.V_nil _ _ _ _ _ | exact Kd.Q_nil _ _ _ _ _ | exact Kd.S_nil _ _ _ _ _, zqB⟩
   ·replace c10 := Bool.eq_false_iff.mpr c10
    subst c10
    have H1 : ((some (([] : List (S174)) : List (S174))).bind fun y153 => (if y153.length + l0.length < 4398046511104 then (Ax.l0 kj3 a1 a2 (y153 ++ l0) 0) else (none))) = some (r1, r2) := by rw [if_neg (show ¬ (false = true) by decide)] at H; exact H
    clear H
    have H := H1
    clear H1
    obtain ⟨y153, hy153⟩ : ∃ y_ : List (S174), y_ = (([] : List (S174))) := ⟨_, rfl⟩
    replace H : (if y153.length + l0.length < 4398046511104 then (Ax.l0 kj3 a1 a2 (y153 ++ l0) 0) else (none)) = some (r1, r2) := by first | (rw [hy153]; with_reducible exact H) | (have H2_ := (Option.bind_some _ _).symm.trans H; rw [hy153]; with_reducible exact H2_) | (have H2_ := (Option.bind_some _ _).symm.trans H; with_reducible exact H2_) | with_reducible exact H | (rw [hy153]; exact H) | exact H
    have Ny153 := Aa.mk hy153
    clear hy153
    by_cases c11 : y153.length + l0.length < 4398046511104
    ·rw [if_pos c11] at H
     have LMc11 := Aa.mk c11
     clear c11
     obtain ⟨y156, hy156⟩ : ∃ y_ : List (S174), y_ = (y153 ++ l0) := ⟨_, rfl⟩
     replace H : (Ax.l0 kj3 a1 a2 y156 0) = some (r1, r2) := by first | (rw [hy156]; with_reducible exact H) | (have H2_ := (Option.bind_some _ _).symm.trans H; rw [hy156]; with_reducible exact H2_) | (have H2_ := (Option.bind_some _ _).symm.trans H; with_reducible exact H2_) | with_reducible exact H | (rw [hy156]; exact H) | exact H
     have Ny156 := Aa.mk hy156
     clear hy156
     have H' := Aa.mk H
     clear H
     go_wp2_with (first | ((with_reducible refine gate_dst (N := 23) rfl ?_); refine Kd.R_lit k174 _ 174 ?hg (N := 23) ?hd (xs := ([] : List (S174))) (inner := []) (ok := fun _ => True) (okp := fun _ => True) ?hr ?hp (fun _ hk => hk) trivial (Below.refl _ _) (Nat.le_refl _) (by simp) ?_; (case hd => rfl); (case hg => rfl); (case hr => first | (go_simp; done) | (go_simp; rfl)); (case hp => exact (Reps.none _ _)); intro v154 w12 ho13 hb hg_ hnew_; clear hg_ hnew_; (first | rw [← Ny153.out] at ho13 | (simp only [Int.reduceToNat] at ho13; rw [← Ny153.out] at ho13)); have n0_ := Aa.mk (Kd.Dv ho13 (E6 zqB)); have n1_ := Aa.mk (Fu zqB hb); clear HB; have HO155 := n0_; have HB := n1_; clear n0_ n1_; clear hb ho13) | ((with_reducible refine Cz (b := .append) (xs := #[.tmp 23, .tmp 24]) rfl ?_); at_builtin; refine Kd.R_append_rows k174 (w0 := w) w.heap.size rfl (.tmp 23) (.tmp 24) 53 174 (.agg #[(.string ⟨#[]⟩), (.string ⟨#[]⟩)]) 32 rfl Tryz.underlying53 info174 rfl (by decide) (by omega) v154 y153 l0 _ _ _ (fun _ => True) (fun _ => False) rfl rfl ?aO ?aR (fun _ _ h => h) (fun _ h => h.elim) ?aF ?aB ?aS ?aL ?_; (case aR => repeat (first | exact (Kd.Bb HR0.out HB.out) | (with_reducible refine Kd.Gg ?_ _) | (with_reducible refine Kd.Ht ?_ _) | (with_reducible refine Kd.C_drew ?_))); (case aB => exact zqB); (case aF => exact (fun _ _ => trivial)); (case aO => exact (by (with_reducible repeat (first | apply Kd.Cg | apply Kd.Cc | apply Kd.Cs)); exact HO155.out)); (case aS => exact (E6 zqB)); (case aL => have := LMc11.out; omega); intro v157 w14 ho hb hg hat; rw [← Ny156.out] at ho; have n0_ := Aa.mk (hb); have n1_ := Aa.mk (ho); clear HB; clear HO155; have HB := n0_; have HO158 := n1_; clear n0_ n1_; clear ho hb hg hat))
     go_loopg [9] kj3 (fun kq v9 w' => ∃ (x8_2 : List (S174)) (x9_2 : Int), v9 = .int .i64 x9_2 ∧ Aa (Ax.l0 kq a1 a2 x8_2 x9_2 = some (r1, r2)) ∧ Aa (kq ≤ kj3) ∧ Aa (Kd.R k174 174 w' w.heap.size (fun _ => True) v157 x8_2) ∧ Aa (Below w.heap.size w w'))
     case atStart => exact ⟨(y156), (0), zqD, H', ⟨Nat.le_refl _⟩, ⟨by (with_reducible repeat (first | apply Kd.Cg | apply Kd.Cc | apply Kd.Cs)); exact HO158.out⟩, ⟨zqB⟩⟩
     case round =>
      clear H'
      try clear c1
      try clear p2
      try clear c6
      try clear c8
      try clear c9
      try clear c10
      try clear c11
      try clear c13
      try clear p2
      obtain ⟨x8_2, x9_2, rfl, HA, HK2, HO_8, HB⟩ := hrel
      cases gk with
      | zero => exact absurd HA.out (by simp [Ax.l0])
      | succ k2 =>
       have H := HA.out
       clear HA
       simp only [Ax.l0] at H
       by_cases c15 : x9_2 < (x8_2.length : Int)
       ·rw [if_pos c15] at H
        have c15b0 : decide (x9_2 < (x8_2.length : Int)) = true := decide_eq_true c15
        clear c15
        by_cases c16 : 0 ≤ x9_2
        ·rw [if_pos c16] at H
         have c16b0 : decide (0 ≤ x9_2) = true := decide_eq_true c16
         clear c16
         by_cases c17 : ((Bg x8_2 x9_2).f0).toList = a1.toList
         ·rw [if_pos c17] at H
          have c17b0 : (((Bg x8_2 x9_2).f0).toList == a1.toList) = true := beq_iff_eq.mpr c17
          have c17b1 : (((Bg x8_2 x9_2).f0).toList != a1.toList) = false := bne_eq_false_iff_eq.mpr c17
          clear c17
          obtain ⟨y160, hy160⟩ : ∃ y_ : List (S174), y_ = (x8_2.set (x9_2 : Int).toNat (⟨(Bg x8_2 x9_2).f0, a2⟩ : S174)) := ⟨_, rfl⟩
          replace H : (some (y160, 0)) = some (r1, r2) := by first | (rw [hy160]; with_reducible exact H) | (have H2_ := (Option.bind_some _ _).symm.trans H; rw [hy160]; with_reducible exact H2_) | (have H2_ := (Option.bind_some _ _).symm.trans H; with_reducible exact H2_) | with_reducible exact H | (rw [hy160]; exact H) | exact H
          have Ny160 := Aa.mk hy160
          clear hy160
          simp only [Option.some.injEq, Prod.mk.injEq] at H
          obtain ⟨rfl, rfl⟩ := H
          obtain ⟨Ao19, co19, eo19⟩ := Kd.Bd HO_8.out
          subst eo19
          have p159 : 0 ≤ (x9_2 : Int) := of_decide_eq_true zqA
          have q159 : x9_2 < (x8_2.length : Int) := of_decide_eq_true zqA
          obtain ⟨ad159, e159, hx159_0, hx159_1⟩ := Gb (Kd.R_reads' HO_8.out).2.2 x9_2 p159 q159
          cases e159
          replace p159 := eq_true p159
          replace q159 := eq_true q159
          have p18 : 0 ≤ (x9_2 : Int) := of_decide_eq_true zqA
          have q18 : (x9_2 : Int) < ((x8_2.length : Int) : Int) := of_decide_eq_true zqA
          obtain ⟨go18, co18, eo18, gb18, gl18, cl18, HG18⟩ := Kd.Gy HO_8.out (by omega)
          (first | cases eo18 | (injection eo18 with ea_ en_ ec_; (first | subst ea_ | (injection ea_ with ea_; subst ea_)); subst ec_; clear en_))
          have GB18 := Aa.mk gb18
          have GG18 := Aa.mk HG18
          clear gb18 gl18 HG18
          (first | simp only [add_plain] at hx159_0 | skip)
          (first | simp only [add_plain] at hx159_1 | skip)
          obtain ⟨ce18, hcl18, hM18, hcc18, hfr18⟩ := Kd.R_elem HO_8.out z174 (x9_2 : Int) p18 q18
          obtain rfl := k174_openM hM18
          have hx18_0 : wr.cell? ⟨go18, (x9_2 : Int).toNat * 2, none⟩ = some (.string ((Bg x8_2 x9_2).f0)) := hcc18 0 _ rfl
          have hx18_1 : wr.cell? ⟨go18, (x9_2 : Int).toNat * 2 + 1, none⟩ = some (.string ((Bg x8_2 x9_2).f1)) := hcc18 1 _ rfl
          have hf18_0 : wr.frozen? ⟨go18, (x9_2 : Int).toNat * 2, none⟩ = false := hfr18 0
          have hf18_1 : wr.frozen? ⟨go18, (x9_2 : Int).toNat * 2 + 1, none⟩ = false := hfr18 1
          clear hcl18 hcc18 hfr18 hM18
          replace p18 := eq_true p18
          replace q18 := eq_true q18
          have HX20 := Aa.mk (show Kd.R k174 174 wr w.heap.size (fun _ => True) (.slice (some ⟨go18, 0, none⟩) x8_2.length co19) x8_2 from (by (with_reducible repeat (first | apply Kd.Cg | apply Kd.Cc | apply Kd.Cs)); exact HO_8.out))
          obtain ⟨ce20, hcl20, hM20, hcc20, hfr20⟩ := Kd.R_elem HX20.out z174 (x9_2 : Int) (of_decide_eq_true zqA) (by have h_ : (x9_2 : Int) < ((x8_2.length : Int) : Int) := of_decide_eq_true zqA; first | exact h_ | (have e_ := (Kd.R_reads' HO_8.out).1; omega) | simpa using h_)
          obtain rfl := k174_openM hM20
          have HP20 := Kd.R_seg HX20.out (x9_2 : Int) (of_decide_eq_true zqA) (by have h_ : (x9_2 : Int) < ((x8_2.length : Int) : Int) := of_decide_eq_true zqA; first | exact h_ | (have e_ := (Kd.R_reads' HO_8.out).1; omega) | simpa using h_) (seg := [.string a2]) (j := 1) hcl20 hcc20 (show 2 ≤ 2 from by decide) (x' := (⟨(Bg x8_2 x9_2).f0, a2⟩ : S174)) (k174_mkM _ _ _ (⟨(Bg x8_2 x9_2).f0, a2⟩ : S174) ) (fun _ hk => hk)
          have hx20_1 := hcc20 1 _ rfl
          (try simp only [show (k174).sz = 2 from rfl, Nat.mul_one, Nat.add_zero] at hx20_1)
          have hf20_1 := hfr20 1
          (try simp only [show (k174).sz = 2 from rfl, Nat.mul_one, Nat.add_zero] at hf20_1)
          clear hcl20 hcc20 hfr20 hM20
          go_wp2_with (first | ((with_reducible refine gate_store (t := 9) (p := 43) rfl ?_); refine store_event (t := 9) (p := 43) (v := ?vo_w21) (w1 := (wr.setCell ⟨go18, (x9_2 : Int).toNat * 2 + 1, none⟩ (.string a2))) ?hg ?ho ?hn ?hr ?_; (case ho => rfl); (case hg => rfl); (case hn => rfl); (case hr => first | (go_simp; done) | (go_simp; rfl)); intro w21 hw; have hg : wr.grownBy w21 (some go18) := (by rw [hw]; exact HP20.2); have hp_ : Kd.R k174 174 w21 w.heap.size (fun _ => True) (.slice (some ⟨go18, 0, none⟩) x8_2.length co19) y160 := (by rw [hw, Ny160.out]; exact HP20.1); clear HP20; have n0_ := Aa.mk (hp_); have n1_ := Aa.mk ((by rw [hw]; exact C7 (HB.out) GB18.out : Below w.heap.size w w21)); clear HO_8; clear HB; have HO_8 := n0_; have HB := n1_; clear n0_ n1_; clear hg hw hp_))
          go_ret2
          exact ⟨_, by first | rfl | (simp [Cp, Co] <;> rfl) | (simp [*, Cp, Co] <;> rfl), by (with_reducible repeat (first | apply Kd.Cg | apply Kd.Cc | apply Kd.Cs)); exact HO_8.out, zqB⟩
         ·rw [if_neg c17] at H
          have c17b0 : (((Bg x8_2 x9_2).f0).toList == a1.toList) = false := beq_eq_false_iff_ne.mpr c17
          have c17b1 : (((Bg x8_2 x9_2).f0).toList != a1.toList) = true := bne_iff_ne.mpr c17
          have H' := Aa.mk H
          clear H
          obtain ⟨Ao22, co22, eo22⟩ := Kd.Bd HO_8.out
          subst eo22
          have p159 : 0 ≤ (x9_2 : Int) := of_decide_eq_true zqA
          have q159 : x9_2 < (x8_2.length : Int) := of_decide_eq_true zqA
          obtain ⟨ad159, e159, hx159_0, hx159_1⟩ := Gb (Kd.R_reads' HO_8.out).2.2 x9_2 p159 q159
          cases e159
          replace p159 := eq_true p159
          replace q159 := eq_true q159
          go_wp2
          go_roundg k2
          case measure => have := HJ3.out; have := HK2.out; omega
          case rel => exact ⟨(x8_2), (wrap64 (x9_2 + 1)), zqD, H', ⟨by have := HJ3.out; have := HK2.out; omega⟩, ⟨by (with_reducible repeat (first | apply Kd.Cg | apply Kd.Cc | apply Kd.Cs)); exact HO_8.out⟩, ⟨zqB⟩⟩
        ·rw [if_neg c16] at H
         exact absurd H (by simp)
       ·rw [if_neg c15] at H
        have c15b0 : decide (x9_2 < (x8_2.length : Int)) = false := decide_eq_false c15
        clear c15
        by_cases c23 : (x8_2.length : Int) = 16
        ·rw [if_pos c23] at H
         have c23b0 : ((x8_2.length : Int) == 16) = true := beq_iff_eq.mpr c23
         have c23b1 : ((x8_2.length : Int) != 16) = false := bne_eq_false_iff_eq.mpr c23
         clear c23
         simp only [Option.some.injEq, Prod.mk.injEq] at H
         obtain ⟨rfl, rfl⟩ := H
         obtain ⟨Ao24, co24, eo24⟩ := Kd.Bd HO_8.out
         subst eo24
         go_wp2
         go_ret2
         exact ⟨_, by first | rfl | (simp [Cp, Co] <;> rfl) | (simp [*, Cp, Co] <;> rfl), by first | exact Kd.Di _ _ _ _ _ | exact Kd.N_nil _ _ _ _ _ | exact Kd.V_nil _ _ _ _ _ | exact Kd.Q_nil _ _ _ _ _ | exact Kd.S_nil _ _ _ _ _, zqB⟩
        ·rw [if_neg c23] at H
         have c23b0 : ((x8_2.length : Int) == 16) = false := beq_eq_false_iff_ne.mpr c23
         have c23b1 : ((x8_2.length : Int) != 16) = true := bne_iff_ne.mpr c23
         by_cases c25 : x8_2.length < 4398046511104
         ·rw [if_pos c25] at H
          have LMc25 := Aa.mk c25
          clear c25
          obtain ⟨y161, hy161⟩ : ∃ y_ : List (S174), y_ = (x8_2 ++ [(⟨a1, a2⟩ : S174)]) := ⟨_, rfl⟩
          replace H : (some (y161, 0)) = some (r1, r2) := by first | (rw [hy161]; with_reducible exact H) | (have H2_ := (Option.bind_some _ _).symm.trans H; rw [hy161]; with_reducible exact H2_) | (have H2_ := (Option.bind_some _ _).symm.trans H; with_reducible exact H2_) | with_reducible exact H | (rw [hy161]; exact H) | exact H
          have Ny161 := Aa.mk hy161
          clear hy161
          simp only [Option.some.injEq, Prod.mk.injEq] at H
          obtain ⟨rfl, rfl⟩ := H
          obtain ⟨Ao26, co26, eo26⟩ := Kd.Bd HO_8.out
          subst eo26
          go_wp2_with (first | ((with_reducible refine Cz (b := .append) (xs := #[.tmp 48, .tmp 52]) rfl ?_); at_builtin; refine Kd.Ep k174 (w0 := w) w.heap.size rfl (.tmp 48) (.tmp 52) 53 174 (.agg #[(.string ⟨#[]⟩), (.string ⟨#[]⟩)]) 32 rfl Tryz.underlying53 info174 rfl (by decide) (by omega) (.slice Ao26 x8_2.length co26) x8_2 (⟨a1, a2⟩ : S174) [.string a1, .string a2] (fun _ => True) (fun _ => False) rfl rfl ?aP (fun _ hk => hk.elim) ?aF ?aO ?aB ?aS ?aL ?_; (case aP => exact k174_mkM _ _ _ (⟨a1, a2⟩ : S174)); (case aB => exact zqB); (case aF => exact (fun _ _ => trivial)); (case aO => exact (by (with_reducible repeat (first | apply Kd.Cg | apply Kd.Cc | apply Kd.Cs)); exact HO_8.out)); (case aS => exact (E6 zqB)); (case aL => have := LMc25.out; omega); intro v162 w27 ho hb hg hat; rw [← Ny161.out] at ho; have n0_ := Aa.mk (hb); have n1_ := Aa.mk (ho); clear HB; clear HO_8; have HB := n0_; have HO163 := n1_; clear n0_ n1_; clear ho hb hg hat))
          go_ret2
          exact ⟨_, by first | rfl | (simp [Cp, Co] <;> rfl) | (simp [*, Cp, Co] <;> rfl), by (with_reducible repeat (first | apply Kd.Cg | apply Kd.Cc | apply Kd.Cs)); exact HO163.out, zqB⟩
         ·rw [if_neg c25] at H
          exact absurd H (by simp)
    ·rw [if_neg c11] at H
     exact absurd H (by simp)
def Bi.l0 : Nat → List (S44) → Int → Option ((List (S44)))
 | 0, _, _ => none
 | k + 1, x0, x2 => if x2 < (x0.length : Int) then (if 0 ≤ x2 then (Bi.l0 k (x0.set (x2 : Int).toNat (⟨(Ds x0 x2).f0, Go.bits .xor .i64 ((Ds x0 x2).f1) 90⟩ : S44)) (wrap64 (x2 + 1))) else (none)) else (some x0)
def Bi.f (k : Nat) (l0 : List (S44)) : Option ((List (S44))) := Bi.l0 k l0 0
theorem Bi.mono_l : ∀ k, (∀ y0 y1, LeO (Bi.l0 k y0 y1) (Bi.l0 (k + 1) y0 y1))
 | 0 => fun _ _ r h => by simp [Bi.l0] at h
 | k + 1 => by
  have ih0 := Bi.mono_l k
  ·intro y0 y1
   unfold Bi.l0
   repeat' first
   | (with_reducible exact ih0 _ _)
   | (with_reducible exact LeO.refl _)
   | (with_reducible exact LeO.none _)
   | (with_reducible refine LeO.ite ?_ ?_)
   | (with_reducible refine LeO.bind ?_ (fun _ => ?_))
   | exact ih0 _ _
   | exact LeO.none _
   | refine LeO.ite ?_ ?_
   | refine LeO.bind ?_ (fun _ => ?_)
theorem Bi.mono : ∀ a0 k, LeO (Bi.f k a0) (Bi.f (k + 1) a0) := by
 intro a0 k
 have ih0 := Bi.mono_l k
 unfold Bi.f
 repeat' first
  | (with_reducible exact ih0 _ _)
  | (with_reducible exact LeO.refl _)
  | (with_reducible exact LeO.none _)
  | (with_reducible refine LeO.ite ?_ ?_)
  | (with_reducible refine LeO.bind ?_ (fun _ => ?_))
  | exact ih0 _ _
  | exact LeO.none _
  | refine LeO.ite ?_ ?_
  | refine LeO.bind ?_ (fun _ => ?_)
theorem Bi.calls (k : Nat) (P0_ : Nat → Prop) (u9000_ : Value) (l0 : List (S44)) (r : List (S44)) (w0 w : World) (hB : Below w0.heap.size w0 w) (ho0 : Kd.R k44 44 w w0.heap.size P0_ u9000_ l0) (h : Bi.f k l0 = some r) :
 Calls Tryz.prog 29 #[u9000_] w fun e w' => e = .returned (.tuple #[]) ∧ Kd.R k44 44 w' w0.heap.size (fun k_ => (P0_ k_ ∨ w.heap.size ≤ k_)) u9000_ r ∧ Below w0.heap.size w0 w' ∧ Kept w w' (fun k_ => P0_ k_) := by
 have HO0 := Aa.mk (show Kd.R k44 44 w w0.heap.size (fun k_ => (P0_ k_ ∨ w.heap.size ≤ k_)) u9000_ l0 from Kd.De ho0 (fun k_ hk => (.inl hk)))
 have HK := Aa.mk (Kept.refl w (fun k_ => P0_ k_))
 have HW0 := Aa.mk hB.size
 have HB := Aa.mk hB
 clear hB
 have H : (Bi.l0 k l0 0) = some r := h
 clear h
 have H' := Aa.mk H
 clear H
 go_enter Tryz.func29, Tryz.ntmps29
 go_wp2
 go_loopg [2] k (fun kq v2 w' => ∃ (x0_1 : List (S44)) (x2_1 : Int), v2 = .int .i64 x2_1 ∧ Aa (Bi.l0 kq x0_1 x2_1 = some r) ∧ Aa (kq ≤ k) ∧ Aa (Kd.R k44 44 w' w0.heap.size (fun k_ => (P0_ k_ ∨ w.heap.size ≤ k_)) u9000_ x0_1) ∧ Aa (Kept w w' (fun k_ => P0_ k_)) ∧ Aa (Below w0.heap.size w0 w'))
 case atStart => exact ⟨(l0), (0), zqD, H', ⟨Nat.le_refl _⟩, ⟨by (with_reducible repeat (first | apply Kd.Cg | apply Kd.Cc | apply Kd.Cs)); exact HO0.out⟩, ⟨by repeat (first | (with_reducible first | exact HK.out | apply Kept.alloc | apply Kept.drewN | apply Kept.drew) | exact HK.out)⟩, ⟨zqB⟩⟩
 case round =>
  clear H'
  obtain ⟨x0_1, x2_1, rfl, HA, HK1, HO_0, HK, HB⟩ := hrel
  cases gk with
  | zero => exact absurd HA.out (by simp [Bi.l0])
  | succ k1 =>
   have H := HA.out
   clear HA
   simp only [Bi.l0] at H
   by_cases c2 : x2_1 < (x0_1.length : Int)
   ·rw [if_pos c2] at H
    have c2b0 : decide (x2_1 < (x0_1.length : Int)) = true := decide_eq_true c2
    clear c2
    by_cases c3 : 0 ≤ x2_1
    ·rw [if_pos c3] at H
     have c3b0 : decide (0 ≤ x2_1) = true := decide_eq_true c3
     clear c3
     obtain ⟨y350, hy350⟩ : ∃ y_ : List (S44), y_ = (x0_1.set (x2_1 : Int).toNat (⟨(Ds x0_1 x2_1).f0, Go.bits .xor .i64 ((Ds x0_1 x2_1).f1) 90⟩ : S44)) := ⟨_, rfl⟩
     replace H : (Bi.l0 k1 y350 (wrap64 (x2_1 + 1))) = some r := by first | (rw [hy350]; with_reducible exact H) | (have H2_ := (Option.bind_some _ _).symm.trans H; rw [hy350]; with_reducible exact H2_) | (have H2_ := (Option.bind_some _ _).symm.trans H; with_reducible exact H2_) | with_reducible exact H | (rw [hy350]; exact H) | exact H
     have Ny350 := Aa.mk hy350
     clear hy350
     have H' := Aa.mk H
     clear H
     obtain ⟨Ao5, co5, eo5⟩ := Kd.Bd HO_0.out
     subst eo5
     have p349 : 0 ≤ (x2_1 : Int) := of_decide_eq_true zqA
     have q349 : x2_1 < (x0_1.length : Int) := of_decide_eq_true zqA
     obtain ⟨ad349, e349, hx349_0, hx349_1⟩ := at_T44 (Kd.R_reads' HO_0.out).2.2 x2_1 p349 q349
     cases e349
     replace p349 := eq_true p349
     replace q349 := eq_true q349
     have p4 : 0 ≤ (x2_1 : Int) := of_decide_eq_true zqA
     have q4 : (x2_1 : Int) < ((x0_1.length : Int) : Int) := of_decide_eq_true zqA
     obtain ⟨go4, co4, eo4, gb4, gl4, cl4, HG4⟩ := Kd.Gy HO_0.out (by omega)
     (first | cases eo4 | (injection eo4 with ea_ en_ ec_; (first | subst ea_ | (injection ea_ with ea_; subst ea_)); subst ec_; clear en_))
     have GB4 := Aa.mk gb4
     have GG4 := Aa.mk HG4
     clear gb4 gl4 HG4
     have HMgo4 := Aa.mk (show (P0_ go4 ∨ w.heap.size ≤ go4) from (HO_0.out.1 _ rfl))
     (first | simp only [add_plain] at hx349_0 | skip)
     (first | simp only [add_plain] at hx349_1 | skip)
     obtain ⟨ce4, hcl4, hM4, hcc4, hfr4⟩ := Kd.R_elem HO_0.out z44 (x2_1 : Int) p4 q4
     obtain rfl := k44_openM hM4
     have hx4_0 : wr.cell? ⟨go4, (x2_1 : Int).toNat * 2, none⟩ = some (.string ((Ds x0_1 x2_1).f0)) := hcc4 0 _ rfl
     have hx4_1 : wr.cell? ⟨go4, (x2_1 : Int).toNat * 2 + 1, none⟩ = some (.int .i64 ((Ds x0_1 x2_1).f1)) := hcc4 1 _ rfl
     have hf4_0 : wr.frozen? ⟨go4, (x2_1 : Int).toNat * 2, none⟩ = false := hfr4 0
     have hf4_1 : wr.frozen? ⟨go4, (x2_1 : Int).toNat * 2 + 1, none⟩ = false := hfr4 1
     clear hcl4 hcc4 hfr4 hM4
     replace p4 := eq_true p4
     replace q4 := eq_true q4
     have HX6 := Aa.mk (show Kd.R k44 44 wr w0.heap.size (fun k_ => (P0_ k_ ∨ w.heap.size ≤ k_)) (.slice (some ⟨go4, 0, none⟩) x0_1.length co5) x0_1 from (by (with_reducible repeat (first | apply Kd.Cg | apply Kd.Cc | apply Kd.Cs)); exact HO_0.out))
     obtain ⟨ce6, hcl6, hM6, hcc6, hfr6⟩ := Kd.R_elem HX6.out z44 (x2_1 : Int) (of_decide_eq_true zqA) (by have h_ : (x2_1 : Int) < ((x0_1.length : Int) : Int) := of_decide_eq_true zqA; first | exact h_ | (have e_ := (Kd.R_reads' HO_0.out).1; omega) | simpa using h_)
     obtain rfl := k44_openM hM6
     have HP6 := Kd.R_seg HX6.out (x2_1 : Int) (of_decide_eq_true zqA) (by have h_ : (x2_1 : Int) < ((x0_1.length : Int) : Int) := of_decide_eq_true zqA; first | exact h_ | (have e_ := (Kd.R_reads' HO_0.out).1; omega) | simpa using h_) (seg := [.int .i64 (Go.bits .xor .i64 ((Ds x0_1 x2_1).f1) 90)]) (j := 1) hcl6 hcc6 (show 2 ≤ 2 from by decide) (x' := (⟨(Ds x0_1 x2_1).f0, Go.bits .xor .i64 ((Ds x0_1 x2_1).f1) 90⟩ : S44)) (k44_mkM _ _ _ (⟨(Ds x0_1 x2_1).f0, Go.bits .xor .i64 ((Ds x0_1 x2_1).f1) 90⟩ : S44) ) (fun _ hk => hk)
     have hx6_1 := hcc6 1 _ rfl
     (try simp only [show (k44).sz = 2 from rfl, Nat.mul_one, Nat.add_zero] at hx6_1)
     have hf6_1 := hfr6 1
     (try simp only [show (k44).sz = 2 from rfl, Nat.mul_one, Nat.add_zero] at hf6_1)
     clear hcl6 hcc6 hfr6 hM6
     go_wp2_with (first | ((with_reducible refine gate_store (t := 3) (p := 18) rfl ?_); refine store_event (t := 3) (p := 18) (v := ?vo_w7) (w1 := (wr.setCell ⟨go4, (x2_1 : Int).toNat * 2 + 1, none⟩ (.int .i64 (Go.bits .xor .i64 ((Ds x0_1 x2_1).f1) 90)))) ?hg ?ho ?hn ?hr ?_; (case ho => rfl); (case hg => rfl); (case hn => rfl); (case hr => first | (go_simp; done) | (go_simp; rfl)); intro w7 hw; have hg : wr.grownBy w7 (some go4) := (by rw [hw]; exact HP6.2); have hp_ : Kd.R k44 44 w7 w0.heap.size (fun k_ => (P0_ k_ ∨ w.heap.size ≤ k_)) (.slice (some ⟨go4, 0, none⟩) x0_1.length co5) y350 := (by rw [hw, Ny350.out]; exact HP6.1); clear HP6; have n0_ := Aa.mk (hp_); have n1_ := Aa.mk ((by rw [hw]; exact C7 (HB.out) GB4.out : Below w0.heap.size w0 w7)); have n2_ := Aa.mk (Kept.of_grown (S := (fun k_ => P0_ k_)) hg (by repeat (first | (with_reducible first | exact HK.out | apply Kept.alloc | apply Kept.drewN | apply Kept.drew) | exact HK.out)) (fun k_ e_ => (HO_0.out.1 k_ e_))); clear HO_0; clear HB; clear HK; have HO_0 := n0_; have HB := n1_; have HK := n2_; clear n0_ n1_ n2_; clear hg hw hp_))
     go_roundg k1
     case measure => have := HK1.out; omega
     case rel => exact ⟨(y350), (wrap64 (x2_1 + 1)), zqD, H', ⟨by have := HK1.out; omega⟩, ⟨by (with_reducible repeat (first | apply Kd.Cg | apply Kd.Cc | apply Kd.Cs)); exact HO_0.out⟩, ⟨by repeat (first | (with_reducible first | exact HK.out | apply Kept.alloc | apply Kept.drewN | apply Kept.drew) | exact HK.out)⟩, ⟨zqB⟩⟩
    ·rw [if_neg c3] at H
     exact absurd H (by simp)
   ·rw [if_neg c2] at H
    have c2b0 : decide (x2_1 < (x0_1.length : Int)) = false := decide_eq_false c2
    clear c2
    obtain rfl := Option.some.inj H
    obtain ⟨Ao8, co8, eo8⟩ := Kd.Bd HO_0.out
    subst eo8
    go_wp2
    first | go_end0 | ((try simp only [Exit.inBlock, Exit.then]); refine bodyPost_ret (results_none rfl _ _ _) rfl ?_)
    exact ⟨by first | rfl | (simp [Cp, Co] <;> rfl) | (simp [*, Cp, Co] <;> rfl), by (with_reducible repeat (first | apply Kd.Cg | apply Kd.Cc | apply Kd.Cs)); exact HO_0.out, zqB, by repeat (first | (with_reducible first | exact HK.out | apply Kept.alloc | apply Kept.drewN | apply Kept.drew) | exact HK.out)⟩
def Bq.l0 : Nat → List ByteArray → List ByteArray → Int → Option (Bool)
 | 0, _, _, _ => none
 | k + 1, x0, x1, x5 => if x5 < (x0.length : Int) then (if 0 ≤ x5 then (if x5 < (x1.length : Int) then (if (rdOf ByteArray.empty x0 x5).toList = (rdOf ByteArray.empty x1 x5).toList then (Bq.l0 k x0 x1 (wrap64 (x5 + 1))) else (some false)) else (none)) else (none)) else (some true)
def Bq.f (k : Nat) (l0 : List ByteArray) (l1 : List ByteArray) : Option (Bool) := if (l0.length : Int) = (l1.length : Int) then (Bq.l0 k l0 l1 0) else (some false)
theorem Bq.mono_l : ∀ k, (∀ y0 y1 y2, LeO (Bq.l0 k y0 y1 y2) (Bq.l0 (k + 1) y0 y1 y2))
 | 0 => fun _ _ _ r h => by simp [Bq.l0] at h
 | k + 1 => by
  have ih0 := Bq.mono_l k
  ·intro y0 y1 y2
   unfold Bq.l0
   repeat' first
   | (with_reducible exact ih0 _ _ _)
   | (with_reducible exact LeO.refl _)
   | (with_reducible exact LeO.none _)
   | (with_reducible refine LeO.ite ?_ ?_)
   | (with_reducible refine LeO.bind ?_ (fun _ => ?_))
   | exact ih0 _ _ _
   | exact LeO.none _
   | refine LeO.ite ?_ ?_
   | refine LeO.bind ?_ (fun _ => ?_)
theorem Bq.mono : ∀ a0 a1 k, LeO (Bq.f k a0 a1) (Bq.f (k + 1) a0 a1) := by
 intro a0 a1 k
 have ih0 := Bq.mono_l k
 unfold Bq.f
 repeat' first
  | (with_reducible exact ih0 _ _ _)
  | (with_reducible exact LeO.refl _)
  | (with_reducible exact LeO.none _)
  | (with_reducible refine LeO.ite ?_ ?_)
  | (with_reducible refine LeO.bind ?_ (fun _ => ?_))
  | exact ih0 _ _ _
  | exact LeO.none _
  | refine LeO.ite ?_ ?_
  | refine LeO.bind ?_ (fun _ => ?_)
theorem Bq.calls (k : Nat) (A0 : Option Addr) (c0 : Nat) (l0 : List ByteArray) (A1 : Option Addr) (c1 : Nat) (l1 : List ByteArray) (r : Bool) (w : World) (hr0 : Kd.C Kd.string w A0 l0.length l0) (hc0 : l0.length ≤ c0) (hr1 : Kd.C Kd.string w A1 l1.length l1) (hc1 : l1.length ≤ c1) (h : Bq.f k l0 l1 = some r) :
 Calls Tryz.prog 27 #[.slice A0 l0.length c0, .slice A1 l1.length c1] w fun e w' => e = .returned (.bool r) ∧ Ch w w' := by
 have HR0 := Aa.mk hr0
 have HC0 := Aa.mk hc0
 clear hr0 hc0
 have HR1 := Aa.mk hr1
 have HC1 := Aa.mk hc1
 clear hr1 hc1
 have H : (if (l0.length : Int) = (l1.length : Int) then (Bq.l0 k l0 l1 0) else (some false)) = some r := h
 clear h
 by_cases c3 : (l0.length : Int) = (l1.length : Int)
 ·rw [if_pos c3] at H
  have c3b0 : ((l0.length : Int) == (l1.length : Int)) = true := beq_iff_eq.mpr c3
  have c3b1 : ((l0.length : Int) != (l1.length : Int)) = false := bne_eq_false_iff_eq.mpr c3
  have c3b2 : (l0.length == l1.length) = true := by first | simpa using c3 | (simp at c3 ⊢; omega)
  clear c3
  have H' := Aa.mk H
  clear H
  go_enter Tryz.func27, Tryz.ntmps27
  go_wp2
  repeat (go_quiet (fail); try go_wp2)
  go_loopg [5] k (fun kq v5 w' => ∃ (x5_1 : Int), v5 = .int .i64 x5_1 ∧ Aa (Bq.l0 kq l0 l1 x5_1 = some r) ∧ Aa (kq ≤ k) ∧ Ch w w')
  case atStart => exact ⟨(0), zqD, H', ⟨Nat.le_refl _⟩, zqF⟩
  case round =>
   clear H'
   try clear c1
   try clear c2
   try clear p2
   try clear c3
   try clear c3b0
   try clear c3b1
   try clear c3b2
   obtain ⟨x5_1, rfl, HA, HK1, ⟨m1, rfl⟩⟩ := hrel
   cases gk with
   | zero => exact absurd HA.out (by simp [Bq.l0])
   | succ k1 =>
    have H := HA.out
    clear HA
    simp only [Bq.l0] at H
    by_cases c4 : x5_1 < (l0.length : Int)
    ·rw [if_pos c4] at H
     have c4b0 : decide (x5_1 < (l0.length : Int)) = true := decide_eq_true c4
     clear c4
     by_cases c5 : 0 ≤ x5_1
     ·rw [if_pos c5] at H
      have c5b0 : decide (0 ≤ x5_1) = true := decide_eq_true c5
      clear c5
      by_cases c6 : x5_1 < (l1.length : Int)
      ·rw [if_pos c6] at H
       have c6b0 : decide (x5_1 < (l1.length : Int)) = true := decide_eq_true c6
       clear c6
       by_cases c7 : (rdOf ByteArray.empty l0 x5_1).toList = (rdOf ByteArray.empty l1 x5_1).toList
       ·rw [if_pos c7] at H
        have c7b0 : ((rdOf ByteArray.empty l0 x5_1).toList == (rdOf ByteArray.empty l1 x5_1).toList) = true := beq_iff_eq.mpr c7
        have c7b1 : ((rdOf ByteArray.empty l0 x5_1).toList != (rdOf ByteArray.empty l1 x5_1).toList) = false := bne_eq_false_iff_eq.mpr c7
        clear c7
        have H' := Aa.mk H
        clear H
        have p325 : 0 ≤ (x5_1 : Int) := of_decide_eq_true zqA
        have q325 : x5_1 < (l0.length : Int) := of_decide_eq_true zqA
        obtain ⟨ad325, e325, hx325_0⟩ := Kd.Ct HR0.out x5_1 p325 q325
        cases e325
        replace p325 := eq_true p325
        replace q325 := eq_true q325
        have p326 : 0 ≤ (x5_1 : Int) := of_decide_eq_true zqA
        have q326 : x5_1 < (l1.length : Int) := of_decide_eq_true zqA
        obtain ⟨ad326, e326, hx326_0⟩ := Kd.Ct HR1.out x5_1 p326 q326
        cases e326
        replace p326 := eq_true p326
        replace q326 := eq_true q326
        go_wp2
        repeat (go_quiet (fail); try go_wp2)
        go_roundg k1
        case measure => have := HK1.out; omega
        case rel => exact ⟨(wrap64 (x5_1 + 1)), zqD, H', ⟨by have := HK1.out; omega⟩, zqF⟩
       ·rw [if_neg c7] at H
        have c7b0 : ((rdOf ByteArray.empty l0 x5_1).toList == (rdOf ByteArray.empty l1 x5_1).toList) = false := beq_eq_false_iff_ne.mpr c7
        have c7b1 : ((rdOf ByteArray.empty l0 x5_1).toList != (rdOf ByteArray.empty l1 x5_1).toList) = true := bne_iff_ne.mpr c7
        obtain rfl := Option.some.inj H
        have p325 : 0 ≤ (x5_1 : Int) := of_decide_eq_true zqA
        have q325 : x5_1 < (l0.length : Int) := of_decide_eq_true zqA
        obtain ⟨ad325, e325, hx325_0⟩ := Kd.Ct HR0.out x5_1 p325 q325
        cases e325
        replace p325 := eq_true p325
        replace q325 := eq_true q325
        have p326 : 0 ≤ (x5_1 : Int) := of_decide_eq_true zqA
        have q326 : x5_1 < (l1.length : Int) := of_decide_eq_true zqA
        obtain ⟨ad326, e326, hx326_0⟩ := Kd.Ct HR1.out x5_1 p326 q326
        cases e326
        replace p326 := eq_true p326
        replace q326 := eq_true q326
        go_wp2
        repeat (go_quiet (fail); try go_wp2)
        go_ret
        exact ⟨zqD, zqF⟩
      ·rw [if_neg c6] at H
       exact absurd H (by simp)
     ·rw [if_neg c5] at H
      exact absurd H (by simp)
    ·rw [if_neg c4] at H
     have c4b0 : decide (x5_1 < (l0.length : Int)) = false := decide_eq_false c4
     clear c4
     obtain rfl := Option.some.inj H
     go_wp2
     repeat (go_quiet (fail); try go_wp2)
     go_ret
     exact ⟨zqD, zqF⟩
 ·rw [if_neg c3] at H
  have c3b0 : ((l0.length : Int) == (l1.length : Int)) = false := beq_eq_false_iff_ne.mpr c3
  have c3b1 : ((l0.length : Int) != (l1.length : Int)) = true := bne_iff_ne.mpr c3
  have c3b2 : (l0.length == l1.length) = false := by first | simpa using c3 | (simp at c3 ⊢; omega)
  obtain rfl := Option.some.inj H
  go_enter Tryz.func27, Tryz.ntmps27
  go_wp2
  repeat (go_quiet (fail); try go_wp2)
  go_ret
  exact ⟨zqD, zqF⟩
theorem eqA44 (d : Nat) (w : World) (x0 y0 : ByteArray) (x1 y1 : Int) :
 (Op.equalIn (d + 2) 44 (.agg #[.string x0, .int .i64 x1]) (.agg #[.string y0, .int .i64 y1])).run Tryz.prog w = .ok (x0.toList == y0.toList && (x1 == y1)) w := by
 refine eqA_of Tryz.underlying44 (by kernel_rfl) ?_
 refine eqf_cons (by rfl) (by go_simp; rfl) (by go_simp; rfl) (by go_simp) ?_
 exact eqf_last (by rfl) (by go_simp; rfl) (by go_simp; rfl) (by go_simp)
end Go.Proofs.YtefheailchihaaaGreatDoor.Print
end
section
namespace Go.Proofs.YtefheailchihaaaGreatDoor.Print
open Go.RowKit Go.Proofs.YtefheailchihaaaGreatDoorW.PrintWords Go.Proofs.YtefheailchihaaaGreatDoorW.PrintLast Go.Proofs.YtefheailchihaaaGreatDoorW.PrintMore
attribute [local go_sem] max2_int min2_int max_two min_two max_three min_three max_four min_four
attribute [local go_sem high] eqA44
def Bs.l0 : Nat → List (S44) → List (S44) → Int → Option (Bool)
 | 0, _, _, _ => none
 | k + 1, x0, x1, x5 => if x5 < (x0.length : Int) then (if 0 ≤ x5 then (if x5 < (x1.length : Int) then (if (!((((Ds x0 x5).f0).toList) == (((Ds x1 x5).f0).toList)) || (!(((Ds x0 x5).f1) == ((Ds x1 x5).f1)))) = true then (some false) else (Bs.l0 k x0 x1 (wrap64 (x5 + 1)))) else (none)) else (none)) else (some true)
def Bs.f (k : Nat) (l0 : List (S44)) (l1 : List (S44)) : Option (Bool) := if (l0.length : Int) = (l1.length : Int) then (Bs.l0 k l0 l1 0) else (some false)
theorem Bs.mono_l : ∀ k, (∀ y0 y1 y2, LeO (Bs.l0 k y0 y1 y2) (Bs.l0 (k + 1) y0 y1 y2))
 | 0 => fun _ _ _ r h => by simp [Bs.l0] at h
 | k + 1 => by
  have ih0 := Bs.mono_l k
  ·intro y0 y1 y2
   unfold Bs.l0
   repeat' first
   | (with_reducible exact ih0 _ _ _)
   | (with_reducible exact LeO.refl _)
   | (with_reducible exact LeO.none _)
   | (with_reducible refine LeO.ite ?_ ?_)
   | (with_reducible refine LeO.bind ?_ (fun _ => ?_))
   | exact ih0 _ _ _
   | exact LeO.none _
   | refine LeO.ite ?_ ?_
   | refine LeO.bind ?_ (fun _ => ?_)
theorem Bs.mono : ∀ a0 a1 k, LeO (Bs.f k a0 a1) (Bs.f (k + 1) a0 a1) := by
 intro a0 a1 k
 have ih0 := Bs.mono_l k
 unfold Bs.f
 repeat' first
  | (with_reducible exact ih0 _ _ _)
  | (with_reducible exact LeO.refl _)
  | (with_reducible exact LeO.none _)
  | (with_reducible refine LeO.ite ?_ ?_)
  | (with_reducible refine LeO.bind ?_ (fun _ => ?_))
  | exact ih0 _ _ _
  | exact LeO.none _
  | refine LeO.ite ?_ ?_
  | refine LeO.bind ?_ (fun _ => ?_)
theorem Bs.calls (k : Nat) (A0 : Option Addr) (c0 : Nat) (l0 : List (S44)) (A1 : Option Addr) (c1 : Nat) (l1 : List (S44)) (r : Bool) (w : World) (hr0 : Kd.C k44 w A0 l0.length l0) (hc0 : l0.length ≤ c0) (hr1 : Kd.C k44 w A1 l1.length l1) (hc1 : l1.length ≤ c1) (h : Bs.f k l0 l1 = some r) :
 Calls Tryz.prog 26 #[.slice A0 l0.length c0, .slice A1 l1.length c1] w fun e w' => e = .returned (.bool r) ∧ Ch w w' := by
 have hu44 := Tryz.underlying44
 have HR0 := Aa.mk hr0
 have HC0 := Aa.mk hc0
 clear hr0 hc0
 have HR1 := Aa.mk hr1
 have HC1 := Aa.mk hc1
 clear hr1 hc1
 have H : (if (l0.length : Int) = (l1.length : Int) then (Bs.l0 k l0 l1 0) else (some false)) = some r := h
 clear h
 by_cases c3 : (l0.length : Int) = (l1.length : Int)
 ·rw [if_pos c3] at H
  have c3b0 : ((l0.length : Int) == (l1.length : Int)) = true := beq_iff_eq.mpr c3
  have c3b1 : ((l0.length : Int) != (l1.length : Int)) = false := bne_eq_false_iff_eq.mpr c3
  have c3b2 : (l0.length == l1.length) = true := by first | simpa using c3 | (simp at c3 ⊢; omega)
  clear c3
  have H' := Aa.mk H
  clear H
  go_enter Tryz.func26, Tryz.ntmps26
  go_wp2
  repeat (go_quiet (fail); try go_wp2)
  go_loopg [5] k (fun kq v5 w' => ∃ (x5_1 : Int), v5 = .int .i64 x5_1 ∧ Aa (Bs.l0 kq l0 l1 x5_1 = some r) ∧ Aa (kq ≤ k) ∧ Ch w w')
  case atStart => exact ⟨(0), zqD, H', ⟨Nat.le_refl _⟩, zqF⟩
  case round =>
   clear H'
   try clear c1
   try clear c2
   try clear p2
   try clear c3
   try clear c3b0
   try clear c3b1
   try clear c3b2
   obtain ⟨x5_1, rfl, HA, HK1, ⟨m1, rfl⟩⟩ := hrel
   cases gk with
   | zero => exact absurd HA.out (by simp [Bs.l0])
   | succ k1 =>
    have H := HA.out
    clear HA
    simp only [Bs.l0] at H
    by_cases c4 : x5_1 < (l0.length : Int)
    ·rw [if_pos c4] at H
     have c4b0 : decide (x5_1 < (l0.length : Int)) = true := decide_eq_true c4
     clear c4
     by_cases c5 : 0 ≤ x5_1
     ·rw [if_pos c5] at H
      have c5b0 : decide (0 ≤ x5_1) = true := decide_eq_true c5
      clear c5
      by_cases c6 : x5_1 < (l1.length : Int)
      ·rw [if_pos c6] at H
       have c6b0 : decide (x5_1 < (l1.length : Int)) = true := decide_eq_true c6
       clear c6
       by_cases c7 : (!((((Ds l0 x5_1).f0).toList) == (((Ds l1 x5_1).f0).toList)) || (!(((Ds l0 x5_1).f1) == ((Ds l1 x5_1).f1)))) = true
       ·rw [if_pos c7] at H
        have c7b0 : (!((((Ds l0 x5_1).f0).toList) == (((Ds l1 x5_1).f0).toList)) || (!(((Ds l0 x5_1).f1) == ((Ds l1 x5_1).f1)))) = true := c7
        clear c7
        obtain rfl := Option.some.inj H
        have p333 : 0 ≤ (x5_1 : Int) := of_decide_eq_true zqA
        have q333 : x5_1 < (l0.length : Int) := of_decide_eq_true zqA
        obtain ⟨ad333, e333, hx333_0, hx333_1⟩ := at_T44 HR0.out x5_1 p333 q333
        cases e333
        replace p333 := eq_true p333
        replace q333 := eq_true q333
        have p334 : 0 ≤ (x5_1 : Int) := of_decide_eq_true zqA
        have q334 : x5_1 < (l1.length : Int) := of_decide_eq_true zqA
        obtain ⟨ad334, e334, hx334_0, hx334_1⟩ := at_T44 HR1.out x5_1 p334 q334
        cases e334
        replace p334 := eq_true p334
        replace q334 := eq_true q334
        go_wp2
        repeat (go_quiet (fail); try go_wp2)
        go_ret
        exact ⟨zqD, zqF⟩
       ·rw [if_neg c7] at H
        have c7b0 : (!((((Ds l0 x5_1).f0).toList) == (((Ds l1 x5_1).f0).toList)) || (!(((Ds l0 x5_1).f1) == ((Ds l1 x5_1).f1)))) = false := by simpa using c7
        clear c7
        have H' := Aa.mk H
        clear H
        have p333 : 0 ≤ (x5_1 : Int) := of_decide_eq_true zqA
        have q333 : x5_1 < (l0.length : Int) := of_decide_eq_true zqA
        obtain ⟨ad333, e333, hx333_0, hx333_1⟩ := at_T44 HR0.out x5_1 p333 q333
        cases e333
        replace p333 := eq_true p333
        replace q333 := eq_true q333
        have p334 : 0 ≤ (x5_1 : Int) := of_decide_eq_true zqA
        have q334 : x5_1 < (l1.length : Int) := of_decide_eq_true zqA
        obtain ⟨ad334, e334, hx334_0, hx334_1⟩ := at_T44 HR1.out x5_1 p334 q334
        cases e334
        replace p334 := eq_true p334
        replace q334 := eq_true q334
        go_wp2
        repeat (go_quiet (fail); try go_wp2)
        go_roundg k1
        case measure => have := HK1.out; omega
        case rel => exact ⟨(wrap64 (x5_1 + 1)), zqD, H', ⟨by have := HK1.out; omega⟩, zqF⟩
      ·rw [if_neg c6] at H
       exact absurd H (by simp)
     ·rw [if_neg c5] at H
      exact absurd H (by simp)
    ·rw [if_neg c4] at H
     have c4b0 : decide (x5_1 < (l0.length : Int)) = false := decide_eq_false c4
     clear c4
     obtain rfl := Option.some.inj H
     go_wp2
     repeat (go_quiet (fail); try go_wp2)
     go_ret
     exact ⟨zqD, zqF⟩
 ·rw [if_neg c3] at H
  have c3b0 : ((l0.length : Int) == (l1.length : Int)) = false := beq_eq_false_iff_ne.mpr c3
  have c3b1 : ((l0.length : Int) != (l1.length : Int)) = true := bne_iff_ne.mpr c3
  have c3b2 : (l0.length == l1.length) = false := by first | simpa using c3 | (simp at c3 ⊢; omega)
  obtain rfl := Option.some.inj H
  go_enter Tryz.func26, Tryz.ntmps26
  go_wp2
  repeat (go_quiet (fail); try go_wp2)
  go_ret
  exact ⟨zqD, zqF⟩
end Go.Proofs.YtefheailchihaaaGreatDoor.Print
end
section
namespace Go.Proofs.YtefheailchihaaaGreatDoor.Print
open Go.RowKit Go.Proofs.YtefheailchihaaaGreatDoorW.PrintWords Go.Proofs.YtefheailchihaaaGreatDoorW.PrintLast Go.Proofs.YtefheailchihaaaGreatDoorW.PrintMore
attribute [local go_sem] max2_int min2_int max_two min_two max_three min_three max_four min_four
def textB : ByteArray := ⟨#[102, 108, 97, 103, 115, 32, 61, 32, 45, 111, 50, 10, 112, 111, 111, 108, 32, 116, 119, 111, 10, 32, 32, 100, 101, 112, 116, 104, 32, 61, 32, 50, 10, 114, 117, 108, 101, 32, 99, 99, 10, 32, 32, 99, 111, 109, 109, 97, 110, 100, 32, 61, 32, 99, 99, 32, 36, 102, 108, 97, 103, 115, 32, 36, 105, 110, 32, 45, 111, 32, 36, 111, 117, 116, 32, 36, 109, 111, 114, 101, 10, 32, 32, 100, 101, 112, 115, 32, 61, 32, 49, 10, 32, 32, 112, 111, 111, 108, 32, 61, 32, 116, 119, 111, 10, 98, 117, 105, 108, 100, 32, 46, 47, 97, 46, 111, 32, 58, 32, 99, 99, 32, 97, 46, 99, 32, 124, 32, 97, 46, 104, 10, 32, 32, 109, 111, 114, 101, 32, 61, 32, 45, 103, 10, 98, 117, 105, 108, 100, 32, 98, 46, 111, 32, 58, 32, 99, 99, 32, 98, 46, 99, 32, 124, 124, 32, 97, 46, 111, 10, 102, 108, 97, 103, 115, 32, 61, 32, 108, 97, 116, 101, 10, 100, 101, 102, 97, 117, 108, 116, 32, 98, 46, 111, 10]⟩
def Il.f  : Option (ByteArray) := some textB
theorem Il.calls  (r : ByteArray) (w : World) (h : Il.f  = some r) :
 Calls Tryz.prog 16 #[] w fun e w' => e = .returned (.string r) ∧ Ch w w' := by
 have H : (some textB) = some r := h
 clear h
 obtain rfl := Option.some.inj H
 go_enter Tryz.func16, Tryz.ntmps16
 go_wp2
 go_ret
 exact ⟨zqD, zqF⟩
end Go.Proofs.YtefheailchihaaaGreatDoor.Print
end
