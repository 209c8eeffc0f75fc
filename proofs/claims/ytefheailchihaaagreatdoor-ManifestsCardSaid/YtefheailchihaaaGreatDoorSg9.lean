import Derived.BigRegion
import Derived.Test.YtefheailchihaaaGreatDoorSg8
set_option maxHeartbeats 8000000
set_option maxRecDepth 100000
set_option linter.unusedVariables false
set_option linter.unusedSimpArgs false
section
namespace Go.Proofs.YtefheailchihaaaGreatDoor.Print
open Go.RowKit Go.Lib Go.Shelf Go.Proofs.YtefheailchihaaaGreatDoorW.PrintWords Go.Proofs.YtefheailchihaaaGreatDoorW.PrintLast Go.Proofs.YtefheailchihaaaGreatDoorW.PrintMore
theorem one_string (W : World) (ch : UInt8) : (convert 39 9 (.slice (some ⟨W.heap.size, 0, none⟩) 1 1)).run Tryz.prog (W.alloc (.cells #[.int .u8 (ch.toNat : Int)] 5)) = .ok (.string ⟨#[ch]⟩) (W.alloc (.cells #[.int .u8 (ch.toNat : Int)] 5)) := by
 have := run_convert_bytes_back (P := Tryz.prog) (W.alloc (.cells #[.int .u8 (ch.toNat : Int)] 5)) 39 9 5 ⟨W.heap.size, 0, none⟩ 1 [ch] (by kernel_rfl) (by kernel_rfl) (by kernel_rfl) (fun j hj => by
  obtain rfl : j = 0 := by simp at hj; omega
  have hb := Cv W (.cells #[.int .u8 (ch.toNat : Int)] 5)
  exact Ab hb 0)
 exact this
theorem one_string_drew (W : World) (ch : UInt8) : (convert 39 9 (.slice (some ⟨W.heap.size, 0, none⟩) 1 1)).run Tryz.prog (W.alloc (.cells #[.int .u8 (ch.toNat : Int)] 5)).drew = .ok (.string ⟨#[ch]⟩) (W.alloc (.cells #[.int .u8 (ch.toNat : Int)] 5)).drew := by
 have := run_convert_bytes_back (P := Tryz.prog) (W.alloc (.cells #[.int .u8 (ch.toNat : Int)] 5)).drew 39 9 5 ⟨W.heap.size, 0, none⟩ 1 [ch] (by kernel_rfl) (by kernel_rfl) (by kernel_rfl) (fun j hj => by
  obtain rfl : j = 0 := by simp at hj; omega
  have hb := blk_drew (Cv W (.cells #[.int .u8 (ch.toNat : Int)] 5))
  exact Ab hb 0)
 exact this
theorem rtext_calls (B : Nat) (v : Value) (out : List S162) (ch : UInt8) (w : World) (hR : Kd.R k162 162 w B (fun _ => True) v out) (hB : B ≤ w.heap.size)
 (hl : out.length < 5864062014805) (hz : 0 < out.length → (Bn out ((out.length - 1 : Nat) : Int)).f1.size < 9223372036854775807) :
 Calls Tryz.prog 153 #[v, .int .u8 ch.toNat] w fun e w' => ∃ v' : Value, e = .returned v' ∧ Kd.R k162 162 w' B (fun _ => True) v' (Df out ⟨#[ch]⟩) ∧ Below B w w' := by
 have hd : Hid (Df out ⟨#[ch]⟩ = if 0 < out.length ∧ (Bn out ((out.length - 1 : Nat) : Int)).f0 = false then out.set (out.length - 1) ⟨(Bn out ((out.length - 1 : Nat) : Int)).f0, (Bn out ((out.length - 1 : Nat) : Int)).f1 ++ ⟨#[ch]⟩⟩ else out ++ [⟨false, ⟨#[ch]⟩⟩]) := rfl
 have HR := Aa.mk hR
 obtain ⟨A, c, hv, hlc, hC⟩ := Kd.Dl hR
 subst hv
 have HC := Aa.mk hC
 clear hR hC
 have kc := fun W => one_string W ch
 have kd := fun W => one_string_drew W ch
 by_cases h0 : 0 < out.length
 ·obtain ⟨g', cap, hv, gb, gl, cells, hcells⟩ := Kd.Gy HR.out h0
  injection hv with ha _ hc
  subst ha hc
  obtain ⟨hx0, hx1, hf0, hf1, hput⟩ := elem162 HR.out (out.length - 1) (by omega)
  have hi0 : (0 : Int) ≤ (out.length : Int) - 1 := by omega
  have hzz := hz h0
  clear hput hf0 hf1 hcells hx1
  obtain ⟨L, hL⟩ : ∃ L, Bn out ((out.length - 1 : Nat) : Int) = L := ⟨_, rfl⟩
  rw [hL] at hd hx0 hzz
  clear hz
  cases hb0 : L.f0
  ·rw [if_pos ⟨h0, hb0⟩] at hd
   rw [hb0] at hx0
   have h0' : (0 : Int) < out.length := by omega
   go_enter Tryz.func153, Tryz.ntmps153
   go_upto_region 3 with (first | ((with_reducible refine gate_dst (N := 19) rfl ?_); refine Kd.R_lit k162 w.heap.size 162 ?hg (N := 19) ?hd (xs := ([] : List (S162))) (inner := []) (ok := fun _ => True) (okp := fun _ => True) ?hr ?hp (fun _ hk => hk) trivial (Below.refl _ _) (Nat.le_refl _) (by simp) ?_; (case hd => rfl); (case hg => rfl); (case hr => first | (go_simp; done) | (go_simp; rfl)); (case hp => exact (Reps.none _ _)); intro v1 w1 ho1 hb1 hg_ hnew_; clear hg_ hnew_) | ((with_reducible refine Cz (b := .append) (xs := #[.tmp 19, .tmp 20]) rfl ?_); at_builtin; refine Kd.R_append_rows k162 (w0 := w) w.heap.size rfl (.tmp 19) (.tmp 20) 154 162 (.agg #[(.bool false), (.string ⟨#[]⟩)]) 24 rfl Tryz.underlying154 info162 rfl (by decide) (by omega) v1 [] out _ _ _ (fun _ => True) (fun _ => False) rfl rfl ho1 (Kd.Bb HC.out hb1) (fun _ _ h => h) (fun _ h => h.elim) (fun _ _ => trivial) hb1 hb1.size ?aL ?_; (case aL => simp only [List.length_nil]; omega); intro v2 w2 ho2 hb2 hg hat; clear hg hat; rw [List.nil_append] at ho2))
   obtain ⟨g2, c2, hv2, gb2, gl2, cells2, hcells2⟩ := Kd.Gy ho2 h0
   subst hv2
   obtain ⟨hy0, hy1, hf0, hf1, hput⟩ := elem162 ho2 (out.length - 1) (by omega)
   rw [hL] at hy0 hy1 hput
   have HP := Lib.hid hput
   have HB2 := Aa.mk hb2
   clear hput hy0 hf0 hb2 hx0 ho1 hb1
   have hb0' := Lib.hid hb0
   clear hb0
   go_region
   go_wp2_with fail
   refine bodyPost_ret (v := .slice (some ⟨g2, 0, none⟩) out.length c2) (by simp [results, Tryz.results153, go_sem]) rfl ?_
   have hs := (HB2.out.mono hB).setCell (p := ⟨g2, (out.length - 1) * 2 + 1, none⟩) (Nat.le_trans hB gb2) (.string (L.f1 ++ ⟨#[ch]⟩))
   have hr := Kd.Cs (Kd.Cg (Kd.Dv (HP.out (L.f1 ++ ⟨#[ch]⟩)) hB) (.cells #[.int .u8 (ch.toNat : Int)] 5))
   refine ⟨_, rfl, ?_, below_drew (hs.alloc (Nat.le_trans hB hs.size) _)⟩
   rw [hd.out]
   simpa using hr
  ·rw [if_neg (fun h => by rw [hb0] at h; exact absurd h.2 (by decide))] at hd
   rw [hb0] at hx0
   go_enter Tryz.func153, Tryz.ntmps153
   go_wp2_with (first | ((with_reducible refine Cz (b := .append) (xs := #[.tmp 40, .tmp 45]) rfl ?_); at_builtin; refine Kd.Ep k162 (w0 := w) B rfl (.tmp 40) (.tmp 45) 154 162 (.agg #[(.bool false), (.string ⟨#[]⟩)]) 24 rfl Tryz.underlying154 info162 rfl (by decide) (by omega) (.slice (some ⟨g', 0, none⟩) out.length c) out (⟨false, ⟨#[ch]⟩⟩ : S162) [.bool false, .string ⟨#[ch]⟩] (fun _ => True) (fun _ => False) rfl (by first | rfl | (simp [Act.eval]; done)) (k162_mkM _ _ _ (⟨false, ⟨#[ch]⟩⟩ : S162)) (fun _ hk => hk.elim) (fun k hk => trivial) (Kd.Cg HR.out _) ((Below.refl _ _).alloc hB _) (by simp; omega) ?aL ?_; (case aL => omega); intro v5 w5 ho5 hb5 hg hat; clear hat hg))
   go_ret
   exact ⟨_, rfl, by rw [hd.out]; exact ho5, hb5⟩
 ·rw [if_neg (fun h => h0 h.1)] at hd
  obtain rfl : out = [] := List.length_eq_zero_iff.1 (by omega)
  clear hz
  go_enter Tryz.func153, Tryz.ntmps153
  go_wp2_with (first | ((with_reducible refine Cz (b := .append) (xs := #[.tmp 40, .tmp 45]) rfl ?_); at_builtin; refine Kd.Ep k162 (w0 := w) B rfl (.tmp 40) (.tmp 45) 154 162 (.agg #[(.bool false), (.string ⟨#[]⟩)]) 24 rfl Tryz.underlying154 info162 rfl (by decide) (by omega) (.slice A ([] : List S162).length c) [] (⟨false, ⟨#[ch]⟩⟩ : S162) [.bool false, .string ⟨#[ch]⟩] (fun _ => True) (fun _ => False) rfl (by first | rfl | (simp [Act.eval]; done)) (k162_mkM _ _ _ (⟨false, ⟨#[ch]⟩⟩ : S162)) (fun _ hk => hk.elim) (fun k hk => trivial) (Kd.Cg HR.out _) ((Below.refl _ _).alloc hB _) (by simp; omega) ?aL ?_; (case aL => simp); intro v5 w5 ho5 hb5 hg hat; clear hat hg))
  go_ret
  exact ⟨_, rfl, by rw [hd.out]; exact ho5, hb5⟩
end Go.Proofs.YtefheailchihaaaGreatDoor.Print
namespace Go.Proofs.YtefheailchihaaaGreatDoor.Print
open Go.RowKit Go.Lib Go.Shelf Go.Proofs.YtefheailchihaaaGreatDoorW.PrintWords Go.Proofs.YtefheailchihaaaGreatDoorW.PrintLast Go.Proofs.YtefheailchihaaaGreatDoorW.PrintMore
theorem small_calls (c : Int) (w : World) : Calls Tryz.prog 62 #[.int .u8 c] w fun e w' => e = .returned (.bool (smallB c)) ∧ ∃ n, w' = w.drewN n :=
 (C9.calls c _ w (small_eq c)).mono fun _ _ ⟨he, ⟨n, hn⟩⟩ => ⟨he, n, hn⟩
theorem varB_small (c : Int) : varB c = (smallB c || c == 95) := by
 unfold varB smallB
 simp [Bool.or_assoc]
theorem rvariable_calls (s : ByteArray) (hs : s.size ≤ 140737488355328) (w : World) :
 Calls Tryz.prog 154 #[.string s] w fun e w' => e = .returned (.int .i64 (Dr s)) ∧ ∃ n, w' = w.drewN n := by
 have hv := varLen_le s
 have hgo := Lib.hid (varLen_go s)
 generalize Dr s = n at *
 go_enter Tryz.func154, Tryz.ntmps154
 go_wp2
 go_loopw [3] (fun v3 wr => ∃ k m : Nat, v3 = .int .i64 k ∧ k ≤ n ∧ wr = w.drewN m) (fun v3 _ => n - (intOf v3).toNat)
 case atStart => exact ⟨0, 0, rfl, by omega, rfl⟩
 case round =>
  obtain ⟨k, m, rfl, hk, rfl⟩ := hrel
  have hg := hgo.out k hk
  by_cases hlt : k < n
  ·have hks : k < s.size := by omega
   have hkv := hg.1 hlt hks
   rw [varB_small] at hkv
   clear hg
   cases hsm : smallB s[k].toNat
   ·rw [hsm] at hkv
    have hc : ((s[k].toNat : Int) == 95) = true := by simpa using hkv
    have HS := Lib.hid hsm
    clear hkv hsm
    go_wp2_with (first | (go_at_call 62; refine (small_calls _ _).mono ?_; rintro e w' ⟨rfl, ⟨nd, rfl⟩⟩; rw [HS.out]))
    exact ⟨⟨k + 1, _, by go_num, by omega, rfl⟩, by simp [intOf]; omega⟩
   ·have HS := Lib.hid hsm
    clear hkv hsm
    go_wp2_with (first | (go_at_call 62; refine (small_calls _ _).mono ?_; rintro e w' ⟨rfl, ⟨nd, rfl⟩⟩; rw [HS.out]))
    exact ⟨⟨k + 1, _, by go_num, by omega, rfl⟩, by simp [intOf]; omega⟩
  ·obtain rfl : k = n := by omega
   by_cases hks : k < s.size
   ·have hkv := hg.2 rfl hks
    rw [varB_small, Bool.or_eq_false_iff] at hkv
    obtain ⟨hsm, hc⟩ := hkv
    have HS := Lib.hid hsm
    clear hg hsm
    go_wp2_with (first | (go_at_call 62; refine (small_calls _ _).mono ?_; rintro e w' ⟨rfl, ⟨nd, rfl⟩⟩; rw [HS.out]))
    go_ret
    exact ⟨rfl, _, rfl⟩
   ·go_wp2_with fail
    go_ret
    exact ⟨rfl, _, rfl⟩
end Go.Proofs.YtefheailchihaaaGreatDoor.Print
end
section
namespace Go.Proofs.YtefheailchihaaaGreatDoor.Print
open Go.RowKit Go.Lib Go.Shelf Go.Proofs.YtefheailchihaaaGreatDoorW.PrintWords Go.Proofs.YtefheailchihaaaGreatDoorW.PrintLast Go.Proofs.YtefheailchihaaaGreatDoorW.PrintMore
def Eo (q : ByteArray) : ByteArray := if hasP q ⟨#[123]⟩ = true then q.extract 1 q.size else q
def okVar (q : ByteArray) : Bool :=
 decide (1 ≤ Dr (Eo q)) && (decide (Dr (Eo q) ≤ 16) && (!hasP q ⟨#[123]⟩ || hasP (Eu (Eo q)) ⟨#[125]⟩))
def varEnd (q : ByteArray) : Nat := Dr (Eo q) + if hasP q ⟨#[123]⟩ = true then 2 else 0
def Gj : Nat → ByteArray → List S162 → List S162 × Int
 | 0, _, out => (out, 0)
 | k + 1, r, out =>
  if h : 1 ≤ r.size then
   if r[0] ≠ 36 then Gj k (r.extract 1 r.size) (Df out ⟨#[r[0]]⟩)
   else if h2 : 2 ≤ r.size then
    if sgn r[1] = true then Gj k (r.extract 2 r.size) (Df out ⟨#[r[1]]⟩)
    else if okVar (r.extract 1 r.size) = true then
     Gj k (r.extract (1 + varEnd (r.extract 1 r.size)) r.size) (out ++ [⟨true, Gd (Eo (r.extract 1 r.size))⟩])
    else ([], 300)
   else ([], 300)
  else (out, 0)
def refOf (s : ByteArray) : List S162 × Int := if Do s 2048 = true then Gj s.size s [] else ([], 300)
theorem ext_ext (s : ByteArray) (a b : Nat) : (s.extract a s.size).extract b (s.extract a s.size).size = s.extract (a + b) s.size := by
 apply ByteArray.ext
 simp [ByteArray.data_extract, ByteArray.size_extract]
 congr 1
 omega
theorem ext_get (s : ByteArray) (a j : Nat) (h : j < (s.extract a s.size).size) (h' : a + j < s.size) : (s.extract a s.size)[j] = s[a + j] := by
 show (s.extract a s.size).data[j] = s.data[a + j]
 simp [ByteArray.data_extract]
theorem sgn_iff (c : UInt8) : sgn c = true ↔ c = 36 ∨ c = 32 ∨ c = 58 := by
 have : ∀ n : Fin 256, sgn (UInt8.ofNat n) = (UInt8.ofNat n == 36 || UInt8.ofNat n == 32 || UInt8.ofNat n == 58) := by decide +kernel
 have h := this ⟨c.toNat, c.toNat_lt⟩
 simp only [UInt8.ofNat_toNat] at h
 rw [h]
 simp [or_assoc]
theorem data_cons (q : ByteArray) (h : 1 ≤ q.size) : ∃ t, q.data.toList = q[0] :: t := by
 have := E5 q 0 (by omega)
 rw [List.drop_zero] at this
 exact ⟨_, this⟩
theorem hasP_one (q : ByteArray) (c : UInt8) : hasP q ⟨#[c]⟩ = if h : 1 ≤ q.size then (q[0] == c) else false := by
 unfold hasP
 split
 ·rename_i h
  obtain ⟨t, e⟩ := data_cons q h
  rw [e]
  show (c == q[0] && true) = (q[0] == c)
  rw [Bool.and_true, Bool.beq_comm]
 ·rename_i h
  have e : q.data.toList = [] := List.length_eq_zero_iff.1 (by have := Lib.size_eq q; omega)
  rw [e]
  rfl
theorem refGo_end {k : Nat} {r : ByteArray} {out : List S162} {F} (h : Gj k r out = F) (h1 : ¬ 1 ≤ r.size) : F = (out, 0) := by
 rw [← h]
 cases k with
 | zero => rfl
 | succ k => simp only [Gj]; rw [dif_neg h1]
theorem refGo_text {k : Nat} {r : ByteArray} {out : List S162} {F} (h : Gj (k + 1) r out = F) (h1 : 1 ≤ r.size) (hc : r[0] ≠ 36) : Gj k (r.extract 1 r.size) (Df out ⟨#[r[0]]⟩) = F := by
 rw [← h]; simp only [Gj]; rw [dif_pos h1, if_pos hc]
theorem refGo_lone {k : Nat} {r : ByteArray} {out : List S162} {F} (h : Gj (k + 1) r out = F) (h1 : 1 ≤ r.size) (hc : r[0] = 36) (h2 : ¬ 2 ≤ r.size) : F = ([], 300) := by
 rw [← h]; simp only [Gj]; rw [dif_pos h1, if_neg (by rw [hc]; decide), dif_neg h2]
theorem refGo_sign {k : Nat} {r : ByteArray} {out : List S162} {F} (h : Gj (k + 1) r out = F) (h2 : 2 ≤ r.size) (hc : r[0] = 36) (hs : sgn r[1] = true) : Gj k (r.extract 2 r.size) (Df out ⟨#[r[1]]⟩) = F := by
 rw [← h]; simp only [Gj]; rw [dif_pos (by omega), if_neg (by rw [hc]; decide), dif_pos h2, if_pos hs]
theorem refGo_var {k : Nat} {r : ByteArray} {out : List S162} {F} (h : Gj (k + 1) r out = F) (h2 : 2 ≤ r.size) (hc : r[0] = 36) (hs : sgn r[1] = false) :
 (okVar (r.extract 1 r.size) = true → Gj k (r.extract (1 + varEnd (r.extract 1 r.size)) r.size) (out ++ [⟨true, Gd (Eo (r.extract 1 r.size))⟩]) = F) ∧ (okVar (r.extract 1 r.size) = false → F = ([], 300)) := by
 rw [← h]; simp only [Gj]; rw [dif_pos (by omega), if_neg (by rw [hc]; decide), dif_pos h2, if_neg (by rw [hs]; decide)]
 exact ⟨fun ho => by rw [if_pos ho], fun ho => by rw [if_neg (by rw [ho]; decide)]⟩
theorem u8_beq (a c : UInt8) : ((a.toNat : Int) == (c.toNat : Int)) = (a == c) := by
 rw [Bool.eq_iff_iff]
 simp only [beq_iff_eq]
 constructor
 ·intro h
  exact UInt8.toNat_inj.1 (by omega)
 ·rintro rfl; rfl
theorem few_one {N m : Nat} {out : List S162} (t : ByteArray) (h : Few N m out) (ht : t.size = 1) (hm : 1 ≤ m) : Few N (m - 1) (Df out t) := few_text t h (by omega) (by omega)
theorem few_wordx {N m : Nat} {out : List S162} (Z : ByteArray) (n : Nat) (h : Few N m out) (h1 : 1 ≤ n) (hm : n < m) : Few N (m - n) (out ++ [⟨true, Z.extract 0 n⟩]) := by
 have h0 := h.1
 refine ⟨by simp; omega, fun x hx => ?_⟩
 rcases List.mem_append.mp hx with hx | hx
 ·have := h.2 x hx; omega
 ·simp at hx
  subst hx
  simp
  omega
theorem rest_brace (Z : ByteArray) (n : Nat) (hn : Dr Z = n) : (∀ h : n < Z.size, hasP (Eu Z) ⟨#[125]⟩ = ((Z[n].toNat : Int) == 125)) ∧ (¬ n < Z.size → hasP (Eu Z) ⟨#[125]⟩ = false) := by
 subst hn
 rw [hasP_one]
 have hs : (Eu Z).size = Z.size - Dr Z := by simp [Eu]
 refine ⟨fun h => ?_, fun h => ?_⟩
 ·rw [dif_pos (by omega)]
  have : (Eu Z)[0]'(by omega) = Z[Dr Z] := by
   have := ext_get Z (Dr Z) 0 (by unfold Eu at hs; omega) (by omega)
   exact this
  rw [this]
  exact (u8_beq _ 125).symm
 ·rw [dif_neg (by omega)]
def RelR (w : World) (s : ByteArray) (F : List S162 × Int) (v4 v5 : Value) (wr : World) : Prop :=
 ∃ (i k : Nat) (out : List S162), v5 = .int .i64 i ∧ i ≤ s.size ∧ Kd.R k162 162 wr w.heap.size (fun _ => True) v4 out ∧ Below w.heap.size w wr ∧ Few 2048 (s.size - i) out ∧ s.size - i ≤ k ∧ Gj k (s.extract i s.size) out = F
theorem ref36_calls (s : ByteArray) (hs : s.size ≤ 140737488355328) (w : World) :
 Calls Tryz.prog 129 #[.string s] w fun e w' => ∃ v : Value, e = .returned (.tuple #[v, .int .i64 (refOf s).2]) ∧ Kd.R k162 162 w' w.heap.size (fun _ => True) v (refOf s).1 ∧ Below w.heap.size w w' := by
 have hpl := Lib.hid (fun w => An.calls (s.size + 1) s 0 2048 _ w (refPlain s 2048 hs (s.size + 1) (by omega)))
 cases hp : Do s 2048
 ·have hd : Hid (refOf s = ([], 300)) := by
   unfold refOf
   rw [if_neg (by rw [hp]; decide)]
   exact Lib.hid rfl
  have HP := Lib.hid hp
  clear hp
  go_enter Tryz.func129, Tryz.ntmps129
  go_wp2_with fail
  refine (hpl.out _).mono ?_
  rintro e w' ⟨rfl, ⟨nd, rfl⟩⟩
  rw [HP.out]
  go_wp2_with fail
  refine bodyPost_ret (v := .tuple #[.slice none 0 0, .int .i64 300]) (by simp [results, Tryz.results129, go_sem]) rfl ?_
  rw [hd.out]
  exact ⟨_, rfl, Kd.Di _ _ _ _ _, Cu (Below.refl _ _) _⟩
 ·have h48 : s.size ≤ 2048 := by
   unfold Do at hp
   simp at hp
   omega
  obtain ⟨F, hF⟩ : ∃ F, Gj s.size s [] = F := ⟨_, rfl⟩
  have hd : Hid (refOf s = F) := by
   unfold refOf
   rw [if_pos hp, hF]
   exact Lib.hid rfl
  have HP := Lib.hid hp
  have HF := Aa.mk hF
  clear hp hF
  go_enter Tryz.func129, Tryz.ntmps129
  go_wp2_with fail
  refine (hpl.out _).mono ?_
  rintro e w' ⟨rfl, ⟨nd, rfl⟩⟩
  rw [HP.out]
  go_wp2_with fail
  go_loopw [4, 5, 6, 7, 8] (fun v4 v5 v6 v7 v8 wr => RelR w s F v4 v5 wr) (fun v4 v5 v6 v7 v8 _ => s.size - (intOf v5).toNat)
  case atStart =>
   exact ⟨0, s.size, [], rfl, by omega, Kd.Di _ _ _ _ _, Cu (Below.refl _ _) _, ⟨by simp; omega, fun x hx => by simp at hx⟩, by omega, by rw [show s.extract 0 s.size = s from ByteArray.extract_zero_size]; exact HF.out⟩
  case round =>
   obtain ⟨i, k, out, rfl, hi, hR, hbel, hfew, hk, hgo⟩ := hrel
   have HR := Aa.mk hR
   have HBEL := Aa.mk hbel
   have HFEW := Aa.mk hfew
   have HGO := Aa.mk hgo
   have hol : out.length < 5864062014805 := by have := hfew.1; omega
   obtain ⟨A, c, hv, hlc, hC⟩ := Kd.Dl hR
   subst hv
   clear hR hbel hfew hgo hC HF
   by_cases hlt : i < s.size
   ·obtain ⟨j, rfl⟩ : ∃ j, k = j + 1 := ⟨k - 1, by omega⟩
    have hrs : (s.extract i s.size).size = s.size - i := by simp
    have hr0 : ∀ h, (s.extract i s.size)[0]'h = s[i] := fun h => by rw [ext_get s i 0 h (by omega)]; rfl
    by_cases hc : s[i] = 36
    ·have hcb : ((s[i].toNat : Int) == 36) = true := by rw [hc]; rfl
     have hz : Hid (0 < out.length → (Bn out ((out.length - 1 : Nat) : Int)).f1.size < 9223372036854775807) := Lib.hid fun h0 => by
      have := few_last HFEW.out h0
      omega
     by_cases h2 : i + 1 < s.size
     ·have hr1 : ∀ h, (s.extract i s.size)[1]'h = s[i + 1] := fun h => by rw [ext_get s i 1 h (by omega)]
      have hq0 : ∀ h, (s.extract (i + 1) s.size)[0]'h = s[i + 1] := fun h => by rw [ext_get s (i + 1) 0 h (by omega)]
      have h22 : 2 ≤ (s.extract i s.size).size := by omega
      have hsg := fun (h : sgn (s.extract i s.size)[1] = true) => refGo_sign HGO.out (by omega) (by rw [hr0]; exact hc) h
      have hvr := fun (h : sgn (s.extract i s.size)[1] = false) => refGo_var HGO.out (by omega) (by rw [hr0]; exact hc) h
      rw [hr1, ext_ext] at hsg
      rw [hr1, ext_ext, ext_ext] at hvr
      obtain ⟨q, hq⟩ : ∃ q, s.extract (i + 1) s.size = q := ⟨_, rfl⟩
      have hqs : q.size + (i + 1) = s.size := by rw [← hq]; simp; omega
      rw [hq] at hvr
      have hq1 : q[0] = s[i + 1] := by subst hq; exact hq0 _
      rw [← hq1] at hsg hvr
      have HQ := Lib.hid hq
      have hn : ¬ q.toList = [] := E2 (by omega)
      have HNE : Hid (¬ q.toList.isEmpty = true) := Lib.hid (by simpa using hn)
      clear hr0 hr1 hq0 hq hrs HGO
      go_upto_region 10 with (fail)
      rw [HQ.out]
      clear HQ hq1 hcb hc
      by_cases hs0 : sgn q[0] = true
      ·have hsg2 := hsg hs0
       rw [show i + 2 = i + 2 from rfl] at hsg2
       rcases (sgn_iff _).1 hs0 with e | e | e
       ·have b : ((q[0].toNat : Int) == 36) = true := by rw [e]; rfl
        rw [e] at hsg2
        have HG := Aa.mk hsg2
        clear hsg2 hsg hvr hs0
        skip
        go_wp2_with (first | (go_at_call 153; refine (rtext_calls w.heap.size _ out 36 _ HR.out HBEL.out.size hol hz.out).mono ?_; rintro e w3 ⟨v3, rfl, hR3, hb3⟩))
        ·exact ⟨⟨i + 2, j, _, by go_num, by omega, hR3, HBEL.out.trans hb3, few_le (few_one ⟨#[36]⟩ HFEW.out rfl (by omega)) (by omega), by omega, HG.out⟩, by simp [intOf]; omega⟩
        all_goals (rename_i hx; exact absurd hx HNE.out)
       ·have b : ((q[0].toNat : Int) == 32) = true := by rw [e]; rfl
        rw [e] at hsg2
        have HG := Aa.mk hsg2
        clear hsg2 hsg hvr hs0
        have b36 : ((q[0].toNat : Int) == 36) = false := by rw [e]; rfl
        go_wp2_with (first | (go_at_call 153; refine (rtext_calls w.heap.size _ out 32 _ HR.out HBEL.out.size hol hz.out).mono ?_; rintro e w3 ⟨v3, rfl, hR3, hb3⟩))
        ·exact ⟨⟨i + 2, j, _, by go_num, by omega, hR3, HBEL.out.trans hb3, few_le (few_one ⟨#[32]⟩ HFEW.out rfl (by omega)) (by omega), by omega, HG.out⟩, by simp [intOf]; omega⟩
        all_goals (rename_i hx; exact absurd hx HNE.out)
       ·have b : ((q[0].toNat : Int) == 58) = true := by rw [e]; rfl
        rw [e] at hsg2
        have HG := Aa.mk hsg2
        clear hsg2 hsg hvr hs0
        have b36 : ((q[0].toNat : Int) == 36) = false := by rw [e]; rfl
        have b32 : ((q[0].toNat : Int) == 32) = false := by rw [e]; rfl
        go_wp2_with (first | (go_at_call 153; refine (rtext_calls w.heap.size _ out 58 _ HR.out HBEL.out.size hol hz.out).mono ?_; rintro e w3 ⟨v3, rfl, hR3, hb3⟩))
        ·exact ⟨⟨i + 2, j, _, by go_num, by omega, hR3, HBEL.out.trans hb3, few_le (few_one ⟨#[58]⟩ HFEW.out rfl (by omega)) (by omega), by omega, HG.out⟩, by simp [intOf]; omega⟩
        all_goals (rename_i hx; exact absurd hx HNE.out)
      ·have hs1 : sgn q[0] = false := by simpa using hs0
       have hvr2 := hvr hs1
       have n36 : q[0] ≠ 36 := fun e => hs0 ((sgn_iff _).2 (Or.inl e))
       have n32 : q[0] ≠ 32 := fun e => hs0 ((sgn_iff _).2 (Or.inr (Or.inl e)))
       have n58 : q[0] ≠ 58 := fun e => hs0 ((sgn_iff _).2 (Or.inr (Or.inr e)))
       have b36 : ((q[0].toNat : Int) == 36) = false := by rw [show ((q[0].toNat : Int) == 36) = (q[0] == 36) from u8_beq q[0] 36]; simpa using n36
       have b32 : ((q[0].toNat : Int) == 32) = false := by rw [show ((q[0].toNat : Int) == 32) = (q[0] == 32) from u8_beq q[0] 32]; simpa using n32
       have b58 : ((q[0].toNat : Int) == 58) = false := by rw [show ((q[0].toNat : Int) == 58) = (q[0] == 58) from u8_beq q[0] 58]; simpa using n58
       have hbr := hasP_one q 123
       rw [dif_pos (show 1 ≤ q.size by omega)] at hbr
       have hbi : ((q[0].toNat : Int) == 123) = hasP q ⟨#[123]⟩ := by rw [hbr]; exact u8_beq q[0] 123
       have hok : Hid (okVar q = (decide (1 ≤ Dr (Eo q)) && (decide (Dr (Eo q) ≤ 16) && (!hasP q ⟨#[123]⟩ || hasP (Eu (Eo q)) ⟨#[125]⟩)))) := rfl
       have hZd : Hid (Eo q = if hasP q ⟨#[123]⟩ = true then q.extract 1 q.size else q) := rfl
       have hve : Hid (varEnd q = Dr (Eo q) + if hasP q ⟨#[123]⟩ = true then 2 else 0) := rfl
       have hvl := varLen_le (Eo q)
       have hwo : Hid (Gd (Eo q) = (Eo q).extract 0 (Dr (Eo q))) := rfl
       clear hvr hsg hs0 hs1 n36 n32 n58 hbr
       obtain ⟨Z, hZ⟩ : ∃ Z, Eo q = Z := ⟨_, rfl⟩
       rw [hZ] at hok hve hvl hwo hZd hvr2
       rw [hve.out, hwo.out] at hvr2
       have VC := Lib.hid (fun (w : World) (h : Z.size ≤ 140737488355328) => rvariable_calls Z h w)
       obtain ⟨n, hnn⟩ : ∃ n, Dr Z = n := ⟨_, rfl⟩
       have hrs2 := rest_brace Z n hnn
       have HRS := Lib.hid hrs2
       simp only [hnn] at hok hve hvl hwo hvr2 VC
       clear hnn hZ hve hwo hrs2
       cases hb : hasP q ⟨#[123]⟩
       ·simp only [hb] at hok hZd hvr2 hbi
        obtain rfl : Z = q := by simpa using hZd.out
        have hok2 : okVar Z = (decide (1 ≤ n) && decide (n ≤ 16)) := by rw [hok.out]; simp
        clear hZd hok HRS hb
        go_wp2_with fail
        ·refine (VC.out _ (by omega)).mono ?_
         rintro e w3 ⟨rfl, n3, rfl⟩
         by_cases h1 : 1 ≤ n
         ·by_cases h16 : n ≤ 16
          ·have hV := hvr2.1 (by rw [hok2]; simp [h1, h16])
           have HV := Aa.mk hV
           clear hvr2 hok2 hV
           go_wp2_with (first | ((with_reducible refine Cz (b := .append) (xs := #[.tmp 81, .tmp 86]) rfl ?_); at_builtin; refine Kd.Ep k162 (w0 := w) w.heap.size rfl (.tmp 81) (.tmp 86) 154 162 (.agg #[(.bool false), (.string ⟨#[]⟩)]) 24 rfl Tryz.underlying154 info162 rfl (by decide) (by omega) (.slice A out.length c) out (⟨true, Z.extract 0 n⟩ : S162) [.bool true, .string (Z.extract 0 n)] (fun _ => True) (fun _ => False) rfl (by first | rfl | (simp [Act.eval]; done)) (k162_mkM _ _ _ (⟨true, Z.extract 0 n⟩ : S162)) (fun _ hk => hk.elim) (fun k hk => trivial) (Kd.Cc HR.out _) (Cu HBEL.out _) (Cu HBEL.out _).size ?aL ?_; (case aL => omega); intro v5 w5 ho5 hb5 hg hat; clear hat hg))
           exact ⟨⟨i + (1 + (n + 0)), j, _, by go_num, by omega, ho5, hb5, few_le (few_wordx (N := 2048) (m := s.size - i) Z n HFEW.out (by omega) (by omega)) (by omega), by omega, HV.out⟩, by simp [intOf]; omega⟩
          ·have hV := hvr2.2 (by rw [hok2]; simp [h16])
           rw [hV] at hd
           clear hvr2 hok2 hV
           go_wp2_with fail
           refine bodyPost_ret (v := .tuple #[.slice none 0 0, .int .i64 300]) (by simp [results, Tryz.results129, go_sem]) rfl ?_
           rw [hd.out]
           exact ⟨_, rfl, Kd.Di _ _ _ _ _, Cu HBEL.out _⟩
         ·have hV := hvr2.2 (by rw [hok2]; simp [h1])
          rw [hV] at hd
          clear hvr2 hok2 hV
          go_wp2_with fail
          refine bodyPost_ret (v := .tuple #[.slice none 0 0, .int .i64 300]) (by simp [results, Tryz.results129, go_sem]) rfl ?_
          rw [hd.out]
          exact ⟨_, rfl, Kd.Di _ _ _ _ _, Cu HBEL.out _⟩
        all_goals (rename_i hx; exact absurd hx HNE.out)
       ·simp only [hb] at hok hZd hvr2 hbi
        have hZe : q.extract 1 q.size = Z := by have := hZd.out; simp at this; exact this.symm
        have hZs : Z.size + 1 = q.size := by rw [← hZe]; simp; omega
        have HZE := Lib.hid hZe
        have hok2 : okVar q = (decide (1 ≤ n) && (decide (n ≤ 16) && hasP (Eu Z) ⟨#[125]⟩)) := by rw [hok.out]; simp
        clear hZd hok hb hZe
        go_wp2_with fail
        ·rw [HZE.out]
         refine (VC.out _ (by omega)).mono ?_
         rintro e w3 ⟨rfl, n3, rfl⟩
         by_cases h1 : 1 ≤ n
         ·by_cases h16 : n ≤ 16
          ·by_cases hnz : n < Z.size
           ·have hh := HRS.out.1 hnz
            rw [hh] at hok2
            have hne : ¬ ((n : Int) = (Z.size : Int)) := by omega
            cases hch : ((Z[n].toNat : Int) == 125)
            ·have hV := hvr2.2 (by rw [hok2, hch]; simp)
             have hch2 : ((Z[n].toNat : Int) != 125) = true := by rw [bne, hch]; rfl
             have hch3 : ¬ ((Z[n].toNat : Int) != 125) = false := by rw [hch2]; decide
             rw [hV] at hd
             clear hvr2 hok2 hV hh
             go_wp2_with fail
             refine bodyPost_ret (v := .tuple #[.slice none 0 0, .int .i64 300]) (by simp [results, Tryz.results129, go_sem]) rfl ?_
             rw [hd.out]
             exact ⟨_, rfl, Kd.Di _ _ _ _ _, Cu HBEL.out _⟩
            ·have hV := hvr2.1 (by rw [hok2, hch]; simp [h1, h16])
             have hch2 : ((Z[n].toNat : Int) != 125) = false := by rw [bne, hch]; rfl
             have hne2 : ((n : Int) == (Z.size : Int)) = false := by simpa using hne
             have HV := Aa.mk hV
             clear hvr2 hok2 hV hh
             go_wp2_with (first | ((with_reducible refine Cz (b := .append) (xs := #[.tmp 81, .tmp 86]) rfl ?_); at_builtin; refine Kd.Ep k162 (w0 := w) w.heap.size rfl (.tmp 81) (.tmp 86) 154 162 (.agg #[(.bool false), (.string ⟨#[]⟩)]) 24 rfl Tryz.underlying154 info162 rfl (by decide) (by omega) (.slice A out.length c) out (⟨true, Z.extract 0 n⟩ : S162) [.bool true, .string (Z.extract 0 n)] (fun _ => True) (fun _ => False) rfl (by first | rfl | (simp [Act.eval]; done)) (k162_mkM _ _ _ (⟨true, Z.extract 0 n⟩ : S162)) (fun _ hk => hk.elim) (fun k hk => trivial) (Kd.Cc HR.out _) (Cu HBEL.out _) (Cu HBEL.out _).size ?aL ?_; (case aL => omega); intro v5 w5 ho5 hb5 hg hat; clear hat hg))
             exact ⟨⟨i + (1 + (n + 2)), j, _, by go_num, by omega, ho5, hb5, few_le (few_wordx (N := 2048) (m := s.size - i) Z n HFEW.out (by omega) (by omega)) (by omega), by omega, HV.out⟩, by simp [intOf]; omega⟩
           ·have hh := HRS.out.2 hnz
            have hV := hvr2.2 (by rw [hok2, hh]; simp)
            rw [hV] at hd
            have hne : ((n : Int) = (Z.size : Int)) := by omega
            clear hvr2 hok2 hV hh
            go_wp2_with fail
            refine bodyPost_ret (v := .tuple #[.slice none 0 0, .int .i64 300]) (by simp [results, Tryz.results129, go_sem]) rfl ?_
            rw [hd.out]
            exact ⟨_, rfl, Kd.Di _ _ _ _ _, Cu HBEL.out _⟩
          ·have hV := hvr2.2 (by rw [hok2]; simp [h16])
           rw [hV] at hd
           clear hvr2 hok2 hV
           go_wp2_with fail
           refine bodyPost_ret (v := .tuple #[.slice none 0 0, .int .i64 300]) (by simp [results, Tryz.results129, go_sem]) rfl ?_
           rw [hd.out]
           exact ⟨_, rfl, Kd.Di _ _ _ _ _, Cu HBEL.out _⟩
         ·have hV := hvr2.2 (by rw [hok2]; simp [h1])
          rw [hV] at hd
          clear hvr2 hok2 hV
          go_wp2_with fail
          refine bodyPost_ret (v := .tuple #[.slice none 0 0, .int .i64 300]) (by simp [results, Tryz.results129, go_sem]) rfl ?_
          rw [hd.out]
          exact ⟨_, rfl, Kd.Di _ _ _ _ _, Cu HBEL.out _⟩
        all_goals (rename_i hx; exact absurd hx HNE.out)
     ·have hFe := refGo_lone HGO.out (by omega) (by rw [hr0]; exact hc) (by omega)
      rw [hFe] at hd
      have hqe : s.extract (i + 1) s.size = ⟨#[]⟩ := by
       apply ByteArray.ext
       apply Array.eq_empty_of_size_eq_zero
       simp
       have : s.size = s.data.size := rfl
       omega
      have HQE := Lib.hid hqe
      clear hFe hqe HGO
      go_upto_region 10 with (fail)
      rw [HQE.out]
      go_wp2_with fail
      refine bodyPost_ret (v := .tuple #[.slice none 0 0, .int .i64 300]) (by simp [results, Tryz.results129, go_sem]) rfl ?_
      rw [hd.out]
      exact ⟨_, rfl, Kd.Di _ _ _ _ _, HBEL.out⟩
    ·have hcb : ((s[i].toNat : Int) == 36) = false := by
      have := u8_beq s[i] 36
      rw [show ((36 : UInt8).toNat : Int) = 36 from rfl] at this
      rw [this]
      simpa using hc
     have hgo := refGo_text HGO.out (by omega) (by rw [hr0]; exact hc)
     rw [ext_ext, hr0] at hgo
     have hf := few_one ⟨#[s[i]]⟩ HFEW.out rfl (by omega)
     have hz : Hid (0 < out.length → (Bn out ((out.length - 1 : Nat) : Int)).f1.size < 9223372036854775807) := Lib.hid fun h0 => by
      have := few_last HFEW.out h0
      omega
     have HG := Aa.mk hgo
     have HW := Aa.mk hf
     clear hgo hf HGO hrs hr0
     go_wp2_with (first | (go_at_call 153; refine (rtext_calls w.heap.size _ out s[i] _ HR.out HBEL.out.size hol hz.out).mono ?_; rintro e w3 ⟨v3, rfl, hR3, hb3⟩))
     exact ⟨⟨i + 1, j, _, by go_num, by omega, hR3, HBEL.out.trans hb3, by rw [show s.size - (i + 1) = s.size - i - 1 by omega]; exact HW.out, by omega, HG.out⟩, by simp [intOf]; omega⟩
   ·have hFe := refGo_end HGO.out (by simp; omega)
    rw [hFe] at hd
    clear hFe HGO
    go_wp2_with fail
    refine bodyPost_ret (v := .tuple #[.slice A out.length c, .int .i64 0]) (by simp [results, Tryz.results129, go_sem]) rfl ?_
    rw [hd.out]
    exact ⟨_, rfl, HR.out, HBEL.out⟩
end Go.Proofs.YtefheailchihaaaGreatDoor.Print
namespace Go.Proofs.YtefheailchihaaaGreatDoor.Print
open Go.RowKit Go.Lib Go.Shelf Go.Proofs.YtefheailchihaaaGreatDoorW.PrintWords Go.Proofs.YtefheailchihaaaGreatDoorW.PrintLast Go.Proofs.YtefheailchihaaaGreatDoorW.PrintMore
def Eg.f (a0 : ByteArray) : Option (List S162 × Int) := if a0.size ≤ 140737488355328 then some (refOf a0) else none
theorem Eg.calls (a0 : ByteArray) (r1 : List S162) (r2 : Int) (w : World) (h : Eg.f a0 = some (r1, r2)) :
 Calls Tryz.prog 129 #[.string a0] w fun e w' => ∃ v0_ : Value, e = .returned (.tuple #[v0_, .int .i64 r2]) ∧ Kd.R k162 162 w' w.heap.size (fun _ => True) v0_ r1 ∧ Below w.heap.size w w' := by
 unfold Eg.f at h
 split at h
 ·rename_i hs
  injection h with h
  have := ref36_calls a0 (by omega) w
  rw [h] at this
  exact this
 ·exact absurd h (by simp)
end Go.Proofs.YtefheailchihaaaGreatDoor.Print
namespace Go.Proofs.YtefheailchihaaaGreatDoor.Print
open Go.RowKit Go.Lib Go.Shelf Go.Proofs.YtefheailchihaaaGreatDoorW.PrintWords Go.Proofs.YtefheailchihaaaGreatDoorW.PrintLast Go.Proofs.YtefheailchihaaaGreatDoorW.PrintMore
theorem rd57_last (out : List S162) (x : S162) : Bn (out ++ [x]) (((out ++ [x]).length - 1 : Nat) : Int) = x := by
 simp [Bn]
theorem rd57_set (out : List S162) (x : S162) (h : 0 < out.length) : Bn (out.set (out.length - 1) x) (((out.set (out.length - 1) x).length - 1 : Nat) : Int) = x := by
 simp [Bn, List.length_set, List.getD_eq_getElem?_getD, List.getElem?_set]
 rw [if_pos (by omega)]
 rfl
theorem addText_addText (out : List S162) (a b : ByteArray) : Df (Df out a) b = Df out (a ++ b) := by
 by_cases h : 0 < out.length ∧ (Bn out ((out.length - 1 : Nat) : Int)).f0 = false
 ·have e : Df out a = out.set (out.length - 1) ⟨(Bn out ((out.length - 1 : Nat) : Int)).f0, (Bn out ((out.length - 1 : Nat) : Int)).f1 ++ a⟩ := by unfold Df; rw [if_pos h]
  have e2 : Df out (a ++ b) = out.set (out.length - 1) ⟨(Bn out ((out.length - 1 : Nat) : Int)).f0, (Bn out ((out.length - 1 : Nat) : Int)).f1 ++ (a ++ b)⟩ := by unfold Df; rw [if_pos h]
  rw [e, e2]
  unfold Df
  rw [rd57_set _ _ h.1, if_pos ⟨by rw [List.length_set]; exact h.1, h.2⟩]
  simp only [List.length_set, List.set_set]
  rw [ByteArray.append_assoc]
 ·have e : Df out a = out ++ [⟨false, a⟩] := by unfold Df; rw [if_neg h]
  have e2 : Df out (a ++ b) = out ++ [⟨false, a ++ b⟩] := by unfold Df; rw [if_neg h]
  rw [e, e2]
  unfold Df
  rw [rd57_last, if_pos ⟨by simp, rfl⟩]
  simp
theorem ext_first (s : ByteArray) (h : 1 ≤ s.size) : s.extract 0 1 = ⟨#[s[0]]⟩ := by
 apply ByteArray.ext
 apply Array.ext
 ·simp; omega
 ·intro i h1 h2
  simp at h2
  subst h2
  simp
  rfl
theorem textIf_add (out : List S162) (s : ByteArray) (i : Nat) (h : 1 ≤ s.size) (hi : i + 1 ≤ s.size) :
 Hf (Df out ⟨#[s[0]]⟩) ((s.extract 1 s.size).extract 0 i) = Hf out (s.extract 0 (i + 1)) := by
 have e : s.extract 0 1 ++ (s.extract 1 s.size).extract 0 i = s.extract 0 (i + 1) := by
  apply ByteArray.ext
  simp [ByteArray.data_extract]
  congr 1
  omega
 have hz : (s.extract 0 (i + 1)).size = i + 1 := by simp; omega
 have hz2 : ((s.extract 1 s.size).extract 0 i).size = i := by simp; omega
 have r : Hf out (s.extract 0 (i + 1)) = Df out (s.extract 0 (i + 1)) := by unfold Hf; rw [if_pos (by omega)]
 rw [r, ← e, ext_first s h]
 unfold Hf
 split
 ·rw [addText_addText]
 ·rename_i h0
  have : (s.extract 1 s.size).extract 0 i = ⟨#[]⟩ := by
   apply ByteArray.ext
   exact Array.eq_empty_of_size_eq_zero (by have : ((s.extract 1 s.size).extract 0 i).data.size = ((s.extract 1 s.size).extract 0 i).size := rfl; omega)
  rw [this]
  rfl
theorem refGo_prefix : ∀ (i k : Nat) (s : ByteArray) (out : List S162), (∀ j (h : j < s.size), j < i → s[j] ≠ 36) → i ≤ s.size → i ≤ k →
 Gj k s out = Gj (k - i) (s.extract i s.size) (Hf out (s.extract 0 i)) := by
 intro i
 induction i with
 | zero =>
  intro k s out _ _ _
  rw [show s.extract 0 s.size = s from ByteArray.extract_zero_size]
  have : (s.extract 0 0).size = 0 := by simp
  unfold Hf
  rw [if_neg (by omega)]
  rfl
 | succ i ih =>
  intro k s out hj hi hk
  obtain ⟨k, rfl⟩ : ∃ k', k = k' + 1 := ⟨k - 1, by omega⟩
  have h1 : 1 ≤ s.size := by omega
  have := refGo_text (k := k) (r := s) (out := out) rfl h1 (hj 0 (by omega) (by omega))
  rw [← this, ih k (s.extract 1 s.size) _ (fun j h hji => by
   rw [ext_get s 1 j h (by simp at h; omega)]
   exact hj (1 + j) _ (by omega)) (by simp; omega) (by omega), ext_ext, textIf_add out s i h1 (by omega)]
  rw [show k + 1 - (i + 1) = k - i by omega, show 1 + i = i + 1 by omega]
theorem cutGo_bad (k : Nat) (rest : ByteArray) (out : List S162) : cutGo k rest out true = (out, true) := by
 cases k with
 | zero => rfl
 | succ k => simp [cutGo]
theorem varLen_empty (q : ByteArray) (h : ¬ 1 ≤ q.size) : Dr q = 0 := by
 have := varLen_le q
 omega
theorem hasP_nil (q : ByteArray) : hasP q ⟨#[]⟩ = true := by
 unfold hasP Lib.hasPrefix
 simp
theorem trimP_nil (q : ByteArray) : trimP q ⟨#[]⟩ = q := by
 unfold trimP Lib.trimPrefix
 have := hasP_nil q
 unfold hasP at this
 rw [if_pos this]
 simp
theorem trimP_one (q : ByteArray) (c : UInt8) (h : hasP q ⟨#[c]⟩ = true) : trimP q ⟨#[c]⟩ = q.extract 1 q.size := by
 unfold trimP Lib.trimPrefix
 unfold hasP at h
 rw [if_pos h]
 apply ByteArray.ext
 simp [ByteArray.data_extract]
 apply Array.ext'
 rw [Array.toList_extract, List.extract, ← List.drop_one, List.take_of_length_le (by rw [List.length_drop]; have := Lib.size_eq q; omega)]
theorem few_some (out : List S162) (m : Nat) : ∃ N, Few N m out := by
 induction out with
 | nil => exact ⟨m, by simp, fun x hx => by simp at hx⟩
 | cons y ys ih =>
  obtain ⟨N, h1, h2⟩ := ih
  refine ⟨N + 1 + y.f1.size, by simp; omega, fun x hx => ?_⟩
  rcases List.mem_cons.1 hx with rfl | hx
  ·omega
  ·have := h2 x hx; omega
theorem sign_le (rest : ByteArray) (out : List S162) : (Dp rest out).1.size ≤ rest.size := by
 obtain ⟨N, h⟩ := few_some out rest.size
 exact (few_sign rest h).2
theorem and3B : ∀ x y z : Bool, (y && (z && (!true || x))) = (x && (y && z)) := by decide
theorem sign_ref (k : Nat) (r : ByteArray) (out : List S162) (h1 : 1 ≤ r.size) (hc : r[0] = 36) :
 ((Dp (r.extract 1 r.size) out).2.2 = true ∧ Gj (k + 1) r out = ([], 300)) ∨
 ((Dp (r.extract 1 r.size) out).2.2 = false ∧ Gj (k + 1) r out = Gj k (Dp (r.extract 1 r.size) out).1 (Dp (r.extract 1 r.size) out).2.1) := by
 have hqs : (r.extract 1 r.size).size = r.size - 1 := by simp
 by_cases h2 : 2 ≤ r.size
 ·have hq0 : (r.extract 1 r.size)[0]'(by omega) = r[1] := by rw [ext_get r 1 0 (by omega) (by omega)]
  by_cases hs : sgn r[1] = true
  ·have e : Dp (r.extract 1 r.size) out = ((r.extract 1 r.size).extract 1 (r.extract 1 r.size).size, Df out ((r.extract 1 r.size).extract 0 1), false) := by
    unfold Dp
    rw [dif_pos (by omega), if_pos (by rw [hq0]; exact hs)]
   rw [e, ext_ext, ext_first _ (by omega), hq0]
   exact Or.inr ⟨rfl, (refGo_sign (k := k) rfl h2 hc hs).symm⟩
  ·have hs' : sgn r[1] = false := by simpa using hs
   obtain ⟨v1, v2⟩ := refGo_var (k := k) (r := r) (out := out) rfl h2 hc hs'
   have hext : ∀ b, (r.extract 1 r.size).extract b (r.extract 1 r.size).size = r.extract (1 + b) r.size := fun b => ext_ext r 1 b
   have hq1 : ∀ h : 1 ≤ (r.extract 1 r.size).size, (r.extract 1 r.size)[0] = r[1] := fun _ => hq0
   have hst : Dp (r.extract 1 r.size) out = if hasP (r.extract 1 r.size) ⟨#[123]⟩ = true then D7 ((r.extract 1 r.size).extract 1 (r.extract 1 r.size).size) out ⟨#[125]⟩ else D7 (r.extract 1 r.size) out ⟨#[]⟩ := by
    unfold Dp
    rw [dif_pos (by omega), if_neg (by rw [hq0]; exact hs)]
   rw [hst]
   clear hst hq1 hq0
   generalize r.extract 1 r.size = q at *
   have hokd : okVar q = (decide (1 ≤ Dr (Eo q)) && (decide (Dr (Eo q) ≤ 16) && (!hasP q ⟨#[123]⟩ || hasP (Eu (Eo q)) ⟨#[125]⟩))) := rfl
   have hved : varEnd q = Dr (Eo q) + if hasP q ⟨#[123]⟩ = true then 2 else 0 := rfl
   have hbd : Eo q = if hasP q ⟨#[123]⟩ = true then q.extract 1 q.size else q := rfl
   have hvs : ∀ (Z e : ByteArray), D7 Z out e = if (hasP (Eu Z) e && (decide (1 ≤ (Gd Z).size) && decide ((Gd Z).size ≤ 16))) = true then (trimP (Eu Z) e, out ++ [⟨true, Gd Z⟩], false) else (trimP (Eu Z) e, out, true) := fun _ _ => rfl
   have hws : ∀ Z, (Gd Z).size = Dr Z := fun Z => by have := varLen_le Z; simp [Gd]; omega
   by_cases hb : hasP q ⟨#[123]⟩ = true
   ·rw [if_pos hb] at hved hbd ⊢
    rw [hb, hbd] at hokd
    rw [hbd] at hved v1
    rw [hvs, hws]
    have hz := varLen_le (q.extract 1 q.size)
    by_cases hg : (hasP (Eu (q.extract 1 q.size)) ⟨#[125]⟩ && (decide (1 ≤ Dr (q.extract 1 q.size)) && decide (Dr (q.extract 1 q.size) ≤ 16))) = true
    ·rw [if_pos hg]
     simp only [Bool.and_eq_true, decide_eq_true_eq] at hg
     have := v1 (by rw [hokd]; simp [hg.1, hg.2.1, hg.2.2])
     refine Or.inr ⟨rfl, ?_⟩
     rw [← this, hved]
     simp only []
     rw [trimP_one _ _ hg.1, show (Eu (q.extract 1 q.size)) = (q.extract 1 q.size).extract (Dr (q.extract 1 q.size)) (q.extract 1 q.size).size from rfl, ext_ext (q.extract 1 q.size) (Dr (q.extract 1 q.size)) 1, ext_ext q 1 (Dr (q.extract 1 q.size) + 1), hext (1 + (Dr (q.extract 1 q.size) + 1))]
     congr 2
     omega
    ·rw [if_neg hg]
     refine Or.inl ⟨rfl, v2 ?_⟩
     rw [hokd]
     rw [Bool.not_eq_true] at hg
     rw [← hg]
     exact and3B _ _ _
   ·rw [if_neg hb] at hved hbd ⊢
    rw [Bool.not_eq_true] at hb
    rw [hb, hbd] at hokd
    rw [hbd] at hved v1
    rw [hvs, hws, hasP_nil, Bool.true_and]
    by_cases hg : (decide (1 ≤ Dr q) && decide (Dr q ≤ 16)) = true
    ·rw [if_pos hg]
     simp only [Bool.and_eq_true, decide_eq_true_eq] at hg
     have := v1 (by rw [hokd]; simp [hg.1, hg.2])
     refine Or.inr ⟨rfl, ?_⟩
     rw [← this, hved]
     simp only []
     rw [trimP_nil, show Eu q = q.extract (Dr q) q.size from rfl, hext]
     congr 2
    ·rw [if_neg hg]
     refine Or.inl ⟨rfl, v2 ?_⟩
     rw [hokd]
     rw [Bool.not_eq_true] at hg
     simp only [Bool.not_false, Bool.true_or, Bool.and_true]
     exact hg
 ·have e : Dp (r.extract 1 r.size) out = D7 (r.extract 1 r.size) out ⟨#[]⟩ := by
   unfold Dp
   rw [dif_neg (by omega)]
  have hw : (Gd (r.extract 1 r.size)).size = 0 := by
   unfold Gd
   rw [varLen_empty _ (by omega)]
   simp
  have e2 : (D7 (r.extract 1 r.size) out ⟨#[]⟩).2.2 = true := by
   unfold D7
   rw [if_neg (by simp [hw])]
  rw [e]
  exact Or.inl ⟨e2, refGo_lone (k := k) rfl h1 hc h2⟩
def asAnswer (F : List S162 × Bool) : List S162 × Int := if F.2 = true then ([], 300) else (F.1, 0)
theorem cut_ref : ∀ (m k j : Nat) (rest : ByteArray) (out : List S162), rest.size ≤ m → rest.size ≤ k → rest.size ≤ j → asAnswer (cutGo k rest out false) = Gj j rest out := by
 intro m
 induction m with
 | zero =>
  intro k j rest out hm _ _
  rw [cutGo_done (k := k) rfl (by omega), refGo_end (k := j) rfl (by omega)]
  rfl
 | succ m ih =>
  intro k j rest out hm hk hj
  by_cases h1 : 1 ≤ rest.size
  ·obtain ⟨k, rfl⟩ : ∃ k', k = k' + 1 := ⟨k - 1, by omega⟩
   have hn := cutGo_next (k := k + 1) (rest := rest) (out := out) rfl h1 hk
   rw [← hn, Nat.add_sub_cancel]
   have hcs := (Ik rest).2 h1
   unfold Fs
   by_cases hc : 0 ≤ cutAt rest
   ·obtain ⟨i, hi, hlt⟩ := cutAt_lt rest hc
    have hcst : Dk rest = (rest.extract 0 i, rest.extract (i + 1) rest.size, true) := by
     unfold Dk
     rw [if_pos hc, hi]
     rfl
    obtain ⟨hx, hy⟩ := Lib.indexByte_some (show Lib.indexByte rest.data.toList 36 = (i : Nat) from hi)
    have hget : ∀ (j : Nat) (h : j < rest.size), rest.data.toList[j]? = some rest[j] := fun j h => by
     rw [List.getElem?_eq_getElem (by simpa using h)]
     rfl
    have hp := refGo_prefix i j rest out (fun a h hai e => hy a hai (by rw [hget a h, e])) (by omega) (by omega)
    rw [hcst]
    simp only []
    rw [if_pos trivial, hp]
    have hrs : (rest.extract i rest.size).size = rest.size - i := by simp
    have hr0 : (rest.extract i rest.size)[0]'(by omega) = 36 := by
     rw [ext_get rest i 0 (by omega) (by omega)]
     rw [hget i hlt] at hx
     simpa using hx
    obtain ⟨j', hj'⟩ : ∃ j', j - i = j' + 1 := ⟨j - i - 1, by omega⟩
    rw [hj']
    have hs := sign_ref j' (rest.extract i rest.size) (Hf out (rest.extract 0 i)) (by omega) hr0
    rw [ext_ext] at hs
    have hle := sign_le (rest.extract (i + 1) rest.size) (Hf out (rest.extract 0 i))
    have hes : (rest.extract (i + 1) rest.size).size = rest.size - (i + 1) := by simp
    rcases hs with ⟨b, e⟩ | ⟨b, e⟩
    ·rw [b, cutGo_bad, e]
     rfl
    ·rw [b, e]
     exact ih _ _ _ _ (by omega) (by omega) (by omega)
   ·have hcst : Dk rest = (rest, ⟨#[]⟩, false) := by
     unfold Dk
     rw [if_neg hc]
    have hi1 : Lib.indexByte rest.data.toList 36 = -1 := by have := Lib.indexByte_ge rest.data.toList 36; unfold cutAt at hc; omega
    have hget : ∀ (j : Nat) (h : j < rest.size), rest.data.toList[j]? = some rest[j] := fun j h => by
     rw [List.getElem?_eq_getElem (by simpa using h)]
     rfl
    have hp := refGo_prefix rest.size j rest out (fun a h hai e => Lib.indexByte_none hi1 a (by rw [hget a h, e])) (by omega) (by omega)
    rw [hcst]
    simp only []
    rw [if_neg (by simp), hp]
    rw [cutGo_done (k := k) rfl (by rw [show (⟨#[]⟩ : ByteArray).size = 0 from rfl]; omega), refGo_end (k := j - rest.size) rfl (by simp), show rest.extract 0 rest.size = rest from ByteArray.extract_zero_size]
    rfl
  ·rw [cutGo_done (k := k) rfl (by omega), refGo_end (k := j) rfl (by omega)]
   rfl
theorem cutOf_eq (s : ByteArray) : Gn s = refOf s := by
 unfold Gn refOf
 split
 ·exact cut_ref s.size s.size s.size s [] (by omega) (by omega) (by omega)
 ·rfl
end Go.Proofs.YtefheailchihaaaGreatDoor.Print
end
section
namespace Go.Proofs.YtefheailchihaaaGreatDoor.Print
open Go.RowKit Go.Proofs.YtefheailchihaaaGreatDoorW.PrintWords Go.Proofs.YtefheailchihaaaGreatDoorW.PrintLast Go.Proofs.YtefheailchihaaaGreatDoorW.PrintMore
attribute [local go_sem] max2_int min2_int max_two min_two max_three min_three max_four min_four
mutual
def Ar.j0 : Nat → List (S174) → List (S174) → List (S162) → Bool → Option (ByteArray × Int)
 | 0, _, _, _, _ => none
 | k + 1, x1, x2, x8, x29 => if x29 = true then (some ((⟨#[]⟩ : ByteArray), 500)) else (Ar.l0 k x1 x2 x8 (⟨#[]⟩ : ByteArray) 0)
def Ar.l0 : Nat → List (S174) → List (S174) → List (S162) → ByteArray → Int → Option (ByteArray × Int)
 | 0, _, _, _, _, _ => none
 | k + 1, x1, x2, x8, x10, x11 => if x11 < (x8.length : Int) then (if 0 ≤ x11 then (if (Bn x8 x11).f0 = true then ((Aq.f k x1 ((Bn x8 x11).f1)).bind fun t147 => (if t147.toList = ([] : List UInt8) then ((Aq.f k x2 ((Bn x8 x11).f1)).bind fun t149 => (if x10.size + t149.size ≤ 9223372036854775807 then (Ar.l0 k x1 x2 x8 (x10 ++ t149) (wrap64 (x11 + 1))) else (none))) else (if x10.size + t147.size ≤ 9223372036854775807 then (Ar.l0 k x1 x2 x8 (x10 ++ t147) (wrap64 (x11 + 1))) else (none)))) else (if x10.size + ((Bn x8 x11).f1).size ≤ 9223372036854775807 then (Ar.l0 k x1 x2 x8 (x10 ++ ((Bn x8 x11).f1)) (wrap64 (x11 + 1))) else (none))) else (none)) else (if (x10.size : Int) > 256 then (some ((⟨#[]⟩ : ByteArray), 501)) else (some (x10, 0)))
end
def Ar.f (k : Nat) (a0 : ByteArray) (l1 : List (S174)) (l2 : List (S174)) : Option (ByteArray × Int) := (Eg.f a0).bind fun bt138 => (if bt138.2 = 0 then ((Af.f k l1).bind fun t142 => (if t142 = true then ((Af.f k l2).bind fun t143 => (Ar.j0 k l1 l2 bt138.1 (!t143))) else (Ar.j0 k l1 l2 bt138.1 true))) else (Ar.j0 k l1 l2 bt138.1 true))
theorem Ar.mono_l : ∀ k, (∀ y0 y1 y2 y3, LeO (Ar.j0 k y0 y1 y2 y3) (Ar.j0 (k + 1) y0 y1 y2 y3)) ∧ (∀ y0 y1 y2 y3 y4, LeO (Ar.l0 k y0 y1 y2 y3 y4) (Ar.l0 (k + 1) y0 y1 y2 y3 y4))
 | 0 => ⟨fun _ _ _ _ r h => by simp [Ar.j0] at h, fun _ _ _ _ _ r h => by simp [Ar.l0] at h⟩
 | k + 1 => by
  obtain ⟨ih0, ih1⟩ := Ar.mono_l k
  refine ⟨?_, ?_⟩
  ·intro y0 y1 y2 y3
   unfold Ar.j0
   repeat' first
   | (with_reducible exact ih0 _ _ _ _)
   | (with_reducible exact ih1 _ _ _ _ _)
   | (with_reducible exact Aq.mono _ _ _)
   | (with_reducible exact Af.mono _ _)
   | (with_reducible exact LeO.refl _)
   | (with_reducible exact LeO.none _)
   | (with_reducible refine LeO.ite ?_ ?_)
   | (with_reducible refine LeO.bind ?_ (fun _ => ?_))
   | exact ih0 _ _ _ _
   | exact ih1 _ _ _ _ _
   | exact Aq.mono _ _ _
   | exact Af.mono _ _
   | exact LeO.none _
   | refine LeO.ite ?_ ?_
   | refine LeO.bind ?_ (fun _ => ?_)
  ·intro y0 y1 y2 y3 y4
   unfold Ar.l0
   repeat' first
   | (with_reducible exact ih0 _ _ _ _)
   | (with_reducible exact ih1 _ _ _ _ _)
   | (with_reducible exact Aq.mono _ _ _)
   | (with_reducible exact Af.mono _ _)
   | (with_reducible exact LeO.refl _)
   | (with_reducible exact LeO.none _)
   | (with_reducible refine LeO.ite ?_ ?_)
   | (with_reducible refine LeO.bind ?_ (fun _ => ?_))
   | exact ih0 _ _ _ _
   | exact ih1 _ _ _ _ _
   | exact Aq.mono _ _ _
   | exact Af.mono _ _
   | exact LeO.none _
   | refine LeO.ite ?_ ?_
   | refine LeO.bind ?_ (fun _ => ?_)
theorem Ar.mono : ∀ a0 a1 a2 k, LeO (Ar.f k a0 a1 a2) (Ar.f (k + 1) a0 a1 a2) := by
 intro a0 a1 a2 k
 obtain ⟨ih0, ih1⟩ := Ar.mono_l k
 unfold Ar.f
 repeat' first
  | (with_reducible exact ih0 _ _ _ _)
  | (with_reducible exact ih1 _ _ _ _ _)
  | (with_reducible exact Aq.mono _ _ _)
  | (with_reducible exact Af.mono _ _)
  | (with_reducible exact LeO.refl _)
  | (with_reducible exact LeO.none _)
  | (with_reducible refine LeO.ite ?_ ?_)
  | (with_reducible refine LeO.bind ?_ (fun _ => ?_))
  | exact ih0 _ _ _ _
  | exact ih1 _ _ _ _ _
  | exact Aq.mono _ _ _
  | exact Af.mono _ _
  | exact LeO.none _
  | refine LeO.ite ?_ ?_
  | refine LeO.bind ?_ (fun _ => ?_)
theorem Ar.calls (k : Nat) (a0 : ByteArray) (A1 : Option Addr) (c1 : Nat) (l1 : List (S174)) (A2 : Option Addr) (c2 : Nat) (l2 : List (S174)) (r1 : ByteArray) (r2 : Int) (w : World) (hr1 : Kd.C k174 w A1 l1.length l1) (hc1 : l1.length ≤ c1) (hr2 : Kd.C k174 w A2 l2.length l2) (hc2 : l2.length ≤ c2) (h : Ar.f k a0 l1 l2 = some (r1, r2)) :
 Calls Tryz.prog 94 #[.string a0, .slice A1 l1.length c1, .slice A2 l2.length c2] w fun e w' => e = .returned (.tuple #[.string r1, .int .i64 r2]) ∧ Below w.heap.size w w' := by
 have HR1 := Aa.mk hr1
 have HC1 := Aa.mk hc1
 clear hr1 hc1
 have HR2 := Aa.mk hr2
 have HC2 := Aa.mk hc2
 clear hr2 hc2
 have HB := Aa.mk (Below.refl w.heap.size w)
 have H : ((Eg.f a0).bind fun bt138 => (if bt138.2 = 0 then ((Af.f k l1).bind fun t142 => (if t142 = true then ((Af.f k l2).bind fun t143 => (Ar.j0 k l1 l2 bt138.1 (!t143))) else (Ar.j0 k l1 l2 bt138.1 true))) else (Ar.j0 k l1 l2 bt138.1 true))) = some (r1, r2) := h
 clear h
 replace H := Option.bind_eq_some_iff.mp H
 obtain ⟨⟨t138, t139⟩, A40, H⟩ := H
 replace H : (if t139 = 0 then ((Af.f k l1).bind fun t142 => (if t142 = true then ((Af.f k l2).bind fun t143 => (Ar.j0 k l1 l2 t138 (!t143))) else (Ar.j0 k l1 l2 t138 true))) else (Ar.j0 k l1 l2 t138 true)) = some (r1, r2) := H
 have A4 := Aa.mk A40
 clear A40
 have HC5 := Aa.mk H
 clear H
 go_enter Tryz.func94, Tryz.ntmps94
 go_upto_region 2 with (first | ((with_reducible refine Ck (f := 129) rfl ?_); refine Dx (some 15) rfl rfl Tryz.func129 (by kernel_rfl) rfl #[.string a0] rfl zqC ?_; (with_reducible refine (Eg.calls a0 t138 t139 _ A4.out).mono ?_); rintro e w6 ⟨v140, rfl, ho0, hb⟩; refine ⟨_, rfl, ?_⟩; have n0_ := Aa.mk (Kd.Dv ho0 (E6 zqB)); have n1_ := Aa.mk (Fu zqB hb); clear HB; have HO141 := n0_; have HB := n1_; clear n0_ n1_; (try clear hb); (try clear hb2); (try clear hk); (try clear hi); (try clear ho0)))
 (try simp only [Act.put, List.setIfInBounds_toArray, List.set_cons_zero, List.set_cons_succ])
 go_cut [29] (fun v29 wc => ∃ (kq : Nat) (x29_4 : Bool), v29 = .bool x29_4 ∧ Aa (Ar.j0 kq l1 l2 t138 x29_4 = some (r1, r2)) ∧ Aa (kq ≤ k) ∧ Aa (Kd.R k162 162 wc w.heap.size (fun _ => True) v140 t138) ∧ Aa (Below w.heap.size w wc))
 case first =>
  have H := HC5.out
  clear HC5
  by_cases c7 : t139 = 0
  ·rw [if_pos c7] at H
   have c7b0 : (t139 == 0) = true := beq_iff_eq.mpr c7
   have c7b1 : (t139 != 0) = false := bne_eq_false_iff_eq.mpr c7
   clear c7
   (first | rw [c7b0] | (simp only [G8, i32_w]; rw [c7b0]) | skip)
   replace H := Option.bind_eq_some_iff.mp H
   obtain ⟨t142, A80, H⟩ := H
   replace H : (if t142 = true then ((Af.f k l2).bind fun t143 => (Ar.j0 k l1 l2 t138 (!t143))) else (Ar.j0 k l1 l2 t138 true)) = some (r1, r2) := H
   have A8 := Aa.mk A80
   clear A80
   by_cases c9 : t142 = true
   ·subst c9
    have H1 : ((Af.f k l2).bind fun t143 => (Ar.j0 k l1 l2 t138 (!t143))) = some (r1, r2) := by rw [if_pos rfl] at H; exact H
    clear H
    have H := H1
    clear H1
    replace H := Option.bind_eq_some_iff.mp H
    obtain ⟨t143, A100, H⟩ := H
    replace H : (Ar.j0 k l1 l2 t138 (!t143)) = some (r1, r2) := H
    have A10 := Aa.mk A100
    clear A100
    have H' := Aa.mk H
    clear H
    go_wp2_with (first | (go_at_call 130; (with_reducible refine (Af.calls k _ _ l1 true _ ?side1 ?side2 A8.out).mono ?_); (case side1 => repeat (first | exact (Kd.Bb HR1.out HB.out) | (with_reducible refine Kd.Gg ?_ _) | (with_reducible refine Kd.Ht ?_ _) | (with_reducible refine Kd.C_drew ?_))); (case side2 => exact HC1.out); rintro e w' ⟨rfl, ⟨nd, rfl⟩⟩) | (go_at_call 130; (with_reducible refine (Af.calls k _ _ l2 t143 _ ?side1 ?side2 A10.out).mono ?_); (case side1 => repeat (first | exact (Kd.Bb HR2.out zqB) | (with_reducible refine Kd.Gg ?_ _) | (with_reducible refine Kd.Ht ?_ _) | (with_reducible refine Kd.C_drew ?_))); (case side2 => exact HC2.out); rintro e w' ⟨rfl, ⟨nd, rfl⟩⟩))
    go_meet
    case rel => exact ⟨_, (!t143), zqD, H', ⟨by first | omega | exact Nat.le_refl _⟩, ⟨by (with_reducible repeat (first | apply Kd.Cg | apply Kd.Cc | apply Kd.Cs)); exact HO141.out⟩, ⟨zqB⟩⟩
   ·replace c9 := Bool.eq_false_iff.mpr c9
    subst c9
    have H1 : (Ar.j0 k l1 l2 t138 true) = some (r1, r2) := by rw [if_neg (show ¬ (false = true) by decide)] at H; exact H
    clear H
    have H := H1
    clear H1
    have H' := Aa.mk H
    clear H
    go_wp2_with (first | (go_at_call 130; (with_reducible refine (Af.calls k _ _ l1 false _ ?side1 ?side2 A8.out).mono ?_); (case side1 => repeat (first | exact (Kd.Bb HR1.out HB.out) | (with_reducible refine Kd.Gg ?_ _) | (with_reducible refine Kd.Ht ?_ _) | (with_reducible refine Kd.C_drew ?_))); (case side2 => exact HC1.out); rintro e w' ⟨rfl, ⟨nd, rfl⟩⟩))
    go_meet
    case rel => exact ⟨_, (true), zqD, H', ⟨by first | omega | exact Nat.le_refl _⟩, ⟨by (with_reducible repeat (first | apply Kd.Cg | apply Kd.Cc | apply Kd.Cs)); exact HO141.out⟩, ⟨zqB⟩⟩
  ·rw [if_neg c7] at H
   have c7b0 : (t139 == 0) = false := beq_eq_false_iff_ne.mpr c7
   have c7b1 : (t139 != 0) = true := bne_iff_ne.mpr c7
   (first | rw [c7b0] | (simp only [G8, i32_w]; rw [c7b0]) | skip)
   have H' := Aa.mk H
   clear H
   go_wp2
   go_meet
   case rel => exact ⟨_, (true), zqD, H', ⟨by first | omega | exact Nat.le_refl _⟩, ⟨by (with_reducible repeat (first | apply Kd.Cg | apply Kd.Cc | apply Kd.Cs)); exact HO141.out⟩, ⟨zqB⟩⟩
 case rest =>
  clear HC5
  try clear c1
  try clear c2
  try clear p2
  try clear c7
  try clear c7b0
  try clear c7b1
  try clear c9
  obtain ⟨kq, x29_4, rfl, HA, HJ4, HO_8, HB⟩ := hcut
  cases kq with
  | zero => exact absurd HA.out (by simp [Ar.j0])
  | succ kj4 =>
   have H := HA.out
   clear HA
   simp only [Ar.j0] at H
   by_cases c11 : x29_4 = true
   ·subst c11
    have H1 : (some ((⟨#[]⟩ : ByteArray), 500)) = some (r1, r2) := by rw [if_pos rfl] at H; exact H
    clear H
    have H := H1
    clear H1
    simp only [Option.some.injEq, Prod.mk.injEq] at H
    obtain ⟨rfl, rfl⟩ := H
    go_wp2
    go_ret2
    exact ⟨by first | rfl | (simp [Cp, Co] <;> rfl) | (simp [*, Cp, Co] <;> rfl), zqB⟩
   ·replace c11 := Bool.eq_false_iff.mpr c11
    subst c11
    have H1 : (Ar.l0 kj4 l1 l2 t138 (⟨#[]⟩ : ByteArray) 0) = some (r1, r2) := by rw [if_neg (show ¬ (false = true) by decide)] at H; exact H
    clear H
    have H := H1
    clear H1
    have H' := Aa.mk H
    clear H
    go_wp2
    go_loopg [10, 11] kj4 (fun kq v10 v11 w' => ∃ (x10_2 : ByteArray) (x11_2 : Int), v10 = .string x10_2 ∧ v11 = .int .i64 x11_2 ∧ Aa (Ar.l0 kq l1 l2 t138 x10_2 x11_2 = some (r1, r2)) ∧ Aa (kq ≤ kj4) ∧ Aa (Kd.R k162 162 w' w.heap.size (fun _ => True) v140 t138) ∧ Aa (Below w.heap.size w w'))
    case atStart => exact ⟨((⟨#[]⟩ : ByteArray)), (0), zqD, zqD, H', ⟨Nat.le_refl _⟩, ⟨by (with_reducible repeat (first | apply Kd.Cg | apply Kd.Cc | apply Kd.Cs)); exact HO_8.out⟩, ⟨zqB⟩⟩
    case round =>
     clear H'
     try clear c1
     try clear c2
     try clear p2
     try clear c7
     try clear c7b0
     try clear c7b1
     try clear c9
     try clear c11
     try clear p2
     obtain ⟨x10_2, x11_2, rfl, rfl, HA, HK2, HO_8, HB⟩ := hrel
     cases gk with
     | zero => exact absurd HA.out (by simp [Ar.l0])
     | succ k2 =>
      have H := HA.out
      clear HA
      simp only [Ar.l0] at H
      by_cases c12 : x11_2 < (t138.length : Int)
      ·rw [if_pos c12] at H
       have c12b0 : decide (x11_2 < (t138.length : Int)) = true := decide_eq_true c12
       clear c12
       by_cases c13 : 0 ≤ x11_2
       ·rw [if_pos c13] at H
        have c13b0 : decide (0 ≤ x11_2) = true := decide_eq_true c13
        clear c13
        obtain ⟨bq14, hbq14⟩ : ∃ b_ : Bool, b_ = ((Bn t138 x11_2).f0) := ⟨_, rfl⟩
        replace H : (if bq14 = true then ((Aq.f k2 l1 ((Bn t138 x11_2).f1)).bind fun t147 => (if t147.toList = ([] : List UInt8) then ((Aq.f k2 l2 ((Bn t138 x11_2).f1)).bind fun t149 => (if x10_2.size + t149.size ≤ 9223372036854775807 then (Ar.l0 k2 l1 l2 t138 (x10_2 ++ t149) (wrap64 (x11_2 + 1))) else (none))) else (if x10_2.size + t147.size ≤ 9223372036854775807 then (Ar.l0 k2 l1 l2 t138 (x10_2 ++ t147) (wrap64 (x11_2 + 1))) else (none)))) else (if x10_2.size + ((Bn t138 x11_2).f1).size ≤ 9223372036854775807 then (Ar.l0 k2 l1 l2 t138 (x10_2 ++ ((Bn t138 x11_2).f1)) (wrap64 (x11_2 + 1))) else (none))) = some (r1, r2) := by rw [← hbq14] at H; exact H
        have Nbq14 := Aa.mk hbq14
        clear hbq14
        by_cases c15 : bq14 = true
        ·subst c15
         have H1 : ((Aq.f k2 l1 ((Bn t138 x11_2).f1)).bind fun t147 => (if t147.toList = ([] : List UInt8) then ((Aq.f k2 l2 ((Bn t138 x11_2).f1)).bind fun t149 => (if x10_2.size + t149.size ≤ 9223372036854775807 then (Ar.l0 k2 l1 l2 t138 (x10_2 ++ t149) (wrap64 (x11_2 + 1))) else (none))) else (if x10_2.size + t147.size ≤ 9223372036854775807 then (Ar.l0 k2 l1 l2 t138 (x10_2 ++ t147) (wrap64 (x11_2 + 1))) else (none)))) = some (r1, r2) := by rw [if_pos rfl] at H; exact H
         clear H
         have H := H1
         clear H1
         replace H := Option.bind_eq_some_iff.mp H
         obtain ⟨t147, A160, H⟩ := H
         replace H : (if t147.toList = ([] : List UInt8) then ((Aq.f k2 l2 ((Bn t138 x11_2).f1)).bind fun t149 => (if x10_2.size + t149.size ≤ 9223372036854775807 then (Ar.l0 k2 l1 l2 t138 (x10_2 ++ t149) (wrap64 (x11_2 + 1))) else (none))) else (if x10_2.size + t147.size ≤ 9223372036854775807 then (Ar.l0 k2 l1 l2 t138 (x10_2 ++ t147) (wrap64 (x11_2 + 1))) else (none))) = some (r1, r2) := H
         have A16 := Aa.mk A160
         clear A160
         by_cases c17 : t147.toList = ([] : List UInt8)
         ·rw [if_pos c17] at H
          have c17b0 : (t147.toList == ([] : List UInt8)) = true := beq_iff_eq.mpr c17
          have c17b1 : (t147.toList != ([] : List UInt8)) = false := bne_eq_false_iff_eq.mpr c17
          clear c17
          replace H := Option.bind_eq_some_iff.mp H
          obtain ⟨t149, A180, H⟩ := H
          replace H : (if x10_2.size + t149.size ≤ 9223372036854775807 then (Ar.l0 k2 l1 l2 t138 (x10_2 ++ t149) (wrap64 (x11_2 + 1))) else (none)) = some (r1, r2) := H
          have A18 := Aa.mk A180
          clear A180
          by_cases c19 : x10_2.size + t149.size ≤ 9223372036854775807
          ·rw [if_pos c19] at H
           have c19b0 := eq_true c19
           have c19b1 : decide (x10_2.size + t149.size ≤ 9223372036854775807) = true := decide_eq_true c19
           try have c19b2 : (9223372036854775807 < x10_2.size + t149.size) = False := eq_false (Nat.not_lt.2 c19)
           have H' := Aa.mk H
           clear H
           obtain ⟨Ao20, co20, eo20⟩ := Kd.Bd HO_8.out
           subst eo20
           have p144 : 0 ≤ (x11_2 : Int) := of_decide_eq_true zqA
           have q144 : x11_2 < (t138.length : Int) := of_decide_eq_true zqA
           obtain ⟨ad144, e144, hx144_0, hx144_1⟩ := at_T162 (Kd.R_reads' HO_8.out).2.2 x11_2 p144 q144
           (try rw [← Nbq14.out] at hx144_0)
           cases e144
           replace p144 := eq_true p144
           replace q144 := eq_true q144
           have p145 : 0 ≤ (x11_2 : Int) := of_decide_eq_true zqA
           have q145 : x11_2 < (t138.length : Int) := of_decide_eq_true zqA
           obtain ⟨ad145, e145, hx145_0, hx145_1⟩ := at_T162 (Kd.R_reads' HO_8.out).2.2 x11_2 p145 q145
           (try rw [← Nbq14.out] at hx145_0)
           obtain rfl : ad144 = ad145 := (by injection e145)
           replace p145 := eq_true p145
           replace q145 := eq_true q145
           have p146 : 0 ≤ (x11_2 : Int) := of_decide_eq_true zqA
           have q146 : x11_2 < (t138.length : Int) := of_decide_eq_true zqA
           obtain ⟨ad146, e146, hx146_0, hx146_1⟩ := at_T162 (Kd.R_reads' HO_8.out).2.2 x11_2 p146 q146
           (try rw [← Nbq14.out] at hx146_0)
           obtain rfl : ad144 = ad146 := (by injection e146)
           replace p146 := eq_true p146
           replace q146 := eq_true q146
           go_wp2_with (first | ((with_reducible refine Ck (f := 131) rfl ?_); refine Dx (some 52) rfl rfl Tryz.func131 (by kernel_rfl) rfl #[.slice A1 l1.length c1, .string ((Bn t138 x11_2).f1)] rfl zqC ?_; (with_reducible refine (Aq.calls k2 _ _ l1 ((Bn t138 x11_2).f1) t147 _ ?side1 ?side2 A16.out).mono ?_); (case side1 => repeat (first | exact (Kd.Bb HR1.out HB.out) | (with_reducible refine Kd.Gg ?_ _) | (with_reducible refine Kd.Ht ?_ _) | (with_reducible refine Kd.C_drew ?_))); (case side2 => exact HC1.out); rintro e w' ⟨rfl, ⟨nd, rfl⟩⟩; refine ⟨_, rfl, ?_⟩; have p148 : 0 ≤ (x11_2 : Int) := of_decide_eq_true zqA; have q148 : x11_2 < (t138.length : Int) := of_decide_eq_true zqA; obtain ⟨ad148, e148, hx148_0, hx148_1⟩ := at_T162 (Kd.R_reads' HO_8.out).2.2 x11_2 p148 q148; (try rw [← Nbq14.out] at hx148_0); obtain rfl : ad144 = ad148 := (by injection e148); replace p148 := eq_true p148; replace q148 := eq_true q148) | ((with_reducible refine Ck (f := 131) rfl ?_); refine Dx (some 61) rfl rfl Tryz.func131 (by kernel_rfl) rfl #[.slice A2 l2.length c2, .string ((Bn t138 x11_2).f1)] rfl zqC ?_; (with_reducible refine (Aq.calls k2 _ _ l2 ((Bn t138 x11_2).f1) t149 _ ?side1 ?side2 A18.out).mono ?_); (case side1 => repeat (first | exact (Kd.Bb HR2.out zqB) | (with_reducible refine Kd.Gg ?_ _) | (with_reducible refine Kd.Ht ?_ _) | (with_reducible refine Kd.C_drew ?_))); (case side2 => exact HC2.out); rintro e w' ⟨rfl, ⟨nd, rfl⟩⟩; refine ⟨_, rfl, ?_⟩))
           go_roundg k2
           case measure => have := HJ4.out; have := HK2.out; omega
           case rel => exact ⟨(x10_2 ++ t149), (wrap64 (x11_2 + 1)), zqD, zqD, H', ⟨by have := HJ4.out; have := HK2.out; omega⟩, ⟨by (with_reducible repeat (first | apply Kd.Cg | apply Kd.Cc | apply Kd.Cs)); exact HO_8.out⟩, ⟨zqB⟩⟩
          ·rw [if_neg c19] at H
           exact absurd H (by simp)
         ·rw [if_neg c17] at H
          have c17b0 : (t147.toList == ([] : List UInt8)) = false := beq_eq_false_iff_ne.mpr c17
          have c17b1 : (t147.toList != ([] : List UInt8)) = true := bne_iff_ne.mpr c17
          by_cases c21 : x10_2.size + t147.size ≤ 9223372036854775807
          ·rw [if_pos c21] at H
           have c21b0 := eq_true c21
           have c21b1 : decide (x10_2.size + t147.size ≤ 9223372036854775807) = true := decide_eq_true c21
           try have c21b2 : (9223372036854775807 < x10_2.size + t147.size) = False := eq_false (Nat.not_lt.2 c21)
           have H' := Aa.mk H
           clear H
           obtain ⟨Ao22, co22, eo22⟩ := Kd.Bd HO_8.out
           subst eo22
           have p144 : 0 ≤ (x11_2 : Int) := of_decide_eq_true zqA
           have q144 : x11_2 < (t138.length : Int) := of_decide_eq_true zqA
           obtain ⟨ad144, e144, hx144_0, hx144_1⟩ := at_T162 (Kd.R_reads' HO_8.out).2.2 x11_2 p144 q144
           (try rw [← Nbq14.out] at hx144_0)
           cases e144
           replace p144 := eq_true p144
           replace q144 := eq_true q144
           have p145 : 0 ≤ (x11_2 : Int) := of_decide_eq_true zqA
           have q145 : x11_2 < (t138.length : Int) := of_decide_eq_true zqA
           obtain ⟨ad145, e145, hx145_0, hx145_1⟩ := at_T162 (Kd.R_reads' HO_8.out).2.2 x11_2 p145 q145
           (try rw [← Nbq14.out] at hx145_0)
           obtain rfl : ad144 = ad145 := (by injection e145)
           replace p145 := eq_true p145
           replace q145 := eq_true q145
           have p146 : 0 ≤ (x11_2 : Int) := of_decide_eq_true zqA
           have q146 : x11_2 < (t138.length : Int) := of_decide_eq_true zqA
           obtain ⟨ad146, e146, hx146_0, hx146_1⟩ := at_T162 (Kd.R_reads' HO_8.out).2.2 x11_2 p146 q146
           (try rw [← Nbq14.out] at hx146_0)
           obtain rfl : ad144 = ad146 := (by injection e146)
           replace p146 := eq_true p146
           replace q146 := eq_true q146
           go_wp2_with (first | ((with_reducible refine Ck (f := 131) rfl ?_); refine Dx (some 52) rfl rfl Tryz.func131 (by kernel_rfl) rfl #[.slice A1 l1.length c1, .string ((Bn t138 x11_2).f1)] rfl zqC ?_; (with_reducible refine (Aq.calls k2 _ _ l1 ((Bn t138 x11_2).f1) t147 _ ?side1 ?side2 A16.out).mono ?_); (case side1 => repeat (first | exact (Kd.Bb HR1.out HB.out) | (with_reducible refine Kd.Gg ?_ _) | (with_reducible refine Kd.Ht ?_ _) | (with_reducible refine Kd.C_drew ?_))); (case side2 => exact HC1.out); rintro e w' ⟨rfl, ⟨nd, rfl⟩⟩; refine ⟨_, rfl, ?_⟩))
           go_roundg k2
           case measure => have := HJ4.out; have := HK2.out; omega
           case rel => exact ⟨(x10_2 ++ t147), (wrap64 (x11_2 + 1)), zqD, zqD, H', ⟨by have := HJ4.out; have := HK2.out; omega⟩, ⟨by (with_reducible repeat (first | apply Kd.Cg | apply Kd.Cc | apply Kd.Cs)); exact HO_8.out⟩, ⟨zqB⟩⟩
          ·rw [if_neg c21] at H
           exact absurd H (by simp)
        ·replace c15 := Bool.eq_false_iff.mpr c15
         subst c15
         have H1 : (if x10_2.size + ((Bn t138 x11_2).f1).size ≤ 9223372036854775807 then (Ar.l0 k2 l1 l2 t138 (x10_2 ++ ((Bn t138 x11_2).f1)) (wrap64 (x11_2 + 1))) else (none)) = some (r1, r2) := by rw [if_neg (show ¬ (false = true) by decide)] at H; exact H
         clear H
         have H := H1
         clear H1
         by_cases c23 : x10_2.size + ((Bn t138 x11_2).f1).size ≤ 9223372036854775807
         ·rw [if_pos c23] at H
          have c23b0 := eq_true c23
          have c23b1 : decide (x10_2.size + ((Bn t138 x11_2).f1).size ≤ 9223372036854775807) = true := decide_eq_true c23
          try have c23b2 : (9223372036854775807 < x10_2.size + ((Bn t138 x11_2).f1).size) = False := eq_false (Nat.not_lt.2 c23)
          have H' := Aa.mk H
          clear H
          obtain ⟨Ao24, co24, eo24⟩ := Kd.Bd HO_8.out
          subst eo24
          have p144 : 0 ≤ (x11_2 : Int) := of_decide_eq_true zqA
          have q144 : x11_2 < (t138.length : Int) := of_decide_eq_true zqA
          obtain ⟨ad144, e144, hx144_0, hx144_1⟩ := at_T162 (Kd.R_reads' HO_8.out).2.2 x11_2 p144 q144
          (try rw [← Nbq14.out] at hx144_0)
          cases e144
          replace p144 := eq_true p144
          replace q144 := eq_true q144
          have p145 : 0 ≤ (x11_2 : Int) := of_decide_eq_true zqA
          have q145 : x11_2 < (t138.length : Int) := of_decide_eq_true zqA
          obtain ⟨ad145, e145, hx145_0, hx145_1⟩ := at_T162 (Kd.R_reads' HO_8.out).2.2 x11_2 p145 q145
          (try rw [← Nbq14.out] at hx145_0)
          obtain rfl : ad144 = ad145 := (by injection e145)
          replace p145 := eq_true p145
          replace q145 := eq_true q145
          go_wp2
          go_roundg k2
          case measure => have := HJ4.out; have := HK2.out; omega
          case rel => exact ⟨(x10_2 ++ ((Bn t138 x11_2).f1)), (wrap64 (x11_2 + 1)), zqD, zqD, H', ⟨by have := HJ4.out; have := HK2.out; omega⟩, ⟨by (with_reducible repeat (first | apply Kd.Cg | apply Kd.Cc | apply Kd.Cs)); exact HO_8.out⟩, ⟨zqB⟩⟩
         ·rw [if_neg c23] at H
          exact absurd H (by simp)
       ·rw [if_neg c13] at H
        exact absurd H (by simp)
      ·rw [if_neg c12] at H
       have c12b0 : decide (x11_2 < (t138.length : Int)) = false := decide_eq_false c12
       clear c12
       by_cases c25 : (x10_2.size : Int) > 256
       ·rw [if_pos c25] at H
        have c25b0 : decide (256 < (x10_2.size : Int)) = true := decide_eq_true c25
        have c25b1 : decide (256 < x10_2.size) = true := decide_eq_true (by omega)
        clear c25
        simp only [Option.some.injEq, Prod.mk.injEq] at H
        obtain ⟨rfl, rfl⟩ := H
        obtain ⟨Ao26, co26, eo26⟩ := Kd.Bd HO_8.out
        subst eo26
        go_wp2
        go_ret2
        exact ⟨by first | rfl | (simp [Cp, Co] <;> rfl) | (simp [*, Cp, Co] <;> rfl), zqB⟩
       ·rw [if_neg c25] at H
        have c25b0 : decide (256 < (x10_2.size : Int)) = false := decide_eq_false c25
        have c25b1 : decide (256 < x10_2.size) = false := decide_eq_false (by omega)
        clear c25
        simp only [Option.some.injEq, Prod.mk.injEq] at H
        obtain ⟨rfl, rfl⟩ := H
        obtain ⟨Ao27, co27, eo27⟩ := Kd.Bd HO_8.out
        subst eo27
        go_wp2
        go_ret2
        exact ⟨by first | rfl | (simp [Cp, Co] <;> rfl) | (simp [*, Cp, Co] <;> rfl), zqB⟩
end Go.Proofs.YtefheailchihaaaGreatDoor.Print
end
