import Derived.Test.YtbkgcdjbkoeejaaHRef52
import Derived.Test.YtbkgcdjbkoeejaaQScope
/- crucibleref1.Cut, walked. -/
namespace Go.Proofs.Ytbkgcdjbkoeejaa.Print
open Go.RowKit Go.Lib Go.Shelf Go.Proofs.YtbkgcdjbkoeejaaW.PrintWords Go.Proofs.YtbkgcdjbkoeejaaW.PrintLast Go.Proofs.YtbkgcdjbkoeejaaW.PrintMore
set_option linter.unusedVariables false

/-- What stands behind a $ that is a variable: is it in braces, the text from its name on. -/
def braceOf (q : ByteArray) : ByteArray := if hasP q ⟨#[123]⟩ = true then q.extract 1 q.size else q
def okVar (q : ByteArray) : Bool :=
  decide (1 ≤ varLen (braceOf q)) && (decide (varLen (braceOf q) ≤ 16) && (!hasP q ⟨#[123]⟩ || hasP (restOf (braceOf q)) ⟨#[125]⟩))
def varEnd (q : ByteArray) : Nat := varLen (braceOf q) + if hasP q ⟨#[123]⟩ = true then 2 else 0
def refGo : Nat → ByteArray → List S49 → List S49 × Int
  | 0, _, out => (out, 0)
  | k + 1, r, out =>
    if h : 1 ≤ r.size then
      if r[0] ≠ 36 then refGo k (r.extract 1 r.size) (addText out ⟨#[r[0]]⟩)
      else if h2 : 2 ≤ r.size then
        if sgn r[1] = true then refGo k (r.extract 2 r.size) (addText out ⟨#[r[1]]⟩)
        else if okVar (r.extract 1 r.size) = true then
          refGo k (r.extract (1 + varEnd (r.extract 1 r.size)) r.size) (out ++ [⟨true, wordOf (braceOf (r.extract 1 r.size))⟩])
        else ([], 300)
      else ([], 300)
    else (out, 0)
def refOf (s : ByteArray) : List S49 × Int := if plainB s 2048 = true then refGo s.size s [] else ([], 300)

theorem ext_ext (s : ByteArray) (a b : Nat) : (s.extract a s.size).extract b (s.extract a s.size).size = s.extract (a + b) s.size := by
  apply ByteArray.ext
  simp [ByteArray.data_extract, ByteArray.size_extract]
  congr 1
  omega
theorem ext_get (s : ByteArray) (a j : Nat) (h : j < (s.extract a s.size).size) (h' : a + j < s.size) : (s.extract a s.size)[j] = s[a + j] := by
  show (s.extract a s.size).data[j] = s.data[a + j]
  simp [ByteArray.data_extract]
theorem sgn_iff (c : UInt8) : sgn c = true ↔ c = 36 ∨ c = 32 ∨ c = 58 := by
  have : ∀ n : Fin 256, sgn (UInt8.ofNat n) = (UInt8.ofNat n == 36 || UInt8.ofNat n == 32 || UInt8.ofNat n == 58) := by decide +kernel
  have h := this ⟨c.toNat, c.toNat_lt⟩
  simp only [UInt8.ofNat_toNat] at h
  rw [h]
  simp [or_assoc]
theorem data_cons (q : ByteArray) (h : 1 ≤ q.size) : ∃ t, q.data.toList = q[0] :: t := by
  have := drop_cons q 0 (by omega)
  rw [List.drop_zero] at this
  exact ⟨_, this⟩
theorem hasP_one (q : ByteArray) (c : UInt8) : hasP q ⟨#[c]⟩ = if h : 1 ≤ q.size then (q[0] == c) else false := by
  unfold hasP
  split
  · rename_i h
    obtain ⟨t, e⟩ := data_cons q h
    rw [e]
    show (c == q[0] && true) = (q[0] == c)
    rw [Bool.and_true, Bool.beq_comm]
  · rename_i h
    have e : q.data.toList = [] := List.length_eq_zero_iff.1 (by have := Lib.size_eq q; omega)
    rw [e]
    rfl

theorem refGo_end {k : Nat} {r : ByteArray} {out : List S49} {F} (h : refGo k r out = F) (h1 : ¬ 1 ≤ r.size) : F = (out, 0) := by
  rw [← h]
  cases k with
  | zero => rfl
  | succ k => simp only [refGo]; rw [dif_neg h1]
theorem refGo_text {k : Nat} {r : ByteArray} {out : List S49} {F} (h : refGo (k + 1) r out = F) (h1 : 1 ≤ r.size) (hc : r[0] ≠ 36) : refGo k (r.extract 1 r.size) (addText out ⟨#[r[0]]⟩) = F := by
  rw [← h]; simp only [refGo]; rw [dif_pos h1, if_pos hc]
theorem refGo_lone {k : Nat} {r : ByteArray} {out : List S49} {F} (h : refGo (k + 1) r out = F) (h1 : 1 ≤ r.size) (hc : r[0] = 36) (h2 : ¬ 2 ≤ r.size) : F = ([], 300) := by
  rw [← h]; simp only [refGo]; rw [dif_pos h1, if_neg (by rw [hc]; decide), dif_neg h2]
theorem refGo_sign {k : Nat} {r : ByteArray} {out : List S49} {F} (h : refGo (k + 1) r out = F) (h2 : 2 ≤ r.size) (hc : r[0] = 36) (hs : sgn r[1] = true) : refGo k (r.extract 2 r.size) (addText out ⟨#[r[1]]⟩) = F := by
  rw [← h]; simp only [refGo]; rw [dif_pos (by omega), if_neg (by rw [hc]; decide), dif_pos h2, if_pos hs]
theorem refGo_var {k : Nat} {r : ByteArray} {out : List S49} {F} (h : refGo (k + 1) r out = F) (h2 : 2 ≤ r.size) (hc : r[0] = 36) (hs : sgn r[1] = false) :
    (okVar (r.extract 1 r.size) = true → refGo k (r.extract (1 + varEnd (r.extract 1 r.size)) r.size) (out ++ [⟨true, wordOf (braceOf (r.extract 1 r.size))⟩]) = F) ∧ (okVar (r.extract 1 r.size) = false → F = ([], 300)) := by
  rw [← h]; simp only [refGo]; rw [dif_pos (by omega), if_neg (by rw [hc]; decide), dif_pos h2, if_neg (by rw [hs]; decide)]
  exact ⟨fun ho => by rw [if_pos ho], fun ho => by rw [if_neg (by rw [ho]; decide)]⟩


theorem u8_beq (a c : UInt8) : ((a.toNat : Int) == (c.toNat : Int)) = (a == c) := by
  rw [Bool.eq_iff_iff]
  simp only [beq_iff_eq]
  constructor
  · intro h
    exact UInt8.toNat_inj.1 (by omega)
  · rintro rfl; rfl
theorem few_one {N m : Nat} {out : List S49} (t : ByteArray) (h : Few N m out) (ht : t.size = 1) (hm : 1 ≤ m) : Few N (m - 1) (addText out t) := few_text t h (by omega) (by omega)

theorem few_wordx {N m : Nat} {out : List S49} (Z : ByteArray) (n : Nat) (h : Few N m out) (h1 : 1 ≤ n) (hm : n < m) : Few N (m - n) (out ++ [⟨true, Z.extract 0 n⟩]) := by
  have h0 := h.1
  refine ⟨by simp; omega, fun x hx => ?_⟩
  rcases List.mem_append.mp hx with hx | hx
  · have := h.2 x hx; omega
  · simp at hx
    subst hx
    simp
    omega
theorem rest_brace (Z : ByteArray) (n : Nat) (hn : varLen Z = n) : (∀ h : n < Z.size, hasP (restOf Z) ⟨#[125]⟩ = ((Z[n].toNat : Int) == 125)) ∧ (¬ n < Z.size → hasP (restOf Z) ⟨#[125]⟩ = false) := by
  subst hn
  rw [hasP_one]
  have hs : (restOf Z).size = Z.size - varLen Z := by simp [restOf]
  refine ⟨fun h => ?_, fun h => ?_⟩
  · rw [dif_pos (by omega)]
    have : (restOf Z)[0]'(by omega) = Z[varLen Z] := by
      have := ext_get Z (varLen Z) 0 (by unfold restOf at hs; omega) (by omega)
      exact this
    rw [this]
    exact (u8_beq _ 125).symm
  · rw [dif_neg (by omega)]

def RelR (w : World) (s : ByteArray) (F : List S49 × Int) (v4 v5 : Value) (wr : World) : Prop :=
  ∃ (i k : Nat) (out : List S49), v5 = .int .i64 i ∧ i ≤ s.size ∧ Kd.R k49 49 wr w.heap.size (fun _ => True) v4 out ∧ Below w.heap.size w wr ∧ Few 2048 (s.size - i) out ∧ s.size - i ≤ k ∧ refGo k (s.extract i s.size) out = F

set_option maxHeartbeats 4000000 in
set_option maxRecDepth 100000 in
theorem ref36_calls (s : ByteArray) (hs : s.size ≤ 140737488355328) (w : World) :
    Calls Try.prog 25 #[.string s] w fun e w' => ∃ v : Value, e = .returned (.tuple #[v, .int .i64 (refOf s).2]) ∧ Kd.R k49 49 w' w.heap.size (fun _ => True) v (refOf s).1 ∧ Below w.heap.size w w' := by
  have hpl := Lib.hid (fun w => crucibleref1_Plain.calls (s.size + 1) s 0 2048 _ w (refPlain s 2048 hs (s.size + 1) (by omega)))
  cases hp : plainB s 2048
  · have hd : Hid (refOf s = ([], 300)) := by
      unfold refOf
      rw [if_neg (by rw [hp]; decide)]
      exact Lib.hid rfl
    have HP := Lib.hid hp
    clear hp
    go_enter Try.func25, Try.ntmps25
    go_wp2_with fail
    refine (hpl.out _).mono ?_
    rintro e w' ⟨rfl, ⟨nd, rfl⟩⟩
    rw [HP.out]
    go_wp2_with fail
    refine bodyPost_ret (v := .tuple #[.slice none 0 0, .int .i64 300]) (by simp [results, Try.results25, go_sem]) rfl ?_
    rw [hd.out]
    exact ⟨_, rfl, Kd.R_nil _ _ _ _ _, pw_below_drewN (Below.refl _ _) _⟩
  · have h48 : s.size ≤ 2048 := by
      unfold plainB at hp
      simp at hp
      omega
    obtain ⟨F, hF⟩ : ∃ F, refGo s.size s [] = F := ⟨_, rfl⟩
    have hd : Hid (refOf s = F) := by
      unfold refOf
      rw [if_pos hp, hF]
      exact Lib.hid rfl
    have HP := Lib.hid hp
    have HF := Aside0.mk hF
    clear hp hF
    go_enter Try.func25, Try.ntmps25
    go_wp2_with fail
    refine (hpl.out _).mono ?_
    rintro e w' ⟨rfl, ⟨nd, rfl⟩⟩
    rw [HP.out]
    go_wp2_with fail
    go_loopw [4, 5, 6, 7, 8] (fun v4 v5 v6 v7 v8 wr => RelR w s F v4 v5 wr) (fun v4 v5 v6 v7 v8 _ => s.size - (intOf v5).toNat)
    case atStart =>
      exact ⟨0, s.size, [], rfl, by omega, Kd.R_nil _ _ _ _ _, pw_below_drewN (Below.refl _ _) _, ⟨by simp; omega, fun x hx => by simp at hx⟩, by omega, by rw [show s.extract 0 s.size = s from ByteArray.extract_zero_size]; exact HF.out⟩
    case round =>
      obtain ⟨i, k, out, rfl, hi, hR, hbel, hfew, hk, hgo⟩ := hrel
      have HR := Aside0.mk hR
      have HBEL := Aside0.mk hbel
      have HFEW := Aside0.mk hfew
      have HGO := Aside0.mk hgo
      have hol : out.length < 5864062014805 := by have := hfew.1; omega
      obtain ⟨A, c, hv, hlc, hC⟩ := Kd.R_reads hR
      subst hv
      clear hR hbel hfew hgo hC HF
      by_cases hlt : i < s.size
      · obtain ⟨j, rfl⟩ : ∃ j, k = j + 1 := ⟨k - 1, by omega⟩
        have hrs : (s.extract i s.size).size = s.size - i := by simp
        have hr0 : ∀ h, (s.extract i s.size)[0]'h = s[i] := fun h => by rw [ext_get s i 0 h (by omega)]; rfl
        by_cases hc : s[i] = 36
        · have hcb : ((s[i].toNat : Int) == 36) = true := by rw [hc]; rfl
          have hz : Hid (0 < out.length → (rd_T49 out ((out.length - 1 : Nat) : Int)).f1.size < 9223372036854775807) := Lib.hid fun h0 => by
            have := few_last HFEW.out h0
            omega
          by_cases h2 : i + 1 < s.size
          · have hr1 : ∀ h, (s.extract i s.size)[1]'h = s[i + 1] := fun h => by rw [ext_get s i 1 h (by omega)]
            have hq0 : ∀ h, (s.extract (i + 1) s.size)[0]'h = s[i + 1] := fun h => by rw [ext_get s (i + 1) 0 h (by omega)]
            have h22 : 2 ≤ (s.extract i s.size).size := by omega
            have hsg := fun (h : sgn (s.extract i s.size)[1] = true) => refGo_sign HGO.out (by omega) (by rw [hr0]; exact hc) h
            have hvr := fun (h : sgn (s.extract i s.size)[1] = false) => refGo_var HGO.out (by omega) (by rw [hr0]; exact hc) h
            rw [hr1, ext_ext] at hsg
            rw [hr1, ext_ext, ext_ext] at hvr
            obtain ⟨q, hq⟩ : ∃ q, s.extract (i + 1) s.size = q := ⟨_, rfl⟩
            have hqs : q.size + (i + 1) = s.size := by rw [← hq]; simp; omega
            rw [hq] at hvr
            have hq1 : q[0] = s[i + 1] := by subst hq; exact hq0 _
            rw [← hq1] at hsg hvr
            have HQ := Lib.hid hq
            have hn : ¬ q.toList = [] := size_some (by omega)
            have HNE : Hid (¬ q.toList.isEmpty = true) := Lib.hid (by simpa using hn)
            clear hr0 hr1 hq0 hq hrs HGO
            go_upto_region 10 with (fail)
            rw [HQ.out]
            clear HQ hq1 hcb hc
            by_cases hs0 : sgn q[0] = true
            · have hsg2 := hsg hs0
              rw [show i + 2 = i + 2 from rfl] at hsg2
              rcases (sgn_iff _).1 hs0 with e | e | e
              · have b : ((q[0].toNat : Int) == 36) = true := by rw [e]; rfl
                rw [e] at hsg2
                have HG := Aside0.mk hsg2
                clear hsg2 hsg hvr hs0
                skip
                go_wp2_with (first | (go_at_call 36; refine (rtext_calls w.heap.size _ out 36 _ HR.out HBEL.out.size hol hz.out).mono ?_; rintro e w3 ⟨v3, rfl, hR3, hb3⟩))
                · exact ⟨⟨i + 2, j, _, by go_num, by omega, hR3, HBEL.out.trans hb3, few_le (few_one ⟨#[36]⟩ HFEW.out rfl (by omega)) (by omega), by omega, HG.out⟩, by simp [intOf]; omega⟩
                all_goals (rename_i hx; exact absurd hx HNE.out)
              · have b : ((q[0].toNat : Int) == 32) = true := by rw [e]; rfl
                rw [e] at hsg2
                have HG := Aside0.mk hsg2
                clear hsg2 hsg hvr hs0
                have b36 : ((q[0].toNat : Int) == 36) = false := by rw [e]; rfl
                go_wp2_with (first | (go_at_call 36; refine (rtext_calls w.heap.size _ out 32 _ HR.out HBEL.out.size hol hz.out).mono ?_; rintro e w3 ⟨v3, rfl, hR3, hb3⟩))
                · exact ⟨⟨i + 2, j, _, by go_num, by omega, hR3, HBEL.out.trans hb3, few_le (few_one ⟨#[32]⟩ HFEW.out rfl (by omega)) (by omega), by omega, HG.out⟩, by simp [intOf]; omega⟩
                all_goals (rename_i hx; exact absurd hx HNE.out)
              · have b : ((q[0].toNat : Int) == 58) = true := by rw [e]; rfl
                rw [e] at hsg2
                have HG := Aside0.mk hsg2
                clear hsg2 hsg hvr hs0
                have b36 : ((q[0].toNat : Int) == 36) = false := by rw [e]; rfl
                have b32 : ((q[0].toNat : Int) == 32) = false := by rw [e]; rfl
                go_wp2_with (first | (go_at_call 36; refine (rtext_calls w.heap.size _ out 58 _ HR.out HBEL.out.size hol hz.out).mono ?_; rintro e w3 ⟨v3, rfl, hR3, hb3⟩))
                · exact ⟨⟨i + 2, j, _, by go_num, by omega, hR3, HBEL.out.trans hb3, few_le (few_one ⟨#[58]⟩ HFEW.out rfl (by omega)) (by omega), by omega, HG.out⟩, by simp [intOf]; omega⟩
                all_goals (rename_i hx; exact absurd hx HNE.out)
            · have hs1 : sgn q[0] = false := by simpa using hs0
              have hvr2 := hvr hs1
              have n36 : q[0] ≠ 36 := fun e => hs0 ((sgn_iff _).2 (Or.inl e))
              have n32 : q[0] ≠ 32 := fun e => hs0 ((sgn_iff _).2 (Or.inr (Or.inl e)))
              have n58 : q[0] ≠ 58 := fun e => hs0 ((sgn_iff _).2 (Or.inr (Or.inr e)))
              have b36 : ((q[0].toNat : Int) == 36) = false := by rw [show ((q[0].toNat : Int) == 36) = (q[0] == 36) from u8_beq q[0] 36]; simpa using n36
              have b32 : ((q[0].toNat : Int) == 32) = false := by rw [show ((q[0].toNat : Int) == 32) = (q[0] == 32) from u8_beq q[0] 32]; simpa using n32
              have b58 : ((q[0].toNat : Int) == 58) = false := by rw [show ((q[0].toNat : Int) == 58) = (q[0] == 58) from u8_beq q[0] 58]; simpa using n58
              have hbr := hasP_one q 123
              rw [dif_pos (show 1 ≤ q.size by omega)] at hbr
              have hbi : ((q[0].toNat : Int) == 123) = hasP q ⟨#[123]⟩ := by rw [hbr]; exact u8_beq q[0] 123
              have hok : Hid (okVar q = (decide (1 ≤ varLen (braceOf q)) && (decide (varLen (braceOf q) ≤ 16) && (!hasP q ⟨#[123]⟩ || hasP (restOf (braceOf q)) ⟨#[125]⟩)))) := rfl
              have hZd : Hid (braceOf q = if hasP q ⟨#[123]⟩ = true then q.extract 1 q.size else q) := rfl
              have hve : Hid (varEnd q = varLen (braceOf q) + if hasP q ⟨#[123]⟩ = true then 2 else 0) := rfl
              have hvl := varLen_le (braceOf q)
              have hwo : Hid (wordOf (braceOf q) = (braceOf q).extract 0 (varLen (braceOf q))) := rfl
              clear hvr hsg hs0 hs1 n36 n32 n58 hbr
              obtain ⟨Z, hZ⟩ : ∃ Z, braceOf q = Z := ⟨_, rfl⟩
              rw [hZ] at hok hve hvl hwo hZd hvr2
              rw [hve.out, hwo.out] at hvr2
              have VC := Lib.hid (fun (w : World) (h : Z.size ≤ 140737488355328) => rvariable_calls Z h w)
              obtain ⟨n, hnn⟩ : ∃ n, varLen Z = n := ⟨_, rfl⟩
              have hrs2 := rest_brace Z n hnn
              have HRS := Lib.hid hrs2
              simp only [hnn] at hok hve hvl hwo hvr2 VC
              clear hnn hZ hve hwo hrs2
              cases hb : hasP q ⟨#[123]⟩
              · simp only [hb] at hok hZd hvr2 hbi
                obtain rfl : Z = q := by simpa using hZd.out
                have hok2 : okVar Z = (decide (1 ≤ n) && decide (n ≤ 16)) := by rw [hok.out]; simp
                clear hZd hok HRS hb
                go_wp2_with fail
                · refine (VC.out _ (by omega)).mono ?_
                  rintro e w3 ⟨rfl, n3, rfl⟩
                  by_cases h1 : 1 ≤ n
                  · by_cases h16 : n ≤ 16
                    · have hV := hvr2.1 (by rw [hok2]; simp [h1, h16])
                      have HV := Aside0.mk hV
                      clear hvr2 hok2 hV
                      go_wp2_with (first | ((with_reducible refine gate_builtin (b := .append) (xs := #[.tmp 81, .tmp 86]) rfl ?_); at_builtin; refine Kd.R_append k49 (w0 := w) w.heap.size rfl (.tmp 81) (.tmp 86) 41 49 (.agg #[(.bool false), (.string ⟨#[]⟩)]) 24 rfl Try.underlying41 info49 rfl (by decide) (by omega) (.slice A out.length c) out (⟨true, Z.extract 0 n⟩ : S49) [.bool true, .string (Z.extract 0 n)] (fun _ => True) (fun _ => False) rfl (by first | rfl | (simp [Act.eval]; done)) (k49_mkM _ _ _ (⟨true, Z.extract 0 n⟩ : S49)) (fun _ hk => hk.elim) (fun k hk => trivial) (Kd.R_drewN HR.out _) (pw_below_drewN HBEL.out _) (pw_below_drewN HBEL.out _).size ?aL ?_; (case aL => omega); intro v5 w5 ho5 hb5 hg hat; clear hat hg))
                      exact ⟨⟨i + (1 + (n + 0)), j, _, by go_num, by omega, ho5, hb5, few_le (few_wordx (N := 2048) (m := s.size - i) Z n HFEW.out (by omega) (by omega)) (by omega), by omega, HV.out⟩, by simp [intOf]; omega⟩
                    · have hV := hvr2.2 (by rw [hok2]; simp [h16])
                      rw [hV] at hd
                      clear hvr2 hok2 hV
                      go_wp2_with fail
                      refine bodyPost_ret (v := .tuple #[.slice none 0 0, .int .i64 300]) (by simp [results, Try.results25, go_sem]) rfl ?_
                      rw [hd.out]
                      exact ⟨_, rfl, Kd.R_nil _ _ _ _ _, pw_below_drewN HBEL.out _⟩
                  · have hV := hvr2.2 (by rw [hok2]; simp [h1])
                    rw [hV] at hd
                    clear hvr2 hok2 hV
                    go_wp2_with fail
                    refine bodyPost_ret (v := .tuple #[.slice none 0 0, .int .i64 300]) (by simp [results, Try.results25, go_sem]) rfl ?_
                    rw [hd.out]
                    exact ⟨_, rfl, Kd.R_nil _ _ _ _ _, pw_below_drewN HBEL.out _⟩
                all_goals (rename_i hx; exact absurd hx HNE.out)
              · simp only [hb] at hok hZd hvr2 hbi
                have hZe : q.extract 1 q.size = Z := by have := hZd.out; simp at this; exact this.symm
                have hZs : Z.size + 1 = q.size := by rw [← hZe]; simp; omega
                have HZE := Lib.hid hZe
                have hok2 : okVar q = (decide (1 ≤ n) && (decide (n ≤ 16) && hasP (restOf Z) ⟨#[125]⟩)) := by rw [hok.out]; simp
                clear hZd hok hb hZe
                go_wp2_with fail
                · rw [HZE.out]
                  refine (VC.out _ (by omega)).mono ?_
                  rintro e w3 ⟨rfl, n3, rfl⟩
                  by_cases h1 : 1 ≤ n
                  · by_cases h16 : n ≤ 16
                    · by_cases hnz : n < Z.size
                      · have hh := HRS.out.1 hnz
                        rw [hh] at hok2
                        have hne : ¬ ((n : Int) = (Z.size : Int)) := by omega
                        cases hch : ((Z[n].toNat : Int) == 125)
                        · have hV := hvr2.2 (by rw [hok2, hch]; simp)
                          have hch2 : ((Z[n].toNat : Int) != 125) = true := by rw [bne, hch]; rfl
                          have hch3 : ¬ ((Z[n].toNat : Int) != 125) = false := by rw [hch2]; decide
                          rw [hV] at hd
                          clear hvr2 hok2 hV hh
                          go_wp2_with fail
                          refine bodyPost_ret (v := .tuple #[.slice none 0 0, .int .i64 300]) (by simp [results, Try.results25, go_sem]) rfl ?_
                          rw [hd.out]
                          exact ⟨_, rfl, Kd.R_nil _ _ _ _ _, pw_below_drewN HBEL.out _⟩
                        · have hV := hvr2.1 (by rw [hok2, hch]; simp [h1, h16])
                          have hch2 : ((Z[n].toNat : Int) != 125) = false := by rw [bne, hch]; rfl
                          have hne2 : ((n : Int) == (Z.size : Int)) = false := by simpa using hne
                          have HV := Aside0.mk hV
                          clear hvr2 hok2 hV hh
                          go_wp2_with (first | ((with_reducible refine gate_builtin (b := .append) (xs := #[.tmp 81, .tmp 86]) rfl ?_); at_builtin; refine Kd.R_append k49 (w0 := w) w.heap.size rfl (.tmp 81) (.tmp 86) 41 49 (.agg #[(.bool false), (.string ⟨#[]⟩)]) 24 rfl Try.underlying41 info49 rfl (by decide) (by omega) (.slice A out.length c) out (⟨true, Z.extract 0 n⟩ : S49) [.bool true, .string (Z.extract 0 n)] (fun _ => True) (fun _ => False) rfl (by first | rfl | (simp [Act.eval]; done)) (k49_mkM _ _ _ (⟨true, Z.extract 0 n⟩ : S49)) (fun _ hk => hk.elim) (fun k hk => trivial) (Kd.R_drewN HR.out _) (pw_below_drewN HBEL.out _) (pw_below_drewN HBEL.out _).size ?aL ?_; (case aL => omega); intro v5 w5 ho5 hb5 hg hat; clear hat hg))
                          exact ⟨⟨i + (1 + (n + 2)), j, _, by go_num, by omega, ho5, hb5, few_le (few_wordx (N := 2048) (m := s.size - i) Z n HFEW.out (by omega) (by omega)) (by omega), by omega, HV.out⟩, by simp [intOf]; omega⟩
                      · have hh := HRS.out.2 hnz
                        have hV := hvr2.2 (by rw [hok2, hh]; simp)
                        rw [hV] at hd
                        have hne : ((n : Int) = (Z.size : Int)) := by omega
                        clear hvr2 hok2 hV hh
                        go_wp2_with fail
                        refine bodyPost_ret (v := .tuple #[.slice none 0 0, .int .i64 300]) (by simp [results, Try.results25, go_sem]) rfl ?_
                        rw [hd.out]
                        exact ⟨_, rfl, Kd.R_nil _ _ _ _ _, pw_below_drewN HBEL.out _⟩
                    · have hV := hvr2.2 (by rw [hok2]; simp [h16])
                      rw [hV] at hd
                      clear hvr2 hok2 hV
                      go_wp2_with fail
                      refine bodyPost_ret (v := .tuple #[.slice none 0 0, .int .i64 300]) (by simp [results, Try.results25, go_sem]) rfl ?_
                      rw [hd.out]
                      exact ⟨_, rfl, Kd.R_nil _ _ _ _ _, pw_below_drewN HBEL.out _⟩
                  · have hV := hvr2.2 (by rw [hok2]; simp [h1])
                    rw [hV] at hd
                    clear hvr2 hok2 hV
                    go_wp2_with fail
                    refine bodyPost_ret (v := .tuple #[.slice none 0 0, .int .i64 300]) (by simp [results, Try.results25, go_sem]) rfl ?_
                    rw [hd.out]
                    exact ⟨_, rfl, Kd.R_nil _ _ _ _ _, pw_below_drewN HBEL.out _⟩
                all_goals (rename_i hx; exact absurd hx HNE.out)
          · have hFe := refGo_lone HGO.out (by omega) (by rw [hr0]; exact hc) (by omega)
            rw [hFe] at hd
            have hqe : s.extract (i + 1) s.size = ⟨#[]⟩ := by
              apply ByteArray.ext
              apply Array.eq_empty_of_size_eq_zero
              simp
              have : s.size = s.data.size := rfl
              omega
            have HQE := Lib.hid hqe
            clear hFe hqe HGO
            go_upto_region 10 with (fail)
            rw [HQE.out]
            go_wp2_with fail
            refine bodyPost_ret (v := .tuple #[.slice none 0 0, .int .i64 300]) (by simp [results, Try.results25, go_sem]) rfl ?_
            rw [hd.out]
            exact ⟨_, rfl, Kd.R_nil _ _ _ _ _, HBEL.out⟩
        · have hcb : ((s[i].toNat : Int) == 36) = false := by
            have := u8_beq s[i] 36
            rw [show ((36 : UInt8).toNat : Int) = 36 from rfl] at this
            rw [this]
            simpa using hc
          have hgo := refGo_text HGO.out (by omega) (by rw [hr0]; exact hc)
          rw [ext_ext, hr0] at hgo
          have hf := few_one ⟨#[s[i]]⟩ HFEW.out rfl (by omega)
          have hz : Hid (0 < out.length → (rd_T49 out ((out.length - 1 : Nat) : Int)).f1.size < 9223372036854775807) := Lib.hid fun h0 => by
            have := few_last HFEW.out h0
            omega
          have HG := Aside0.mk hgo
          have HW := Aside0.mk hf
          clear hgo hf HGO hrs hr0
          go_wp2_with (first | (go_at_call 36; refine (rtext_calls w.heap.size _ out s[i] _ HR.out HBEL.out.size hol hz.out).mono ?_; rintro e w3 ⟨v3, rfl, hR3, hb3⟩))
          exact ⟨⟨i + 1, j, _, by go_num, by omega, hR3, HBEL.out.trans hb3, by rw [show s.size - (i + 1) = s.size - i - 1 by omega]; exact HW.out, by omega, HG.out⟩, by simp [intOf]; omega⟩
      · have hFe := refGo_end HGO.out (by simp; omega)
        rw [hFe] at hd
        clear hFe HGO
        go_wp2_with fail
        refine bodyPost_ret (v := .tuple #[.slice A out.length c, .int .i64 0]) (by simp [results, Try.results25, go_sem]) rfl ?_
        rw [hd.out]
        exact ⟨_, rfl, HR.out, HBEL.out⟩
end Go.Proofs.Ytbkgcdjbkoeejaa.Print

/- The contracts of pieces.Cut and crucibleref1.Cut, in the print's form. -/
namespace Go.Proofs.Ytbkgcdjbkoeejaa.Print
open Go.RowKit Go.Lib Go.Shelf Go.Proofs.YtbkgcdjbkoeejaaW.PrintWords Go.Proofs.YtbkgcdjbkoeejaaW.PrintLast Go.Proofs.YtbkgcdjbkoeejaaW.PrintMore

def pieces_Cut.f (a0 : ByteArray) : Option (List S49 × Int) := if a0.size ≤ 140737488355328 then some (cutOf a0) else none
theorem pieces_Cut.calls (a0 : ByteArray) (r1 : List S49) (r2 : Int) (w : World) (h : pieces_Cut.f a0 = some (r1, r2)) :
    Calls Try.prog 18 #[.string a0] w fun e w' => ∃ v0_ : Value, e = .returned (.tuple #[v0_, .int .i64 r2]) ∧ Kd.R k49 49 w' w.heap.size (fun _ => True) v0_ r1 ∧ Below w.heap.size w w' := by
  unfold pieces_Cut.f at h
  split at h
  · rename_i hs
    injection h with h
    have := cut35_calls a0 (by omega) w
    rw [h] at this
    exact this
  · exact absurd h (by simp)
def crucibleref1_Cut.f (a0 : ByteArray) : Option (List S49 × Int) := if a0.size ≤ 140737488355328 then some (refOf a0) else none
theorem crucibleref1_Cut.calls (a0 : ByteArray) (r1 : List S49) (r2 : Int) (w : World) (h : crucibleref1_Cut.f a0 = some (r1, r2)) :
    Calls Try.prog 25 #[.string a0] w fun e w' => ∃ v0_ : Value, e = .returned (.tuple #[v0_, .int .i64 r2]) ∧ Kd.R k49 49 w' w.heap.size (fun _ => True) v0_ r1 ∧ Below w.heap.size w w' := by
  unfold crucibleref1_Cut.f at h
  split at h
  · rename_i hs
    injection h with h
    have := ref36_calls a0 (by omega) w
    rw [h] at this
    exact this
  · exact absurd h (by simp)
end Go.Proofs.Ytbkgcdjbkoeejaa.Print

/- pieces.Cut and the document's reference cut each text alike. -/
namespace Go.Proofs.Ytbkgcdjbkoeejaa.Print
open Go.RowKit Go.Lib Go.Shelf Go.Proofs.YtbkgcdjbkoeejaaW.PrintWords Go.Proofs.YtbkgcdjbkoeejaaW.PrintLast Go.Proofs.YtbkgcdjbkoeejaaW.PrintMore

theorem rd57_last (out : List S49) (x : S49) : rd_T49 (out ++ [x]) (((out ++ [x]).length - 1 : Nat) : Int) = x := by
  simp [rd_T49]
theorem rd57_set (out : List S49) (x : S49) (h : 0 < out.length) : rd_T49 (out.set (out.length - 1) x) (((out.set (out.length - 1) x).length - 1 : Nat) : Int) = x := by
  simp [rd_T49, List.length_set, List.getD_eq_getElem?_getD, List.getElem?_set]
  rw [if_pos (by omega)]
  rfl
theorem addText_addText (out : List S49) (a b : ByteArray) : addText (addText out a) b = addText out (a ++ b) := by
  by_cases h : 0 < out.length ∧ (rd_T49 out ((out.length - 1 : Nat) : Int)).f0 = false
  · have e : addText out a = out.set (out.length - 1) ⟨(rd_T49 out ((out.length - 1 : Nat) : Int)).f0, (rd_T49 out ((out.length - 1 : Nat) : Int)).f1 ++ a⟩ := by unfold addText; rw [if_pos h]
    have e2 : addText out (a ++ b) = out.set (out.length - 1) ⟨(rd_T49 out ((out.length - 1 : Nat) : Int)).f0, (rd_T49 out ((out.length - 1 : Nat) : Int)).f1 ++ (a ++ b)⟩ := by unfold addText; rw [if_pos h]
    rw [e, e2]
    unfold addText
    rw [rd57_set _ _ h.1, if_pos ⟨by rw [List.length_set]; exact h.1, h.2⟩]
    simp only [List.length_set, List.set_set]
    rw [ByteArray.append_assoc]
  · have e : addText out a = out ++ [⟨false, a⟩] := by unfold addText; rw [if_neg h]
    have e2 : addText out (a ++ b) = out ++ [⟨false, a ++ b⟩] := by unfold addText; rw [if_neg h]
    rw [e, e2]
    unfold addText
    rw [rd57_last, if_pos ⟨by simp, rfl⟩]
    simp
theorem ext_first (s : ByteArray) (h : 1 ≤ s.size) : s.extract 0 1 = ⟨#[s[0]]⟩ := by
  apply ByteArray.ext
  apply Array.ext
  · simp; omega
  · intro i h1 h2
    simp at h2
    subst h2
    simp
    rfl
theorem textIf_add (out : List S49) (s : ByteArray) (i : Nat) (h : 1 ≤ s.size) (hi : i + 1 ≤ s.size) :
    textIf (addText out ⟨#[s[0]]⟩) ((s.extract 1 s.size).extract 0 i) = textIf out (s.extract 0 (i + 1)) := by
  have e : s.extract 0 1 ++ (s.extract 1 s.size).extract 0 i = s.extract 0 (i + 1) := by
    apply ByteArray.ext
    simp [ByteArray.data_extract]
    congr 1
    omega
  have hz : (s.extract 0 (i + 1)).size = i + 1 := by simp; omega
  have hz2 : ((s.extract 1 s.size).extract 0 i).size = i := by simp; omega
  have r : textIf out (s.extract 0 (i + 1)) = addText out (s.extract 0 (i + 1)) := by unfold textIf; rw [if_pos (by omega)]
  rw [r, ← e, ext_first s h]
  unfold textIf
  split
  · rw [addText_addText]
  · rename_i h0
    have : (s.extract 1 s.size).extract 0 i = ⟨#[]⟩ := by
      apply ByteArray.ext
      exact Array.eq_empty_of_size_eq_zero (by have : ((s.extract 1 s.size).extract 0 i).data.size = ((s.extract 1 s.size).extract 0 i).size := rfl; omega)
    rw [this]
    rfl
theorem refGo_prefix : ∀ (i k : Nat) (s : ByteArray) (out : List S49), (∀ j (h : j < s.size), j < i → s[j] ≠ 36) → i ≤ s.size → i ≤ k →
    refGo k s out = refGo (k - i) (s.extract i s.size) (textIf out (s.extract 0 i)) := by
  intro i
  induction i with
  | zero =>
    intro k s out _ _ _
    rw [show s.extract 0 s.size = s from ByteArray.extract_zero_size]
    have : (s.extract 0 0).size = 0 := by simp
    unfold textIf
    rw [if_neg (by omega)]
    rfl
  | succ i ih =>
    intro k s out hj hi hk
    obtain ⟨k, rfl⟩ : ∃ k', k = k' + 1 := ⟨k - 1, by omega⟩
    have h1 : 1 ≤ s.size := by omega
    have := refGo_text (k := k) (r := s) (out := out) rfl h1 (hj 0 (by omega) (by omega))
    rw [← this, ih k (s.extract 1 s.size) _ (fun j h hji => by
      rw [ext_get s 1 j h (by simp at h; omega)]
      exact hj (1 + j) _ (by omega)) (by simp; omega) (by omega), ext_ext, textIf_add out s i h1 (by omega)]
    rw [show k + 1 - (i + 1) = k - i by omega, show 1 + i = i + 1 by omega]
theorem cutGo_bad (k : Nat) (rest : ByteArray) (out : List S49) : cutGo k rest out true = (out, true) := by
  cases k with
  | zero => rfl
  | succ k => simp [cutGo]
theorem varLen_empty (q : ByteArray) (h : ¬ 1 ≤ q.size) : varLen q = 0 := by
  have := varLen_le q
  omega
theorem hasP_nil (q : ByteArray) : hasP q ⟨#[]⟩ = true := by
  unfold hasP Lib.hasPrefix
  simp
theorem trimP_nil (q : ByteArray) : trimP q ⟨#[]⟩ = q := by
  unfold trimP Lib.trimPrefix
  have := hasP_nil q
  unfold hasP at this
  rw [if_pos this]
  simp
theorem trimP_one (q : ByteArray) (c : UInt8) (h : hasP q ⟨#[c]⟩ = true) : trimP q ⟨#[c]⟩ = q.extract 1 q.size := by
  unfold trimP Lib.trimPrefix
  unfold hasP at h
  rw [if_pos h]
  apply ByteArray.ext
  simp [ByteArray.data_extract]
  apply Array.ext'
  rw [Array.toList_extract, List.extract, ← List.drop_one, List.take_of_length_le (by rw [List.length_drop]; have := Lib.size_eq q; omega)]

theorem few_some (out : List S49) (m : Nat) : ∃ N, Few N m out := by
  induction out with
  | nil => exact ⟨m, by simp, fun x hx => by simp at hx⟩
  | cons y ys ih =>
    obtain ⟨N, h1, h2⟩ := ih
    refine ⟨N + 1 + y.f1.size, by simp; omega, fun x hx => ?_⟩
    rcases List.mem_cons.1 hx with rfl | hx
    · omega
    · have := h2 x hx; omega
theorem sign_le (rest : ByteArray) (out : List S49) : (signStep rest out).1.size ≤ rest.size := by
  obtain ⟨N, h⟩ := few_some out rest.size
  exact (few_sign rest h).2

/-- A sign, as the reference takes it. -/
theorem sign_ref (k : Nat) (r : ByteArray) (out : List S49) (h1 : 1 ≤ r.size) (hc : r[0] = 36) :
    ((signStep (r.extract 1 r.size) out).2.2 = true ∧ refGo (k + 1) r out = ([], 300)) ∨
    ((signStep (r.extract 1 r.size) out).2.2 = false ∧ refGo (k + 1) r out = refGo k (signStep (r.extract 1 r.size) out).1 (signStep (r.extract 1 r.size) out).2.1) := by
  have hqs : (r.extract 1 r.size).size = r.size - 1 := by simp
  by_cases h2 : 2 ≤ r.size
  · have hq0 : (r.extract 1 r.size)[0]'(by omega) = r[1] := by rw [ext_get r 1 0 (by omega) (by omega)]
    by_cases hs : sgn r[1] = true
    · have e : signStep (r.extract 1 r.size) out = ((r.extract 1 r.size).extract 1 (r.extract 1 r.size).size, addText out ((r.extract 1 r.size).extract 0 1), false) := by
        unfold signStep
        rw [dif_pos (by omega), if_pos (by rw [hq0]; exact hs)]
      rw [e, ext_ext, ext_first _ (by omega), hq0]
      exact Or.inr ⟨rfl, (refGo_sign (k := k) rfl h2 hc hs).symm⟩
    · have hs' : sgn r[1] = false := by simpa using hs
      obtain ⟨v1, v2⟩ := refGo_var (k := k) (r := r) (out := out) rfl h2 hc hs'
      have hext : ∀ b, (r.extract 1 r.size).extract b (r.extract 1 r.size).size = r.extract (1 + b) r.size := fun b => ext_ext r 1 b
      have hq1 : ∀ h : 1 ≤ (r.extract 1 r.size).size, (r.extract 1 r.size)[0] = r[1] := fun _ => hq0
      have hst : signStep (r.extract 1 r.size) out = if hasP (r.extract 1 r.size) ⟨#[123]⟩ = true then varStep ((r.extract 1 r.size).extract 1 (r.extract 1 r.size).size) out ⟨#[125]⟩ else varStep (r.extract 1 r.size) out ⟨#[]⟩ := by
        unfold signStep
        rw [dif_pos (by omega), if_neg (by rw [hq0]; exact hs)]
      rw [hst]
      clear hst hq1 hq0
      generalize r.extract 1 r.size = q at *
      have hokd : okVar q = (decide (1 ≤ varLen (braceOf q)) && (decide (varLen (braceOf q) ≤ 16) && (!hasP q ⟨#[123]⟩ || hasP (restOf (braceOf q)) ⟨#[125]⟩))) := rfl
      have hved : varEnd q = varLen (braceOf q) + if hasP q ⟨#[123]⟩ = true then 2 else 0 := rfl
      have hbd : braceOf q = if hasP q ⟨#[123]⟩ = true then q.extract 1 q.size else q := rfl
      have hvs : ∀ (Z e : ByteArray), varStep Z out e = if (hasP (restOf Z) e && (decide (1 ≤ (wordOf Z).size) && decide ((wordOf Z).size ≤ 16))) = true then (trimP (restOf Z) e, out ++ [⟨true, wordOf Z⟩], false) else (trimP (restOf Z) e, out, true) := fun _ _ => rfl
      have hws : ∀ Z, (wordOf Z).size = varLen Z := fun Z => by have := varLen_le Z; simp [wordOf]; omega
      by_cases hb : hasP q ⟨#[123]⟩ = true
      · rw [if_pos hb] at hved hbd ⊢
        rw [hb, hbd] at hokd
        rw [hbd] at hved v1
        rw [hvs, hws]
        have hz := varLen_le (q.extract 1 q.size)
        by_cases hg : (hasP (restOf (q.extract 1 q.size)) ⟨#[125]⟩ && (decide (1 ≤ varLen (q.extract 1 q.size)) && decide (varLen (q.extract 1 q.size) ≤ 16))) = true
        · rw [if_pos hg]
          simp only [Bool.and_eq_true, decide_eq_true_eq] at hg
          have := v1 (by rw [hokd]; simp [hg.1, hg.2.1, hg.2.2])
          refine Or.inr ⟨rfl, ?_⟩
          rw [← this, hved]
          simp only []
          rw [trimP_one _ _ hg.1, show (restOf (q.extract 1 q.size)) = (q.extract 1 q.size).extract (varLen (q.extract 1 q.size)) (q.extract 1 q.size).size from rfl, ext_ext (q.extract 1 q.size) (varLen (q.extract 1 q.size)) 1, ext_ext q 1 (varLen (q.extract 1 q.size) + 1), hext (1 + (varLen (q.extract 1 q.size) + 1))]
          congr 2
          omega
        · rw [if_neg hg]
          refine Or.inl ⟨rfl, v2 ?_⟩
          rw [hokd]
          rw [Bool.not_eq_true] at hg
          rw [← hg]
          simp [Bool.and_comm, Bool.and_left_comm]
      · rw [if_neg hb] at hved hbd ⊢
        rw [Bool.not_eq_true] at hb
        rw [hb, hbd] at hokd
        rw [hbd] at hved v1
        rw [hvs, hws, hasP_nil, Bool.true_and]
        by_cases hg : (decide (1 ≤ varLen q) && decide (varLen q ≤ 16)) = true
        · rw [if_pos hg]
          simp only [Bool.and_eq_true, decide_eq_true_eq] at hg
          have := v1 (by rw [hokd]; simp [hg.1, hg.2])
          refine Or.inr ⟨rfl, ?_⟩
          rw [← this, hved]
          simp only []
          rw [trimP_nil, show restOf q = q.extract (varLen q) q.size from rfl, hext]
          congr 2
        · rw [if_neg hg]
          refine Or.inl ⟨rfl, v2 ?_⟩
          rw [hokd]
          rw [Bool.not_eq_true] at hg
          simp only [Bool.not_false, Bool.true_or, Bool.and_true]
          exact hg
  · have e : signStep (r.extract 1 r.size) out = varStep (r.extract 1 r.size) out ⟨#[]⟩ := by
      unfold signStep
      rw [dif_neg (by omega)]
    have hw : (wordOf (r.extract 1 r.size)).size = 0 := by
      unfold wordOf
      rw [varLen_empty _ (by omega)]
      simp
    have e2 : (varStep (r.extract 1 r.size) out ⟨#[]⟩).2.2 = true := by
      unfold varStep
      rw [if_neg (by simp [hw])]
    rw [e]
    exact Or.inl ⟨e2, refGo_lone (k := k) rfl h1 hc h2⟩

def asAnswer (F : List S49 × Bool) : List S49 × Int := if F.2 = true then ([], 300) else (F.1, 0)
theorem cut_ref : ∀ (m k j : Nat) (rest : ByteArray) (out : List S49), rest.size ≤ m → rest.size ≤ k → rest.size ≤ j → asAnswer (cutGo k rest out false) = refGo j rest out := by
  intro m
  induction m with
  | zero =>
    intro k j rest out hm _ _
    rw [cutGo_done (k := k) rfl (by omega), refGo_end (k := j) rfl (by omega)]
    rfl
  | succ m ih =>
    intro k j rest out hm hk hj
    by_cases h1 : 1 ≤ rest.size
    · obtain ⟨k, rfl⟩ : ∃ k', k = k' + 1 := ⟨k - 1, by omega⟩
      have hn := cutGo_next (k := k + 1) (rest := rest) (out := out) rfl h1 hk
      rw [← hn, Nat.add_sub_cancel]
      have hcs := (cutStep_size rest).2 h1
      unfold cutRound
      by_cases hc : 0 ≤ cutAt rest
      · obtain ⟨i, hi, hlt⟩ := cutAt_lt rest hc
        have hcst : cutStep rest = (rest.extract 0 i, rest.extract (i + 1) rest.size, true) := by
          unfold cutStep
          rw [if_pos hc, hi]
          rfl
        obtain ⟨hx, hy⟩ := Lib.indexByte_some (show Lib.indexByte rest.data.toList 36 = (i : Nat) from hi)
        have hget : ∀ (j : Nat) (h : j < rest.size), rest.data.toList[j]? = some rest[j] := fun j h => by
          rw [List.getElem?_eq_getElem (by simpa using h)]
          rfl
        have hp := refGo_prefix i j rest out (fun a h hai e => hy a hai (by rw [hget a h, e])) (by omega) (by omega)
        rw [hcst]
        simp only []
        rw [if_pos trivial, hp]
        have hrs : (rest.extract i rest.size).size = rest.size - i := by simp
        have hr0 : (rest.extract i rest.size)[0]'(by omega) = 36 := by
          rw [ext_get rest i 0 (by omega) (by omega)]
          rw [hget i hlt] at hx
          simpa using hx
        obtain ⟨j', hj'⟩ : ∃ j', j - i = j' + 1 := ⟨j - i - 1, by omega⟩
        rw [hj']
        have hs := sign_ref j' (rest.extract i rest.size) (textIf out (rest.extract 0 i)) (by omega) hr0
        rw [ext_ext] at hs
        have hle := sign_le (rest.extract (i + 1) rest.size) (textIf out (rest.extract 0 i))
        have hes : (rest.extract (i + 1) rest.size).size = rest.size - (i + 1) := by simp
        rcases hs with ⟨b, e⟩ | ⟨b, e⟩
        · rw [b, cutGo_bad, e]
          rfl
        · rw [b, e]
          exact ih _ _ _ _ (by omega) (by omega) (by omega)
      · have hcst : cutStep rest = (rest, ⟨#[]⟩, false) := by
          unfold cutStep
          rw [if_neg hc]
        have hi1 : Lib.indexByte rest.data.toList 36 = -1 := by have := Lib.indexByte_ge rest.data.toList 36; unfold cutAt at hc; omega
        have hget : ∀ (j : Nat) (h : j < rest.size), rest.data.toList[j]? = some rest[j] := fun j h => by
          rw [List.getElem?_eq_getElem (by simpa using h)]
          rfl
        have hp := refGo_prefix rest.size j rest out (fun a h hai e => Lib.indexByte_none hi1 a (by rw [hget a h, e])) (by omega) (by omega)
        rw [hcst]
        simp only []
        rw [if_neg (by simp), hp]
        rw [cutGo_done (k := k) rfl (by rw [show (⟨#[]⟩ : ByteArray).size = 0 from rfl]; omega), refGo_end (k := j - rest.size) rfl (by simp), show rest.extract 0 rest.size = rest from ByteArray.extract_zero_size]
        rfl
    · rw [cutGo_done (k := k) rfl (by omega), refGo_end (k := j) rfl (by omega)]
      rfl
theorem cutOf_eq (s : ByteArray) : cutOf s = refOf s := by
  unfold cutOf refOf
  split
  · exact cut_ref s.size s.size s.size s [] (by omega) (by omega) (by omega)
  · rfl
end Go.Proofs.Ytbkgcdjbkoeejaa.Print
