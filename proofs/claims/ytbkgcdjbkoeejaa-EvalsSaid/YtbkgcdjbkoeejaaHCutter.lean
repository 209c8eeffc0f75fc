import Derived.Test.YtbkgcdjbkoeejaaHPlain
/- The contracts of the cutter's methods: word, text, variable, sign. -/
namespace Go.Proofs.Ytbkgcdjbkoeejaa.Print
open Go.RowKit Go.Lib Go.Shelf Go.Proofs.YtbkgcdjbkoeejaaW.PrintWords Go.Proofs.YtbkgcdjbkoeejaaW.PrintLast Go.Proofs.YtbkgcdjbkoeejaaW.PrintMore
set_option linter.unusedVariables false

theorem info49 : (Try.prog.info? 49).map (fun i => (i.zero, i.size, i.bytes)) = some (some (.agg #[(.bool false), (.string ⟨#[]⟩)]), 2, 24) := by kernel_rfl

/-- A cutter in block g: its rest, its pieces (a list of the call's own, from block B on), is it bad. -/
def St (B g : Nat) (w : World) (rest : ByteArray) (out : List S49) (bad : Bool) : Prop :=
  ∃ v : Value, w.heap[g]? = some (.cells #[.string rest, v, .bool bad] 63 (0, 0)) ∧ B ≤ g ∧ Kd.R k49 49 w B (fun k => k ≠ g) v out

def varLen (s : ByteArray) : Nat := (s.data.toList.takeWhile fun b => varB b.toNat).length
def wordOf (s : ByteArray) : ByteArray := s.extract 0 (varLen s)
def restOf (s : ByteArray) : ByteArray := s.extract (varLen s) s.size
theorem varLen_le (s : ByteArray) : varLen s ≤ s.size := by
  unfold varLen
  rw [Lib.size_eq]
  exact (List.takeWhile_sublist _).length_le
theorem varLen_go (s : ByteArray) (k : Nat) (hk : k ≤ varLen s) : (k < varLen s → ∀ h : k < s.size, varB (s[k].toNat : Int) = true) ∧ (k = varLen s → ∀ h : k < s.size, varB (s[k].toNat : Int) = false) := by
  have key : ∀ (l : List UInt8) (k : Nat), (k < (l.takeWhile fun b => varB b.toNat).length → ∀ b, l[k]? = some b → varB (b.toNat : Int) = true) ∧ (k = (l.takeWhile fun b => varB b.toNat).length → ∀ b, l[k]? = some b → varB (b.toNat : Int) = false) := by
    intro l
    induction l with
    | nil => intro k; exact ⟨fun _ b h => by simp at h, fun _ b h => by simp at h⟩
    | cons c l ih =>
      intro k
      rw [List.takeWhile_cons]
      by_cases hc : varB (c.toNat : Int) = true
      · rw [if_pos hc]
        cases k with
        | zero => exact ⟨fun _ b h => by simp at h; subst h; exact hc, fun h => by simp at h⟩
        | succ k =>
          have := ih k
          exact ⟨fun h b hb => this.1 (by simpa using h) b (by simpa using hb), fun h b hb => this.2 (by simpa using h) b (by simpa using hb)⟩
      · rw [if_neg hc]
        refine ⟨fun h => by simp at h, fun h b hb => ?_⟩
        simp at h
        subst h
        simp at hb
        subst hb
        simpa using hc
  have e : ∀ h : k < s.size, s.data.toList[k]? = some s[k] := fun h => by
    rw [List.getElem?_eq_getElem (by simpa using h)]
    rfl
  exact ⟨fun h1 h => (key _ k).1 h1 _ (e h), fun h1 h => (key _ k).2 h1 _ (e h)⟩

theorem st_cells {B g : Nat} {w : World} {rest : ByteArray} {out : List S49} {bad : Bool} {v : Value} (h : w.heap[g]? = some (.cells #[.string rest, v, .bool bad] 63 (0, 0))) :
    w.cell? ⟨g, 0, none⟩ = some (.string rest) ∧ w.cell? ⟨g, 1, none⟩ = some v ∧ w.cell? ⟨g, 2, none⟩ = some (.bool bad) ∧ w.frozen? ⟨g, 0, none⟩ = false ∧ w.frozen? ⟨g, 1, none⟩ = false ∧ w.frozen? ⟨g, 2, none⟩ = false :=
  ⟨blk_cell h 0, blk_cell h 1, blk_cell h 2, blk_frozen h 0, blk_frozen h 1, blk_frozen h 2⟩

set_option maxHeartbeats 1000000 in
set_option maxRecDepth 100000 in
theorem word_calls (B g : Nat) (rest : ByteArray) (out : List S49) (bad : Bool) (w : World) (h : St B g w rest out bad) (hs : rest.size ≤ 9223372036854775807) :
    Calls Try.prog 52 #[.pointer (some ⟨g, 0, none⟩)] w fun e w' => e = .returned (.string (wordOf rest)) ∧ St B g w' (restOf rest) out bad ∧ Below B w w' := by
  obtain ⟨v, hb, hB, hR⟩ := h
  have hv := varLen_le rest
  have hgo := Lib.hid (varLen_go rest)
  have hwo : Hid (wordOf rest = rest.extract 0 (varLen rest)) := rfl
  have hre : Hid (restOf rest = rest.extract (varLen rest) rest.size) := rfl
  generalize varLen rest = n at *
  have HR := Aside0.mk hR
  have HB := Aside0.mk hb
  obtain ⟨c0, c1, c2, f0, f1, f2⟩ := st_cells (B := B) (out := out) hb
  clear hR hb c1 c2 f1 f2
  go_enter Try.func52, Try.ntmps52
  go_wp2
  go_loop [3] (fun v3 => ∃ k : Nat, v3 = .int .i64 k ∧ k ≤ n) (fun v3 => n - (intOf v3).toNat)
  case atStart => exact ⟨0, rfl, by omega⟩
  case round =>
    obtain ⟨k, rfl, hk⟩ := hrel
    have hg := hgo.out k hk
    by_cases hlt : k < n
    · have hkv := hg.1 hlt (by omega)
      have Hkv := Lib.hid hkv
      clear hg hkv
      have hks : k < rest.size := by omega
      go_wp2_with (first | (go_at_call 54; refine (name_Var_calls _ _).mono ?_; rintro e w' ⟨rfl, rfl⟩; rw [Hkv.out]))
      exact ⟨⟨k + 1, by go_num, by omega⟩, by simp [intOf]; omega⟩
    · obtain rfl : k = n := by omega
      by_cases hks : k < rest.size
      · have hkv := hg.2 rfl hks
        have Hkv := Lib.hid hkv
        clear hg hkv
        go_wp2_with (first | (go_at_call 54; refine (name_Var_calls _ _).mono ?_; rintro e w' ⟨rfl, rfl⟩; rw [Hkv.out]))
        go_ret
        exact ⟨ret_str hwo.out.symm, ⟨v, by rw [hre.out]; exact blk_put HB.out 0 _ rfl, hB, Kd.R_far HR.out (fun _ hk => hk) _⟩, (Below.refl _ _).setCell hB _⟩
      · go_wp2_with fail
        go_ret
        exact ⟨ret_str hwo.out.symm, ⟨v, by rw [hre.out]; exact blk_put HB.out 0 _ rfl, hB, Kd.R_far HR.out (fun _ hk => hk) _⟩, (Below.refl _ _).setCell hB _⟩

/-! text -/
def addText (out : List S49) (s : ByteArray) : List S49 :=
  if 0 < out.length ∧ (rd_T49 out ((out.length - 1 : Nat) : Int)).f0 = false then out.set (out.length - 1) ⟨(rd_T49 out ((out.length - 1 : Nat) : Int)).f0, (rd_T49 out ((out.length - 1 : Nat) : Int)).f1 ++ s⟩
  else out ++ [⟨false, s⟩]

/-- The cells of an element of a list of pieces of the call's own; its text written over. -/
theorem elem49 {w : World} {B g c : Nat} {ok : Nat → Prop} {out : List S49} (h : Kd.R k49 49 w B ok (.slice (some ⟨g, 0, none⟩) out.length c) out) (i : Nat) (hi : i < out.length) :
    w.cell? ⟨g, i * 2, none⟩ = some (.bool (rd_T49 out i).f0) ∧ w.cell? ⟨g, i * 2 + 1, none⟩ = some (.string (rd_T49 out i).f1) ∧ w.frozen? ⟨g, i * 2, none⟩ = false ∧ w.frozen? ⟨g, i * 2 + 1, none⟩ = false ∧
    ∀ t : ByteArray, Kd.R k49 49 (w.setCell ⟨g, i * 2 + 1, none⟩ (.string t)) B ok (.slice (some ⟨g, 0, none⟩) out.length c) (out.set i ⟨(rd_T49 out i).f0, t⟩) := by
  obtain ⟨ce, hcl, hM, hcc, hfr⟩ := Kd.R_elem h z49 ((i : Nat) : Int) (by omega) (by omega)
  obtain rfl := k49_openM hM
  refine ⟨hcc 0 _ rfl, hcc 1 _ rfl, hfr 0, hfr 1, fun t => ?_⟩
  exact (Kd.R_seg h ((i : Nat) : Int) (by omega) (by omega) (seg := [.string t]) (j := 1) hcl hcc (show 2 ≤ 2 from by decide) (x' := (⟨(rd_T49 out i).f0, t⟩ : S49)) (k49_mkM _ _ _ _) (fun _ hk => hk)).1

set_option maxHeartbeats 2000000 in
set_option maxRecDepth 100000 in
theorem text_calls (B g : Nat) (rest : ByteArray) (out : List S49) (bad : Bool) (s : ByteArray) (w : World) (h : St B g w rest out bad)
    (hl : out.length < 5864062014805) (hz : 0 < out.length → (rd_T49 out ((out.length - 1 : Nat) : Int)).f1.size + s.size ≤ 9223372036854775807) :
    Calls Try.prog 31 #[.pointer (some ⟨g, 0, none⟩), .string s] w fun e w' => e = .returned (.tuple #[]) ∧ St B g w' rest (addText out s) bad ∧ Below B w w' := by
  obtain ⟨v, hb, hB, hR⟩ := h
  have hd : Hid (addText out s = if 0 < out.length ∧ (rd_T49 out ((out.length - 1 : Nat) : Int)).f0 = false then out.set (out.length - 1) ⟨(rd_T49 out ((out.length - 1 : Nat) : Int)).f0, (rd_T49 out ((out.length - 1 : Nat) : Int)).f1 ++ s⟩ else out ++ [⟨false, s⟩]) := rfl
  have HR := Aside0.mk hR
  obtain ⟨A, c, hv, hlc, hC⟩ := Kd.R_reads hR
  subst hv
  have HB := Aside0.mk hb
  obtain ⟨c0, c1, c2, f0, f1, f2⟩ := st_cells (B := B) (out := out) hb
  have hBw : B ≤ w.heap.size := by have := blk_lt hb; omega
  clear hR hb c0 c2 f0 f2 hC
  by_cases h0 : 0 < out.length
  · obtain ⟨g', cap, hv, gb, gl, cells, hcells⟩ := Kd.R_form HR.out h0
    injection hv with ha _ hc
    subst ha hc
    obtain ⟨hx0, hx1, hf0, hf1, hput⟩ := elem49 HR.out (out.length - 1) (by omega)
    have hne : g' ≠ g := HR.out.1 g' rfl
    have hi0 : (0 : Int) ≤ (out.length : Int) - 1 := by omega
    have hzz := hz h0
    obtain ⟨L, hL⟩ : ∃ L, rd_T49 out ((out.length - 1 : Nat) : Int) = L := ⟨_, rfl⟩
    rw [hL] at hd hx0 hx1 hzz hput
    have HP := Lib.hid hput
    clear hz hL hput hcells
    cases hb0 : L.f0
    · rw [if_pos ⟨h0, hb0⟩] at hd
      rw [hb0] at hx0
      go_enter Try.func31, Try.ntmps31
      go_wp2_with fail
      refine bodyPost_ret (v := .tuple #[]) (by simp [results, Try.results31, go_sem]) rfl ?_
      exact ⟨rfl, ⟨.slice (some ⟨g', 0, none⟩) out.length c, blk_far HB.out (fun e => hne e.symm) _, hB, by rw [hd.out]; exact HP.out _⟩, (Below.refl _ _).setCell gb _⟩
    · rw [if_neg (fun h => by rw [hb0] at h; exact absurd h.2 (by decide))] at hd
      rw [hb0] at hx0
      clear HP hx1 hf0 hf1
      go_enter Try.func31, Try.ntmps31
      go_wp2_with (first | ((with_reducible refine gate_builtin (b := .append) (xs := #[.tmp 40, .tmp 43]) rfl ?_); at_builtin; refine Kd.R_append k49 (w0 := w) B rfl (.tmp 40) (.tmp 43) 41 49 (.agg #[(.bool false), (.string ⟨#[]⟩)]) 24 rfl Try.underlying41 info49 rfl (by decide) (by omega) (.slice (some ⟨g', 0, none⟩) out.length c) out (⟨false, s⟩ : S49) [.bool false, .string s] (fun k => k ≠ g) (fun _ => False) rfl rfl (k49_mkM _ _ _ (⟨false, s⟩ : S49)) (fun _ hk => hk.elim) (fun k hk => ?aF) HR.out (Below.refl _ _) hBw ?aL ?_; (case aF => have := blk_lt HB.out; omega); (case aL => omega); intro v5 w5 ho5 hb5 hg hat; clear hat; obtain ⟨A5, c5, e5⟩ := Kd.R_slice ho5; subst e5; rw [List.length_append, List.length_singleton] at ho5; have hb6 := blk_grown HB.out hg (fun e => HR.out.1 g e.symm rfl); clear hg; obtain ⟨k0, k1, k2, q0, q1, q2⟩ := st_cells (B := B) (out := out) hb6; have HB6 := Aside0.mk hb6; clear hb6 k0 k2 q0 q2))
      go_end0
      exact ⟨rfl, ⟨_, blk_put HB6.out 1 _ rfl, hB, by rw [hd.out]; exact Kd.R_far (p := ⟨g, 1, none⟩) ho5 (fun _ hk => hk) _⟩, hb5.setCell hB _⟩
  · have hi0 : ¬ (0 : Int) ≤ (out.length : Int) - 1 := by omega
    rw [if_neg (fun h => h0 h.1)] at hd
    clear hz
    go_enter Try.func31, Try.ntmps31
    go_wp2_with (first | ((with_reducible refine gate_builtin (b := .append) (xs := #[.tmp 40, .tmp 43]) rfl ?_); at_builtin; refine Kd.R_append k49 (w0 := w) B rfl (.tmp 40) (.tmp 43) 41 49 (.agg #[(.bool false), (.string ⟨#[]⟩)]) 24 rfl Try.underlying41 info49 rfl (by decide) (by omega) (.slice A out.length c) out (⟨false, s⟩ : S49) [.bool false, .string s] (fun k => k ≠ g) (fun _ => False) rfl rfl (k49_mkM _ _ _ (⟨false, s⟩ : S49)) (fun _ hk => hk.elim) (fun k hk => ?aF) HR.out (Below.refl _ _) hBw ?aL ?_; (case aF => have := blk_lt HB.out; omega); (case aL => omega); intro v5 w5 ho5 hb5 hg hat; clear hat; obtain ⟨A5, c5, e5⟩ := Kd.R_slice ho5; subst e5; rw [List.length_append, List.length_singleton] at ho5; have hb6 := blk_grown HB.out hg (fun e => HR.out.1 g e.symm rfl); clear hg; obtain ⟨k0, k1, k2, q0, q1, q2⟩ := st_cells (B := B) (out := out) hb6; have HB6 := Aside0.mk hb6; clear hb6 k0 k2 q0 q2))
    go_end0
    exact ⟨rfl, ⟨_, blk_put HB6.out 1 _ rfl, hB, by rw [hd.out]; exact Kd.R_far (p := ⟨g, 1, none⟩) ho5 (fun _ hk => hk) _⟩, hb5.setCell hB _⟩

/-! variable -/
def trimP (s e : ByteArray) : ByteArray := ⟨(Lib.trimPrefix s.data.toList e.data.toList).toArray⟩
def hasP (s e : ByteArray) : Bool := Lib.hasPrefix s.data.toList e.data.toList
/-- A variable's answer: the rest, the pieces, is it bad. -/
def varStep (rest : ByteArray) (out : List S49) (e : ByteArray) : ByteArray × List S49 × Bool :=
  if (hasP (restOf rest) e && (decide (1 ≤ (wordOf rest).size) && decide ((wordOf rest).size ≤ 16))) = true then (trimP (restOf rest) e, out ++ [⟨true, wordOf rest⟩], false)
  else (trimP (restOf rest) e, out, true)

theorem cutPrefix_calls (s p : ByteArray) (w : World) : Calls Try.prog 53 #[.string s, .string p] w fun e w' => e = .returned (.tuple #[.string (trimP s p), .bool (hasP s p)]) ∧ w = w' :=
  (Try.strings_CutPrefix s p w).mono fun _ _ ⟨he, hw⟩ => ⟨he, hw.symm⟩

set_option maxHeartbeats 2000000 in
set_option maxRecDepth 100000 in
theorem variable_calls (B g : Nat) (rest : ByteArray) (out : List S49) (e : ByteArray) (w : World) (h : St B g w rest out false) (hs : rest.size ≤ 9223372036854775807) (hl : out.length < 5864062014805) :
    Calls Try.prog 42 #[.pointer (some ⟨g, 0, none⟩), .string e] w fun x w' => x = .returned (.tuple #[]) ∧ St B g w' (varStep rest out e).1 (varStep rest out e).2.1 (varStep rest out e).2.2 ∧ Below B w w' := by
  have hd : Hid (varStep rest out e = if (hasP (restOf rest) e && (decide (1 ≤ (wordOf rest).size) && decide ((wordOf rest).size ≤ 16))) = true then (trimP (restOf rest) e, out ++ [⟨true, wordOf rest⟩], false)
    else (trimP (restOf rest) e, out, true)) := rfl
  have hw1 := Aside0.mk (word_calls B g rest out false w h hs)
  clear h
  generalize restOf rest = R at *
  generalize wordOf rest = W at *
  obtain ⟨T, hT⟩ : ∃ T, trimP R e = T := ⟨_, rfl⟩
  obtain ⟨Q, hQ⟩ : ∃ Q, hasP R e = Q := ⟨_, rfl⟩
  rw [hT, hQ] at hd
  have HT := Lib.hid hT
  have HQ := Lib.hid hQ
  clear hT hQ
  go_enter Try.func42, Try.ntmps42
  go_wp2_with fail
  refine hw1.out.mono ?_
  rintro x w1 ⟨rfl, ⟨v, hb, hB, hR⟩, hb1⟩
  have HB := Aside0.mk hb
  have HR := Aside0.mk hR
  obtain ⟨A, c, hv, hlc, hC⟩ := Kd.R_reads hR
  subst hv
  obtain ⟨c0, c1, c2, f0, f1, f2⟩ := st_cells (B := B) (out := out) hb
  have hBw : B ≤ w1.heap.size := by have := blk_lt hb; omega
  clear hR hb hC
  go_wp2_with fail
  refine (cutPrefix_calls _ _ _).mono ?_
  rintro x w2 ⟨rfl, rfl⟩
  rw [HT.out, HQ.out]
  have hb2 : Aside0 ((w1.setCell ⟨g, 0, none⟩ (.string T)).heap[g]? = some (.cells #[.string T, .slice A out.length c, .bool false] 63 (0, 0))) := Aside0.mk (blk_put HB.out 0 (.string T) rfl)
  have hr2 := Aside0.mk (Kd.R_far (p := ⟨g, 0, none⟩) HR.out (fun _ hk => hk) (.string T))
  have hbb := Aside0.mk (hb1.setCell (p := ⟨g, 0, none⟩) hB (.string T))
  have bad (t : World) (hx : t = (w1.setCell ⟨g, 0, none⟩ (.string T)).setCell ⟨g, 2, none⟩ (.bool true)) (he : varStep rest out e = (T, out, true)) : St B g t (varStep rest out e).1 (varStep rest out e).2.1 (varStep rest out e).2.2 ∧ Below B w t := by
    subst hx
    rw [he]
    exact ⟨⟨_, blk_put hb2.out 2 (.bool true) rfl, hB, Kd.R_far (p := ⟨g, 2, none⟩) hr2.out (fun _ hk => hk) _⟩, hbb.out.setCell (p := ⟨g, 2, none⟩) hB _⟩
  have BAD := Lib.hid bad
  clear bad
  cases Q
  · rw [if_neg (by simp)] at hd
    go_wp2_with fail
    refine bodyPost_ret (v := .tuple #[]) (by simp [results, Try.results42, go_sem]) rfl ?_
    exact ⟨rfl, BAD.out _ rfl hd.out⟩
  · by_cases h1 : 1 ≤ W.size
    · have hn : ¬ W.toList = [] := size_some h1
      by_cases h2 : W.size ≤ 16
      · rw [if_pos (by simp [h1, h2])] at hd
        clear BAD
        have hn1 : W.toList.isEmpty = false := by simpa using hn
        have hn2 : ((W.size : Int) ≤ 16) := by omega
        have hn3 : ¬ (W.toList.isEmpty = true ∨ (16 : Int) < W.size) := by rw [hn1]; simp; omega
        have HN3 := Lib.hid hn3
        clear hn3 hn2 hn1
        have hsz : Value.slice (some ⟨w1.heap.size, 0, none⟩) 1 1 = .slice (some ⟨(w1.setCell ⟨g, 0, none⟩ (.string T)).heap.size, 0, none⟩) 1 1 := by simp
        have HSZ := Lib.hid hsz
        clear hsz
        have hBs : B ≤ (w1.setCell ⟨g, 0, none⟩ (.string T)).heap.size := by have := blk_lt hb2.out; omega
        go_upto_region 5 with (fail)
        go_wp2_with (first | ((with_reducible refine gate_builtin (b := .append) (xs := #[.tmp 40, .tmp 43]) rfl ?_); at_builtin; refine Kd.R_append k49 (w0 := w) B rfl (.tmp 40) (.tmp 43) 41 49 (.agg #[(.bool false), (.string ⟨#[]⟩)]) 24 rfl Try.underlying41 info49 rfl (by decide) (by omega) (.slice A out.length c) out (⟨true, W⟩ : S49) [.bool true, .string W] (fun k => k ≠ g) (fun _ => False) rfl (by first | rfl | exact HSZ.out) (k49_mkM _ _ _ (⟨true, W⟩ : S49)) (fun _ hk => hk.elim) (fun k hk => ?aF) hr2.out hbb.out hBs ?aL ?_; (case aF => have := blk_lt hb2.out; omega); (case aL => omega); intro v5 w5 ho5 hb5 hg hat; clear hat; obtain ⟨A5, c5, e5⟩ := Kd.R_slice ho5; subst e5; rw [List.length_append, List.length_singleton] at ho5; have hb6 := blk_grown hb2.out hg (fun e => hr2.out.1 g e.symm rfl); clear hg; obtain ⟨k0, k1, k2, q0, q1, q2⟩ := st_cells (B := B) (out := out) hb6; have HB6 := Aside0.mk hb6; clear hb6 k0 k2 q0 q2))
        go_end0
        exact ⟨rfl, by rw [hd.out]; exact ⟨_, blk_put HB6.out 1 _ rfl, hB, Kd.R_far (p := ⟨g, 1, none⟩) ho5 (fun _ hk => hk) _⟩, hb5.setCell hB _⟩
      · rw [if_neg (by simp [h1, h2])] at hd
        go_wp2_with fail
        refine bodyPost_ret (v := .tuple #[]) (by simp [results, Try.results42, go_sem]) rfl ?_
        exact ⟨rfl, BAD.out _ rfl hd.out⟩
    · have hn : W.toList = [] := size_nil h1
      rw [if_neg (by simp [h1])] at hd
      go_wp2_with fail
      refine bodyPost_ret (v := .tuple #[]) (by simp [results, Try.results42, go_sem]) rfl ?_
      exact ⟨rfl, BAD.out _ rfl hd.out⟩
end Go.Proofs.Ytbkgcdjbkoeejaa.Print

/- (*pieces.cutter).sign. -/
namespace Go.Proofs.Ytbkgcdjbkoeejaa.Print
open Go.RowKit Go.Lib Go.Shelf Go.Proofs.YtbkgcdjbkoeejaaW.PrintWords Go.Proofs.YtbkgcdjbkoeejaaW.PrintLast Go.Proofs.YtbkgcdjbkoeejaaW.PrintMore
set_option linter.unusedVariables false

def sgn (c : UInt8) : Bool := decide (0 ≤ Lib.indexByte (⟨#[36, 32, 58]⟩ : ByteArray).data.toList c)
def signStep (rest : ByteArray) (out : List S49) : ByteArray × List S49 × Bool :=
  if h : 1 ≤ rest.size then
    if sgn rest[0] = true then (rest.extract 1 rest.size, addText out (rest.extract 0 1), false)
    else if hasP rest ⟨#[123]⟩ = true then varStep (rest.extract 1 rest.size) out ⟨#[125]⟩ else varStep rest out ⟨#[]⟩
  else varStep rest out ⟨#[]⟩

theorem contains_calls (rest : ByteArray) (h : 1 ≤ rest.size) (w : World) : Calls Try.prog 40 #[.string ⟨#[36, 32, 58]⟩, .string (rest.extract 0 1)] w fun e w' => e = .returned (.bool (sgn rest[0])) ∧ w = w' := by
  have e : rest.extract 0 1 = ⟨#[rest[0]]⟩ := by
    apply ByteArray.ext
    apply Array.ext
    · simp; omega
    · intro i h1 h2
      simp at h2
      subst h2
      simp
      rfl
  rw [e]
  exact (Try.strings_Contains_one _ _ w).mono fun _ _ ⟨he, hw⟩ => ⟨he, hw.symm⟩
theorem hasPrefix_calls (s p : ByteArray) (w : World) : Calls Try.prog 41 #[.string s, .string p] w fun e w' => e = .returned (.bool (hasP s p)) ∧ w = w' :=
  (Try.strings_HasPrefix s p w).mono fun _ _ ⟨he, hw⟩ => ⟨he, hw.symm⟩

set_option maxHeartbeats 2000000 in
set_option maxRecDepth 100000 in
theorem sign_calls (B g : Nat) (rest : ByteArray) (out : List S49) (w : World) (h : St B g w rest out false) (hs : rest.size ≤ 9223372036854775807)
    (hl : out.length < 5864062014805) (hz : 0 < out.length → (rd_T49 out ((out.length - 1 : Nat) : Int)).f1.size < 9223372036854775807) :
    Calls Try.prog 32 #[.pointer (some ⟨g, 0, none⟩)] w fun x w' => x = .returned (.tuple #[]) ∧ St B g w' (signStep rest out).1 (signStep rest out).2.1 (signStep rest out).2.2 ∧ Below B w w' := by
  have hS := Aside0.mk h
  obtain ⟨v, hb, hB, hR⟩ := h
  have HB := Aside0.mk hb
  have HR := Aside0.mk hR
  obtain ⟨c0, c1, c2, f0, f1, f2⟩ := st_cells (B := B) (out := out) hb
  clear hR hb
  have tl : Hid (∀ e, St B g w rest out false → Calls Try.prog 42 #[.pointer (some ⟨g, 0, none⟩), .string e] w fun x w' => x = .returned (.tuple #[]) ∧ St B g w' (varStep rest out e).1 (varStep rest out e).2.1 (varStep rest out e).2.2 ∧ Below B w w') :=
    Lib.hid fun e hh => variable_calls B g rest out e w hh hs hl
  by_cases h1 : 1 ≤ rest.size
  · have hie : rest.toList.isEmpty = false := by simpa using size_some h1
    have hn : ¬ rest.toList = [] := size_some h1
    have HIE := Lib.hid hie
    clear hie
    have hi : ((1 : Int) ≤ rest.size) := by omega
    by_cases hsg : sgn rest[0] = true
    · have hd : Hid (signStep rest out = (rest.extract 1 rest.size, addText out (rest.extract 0 1), false)) := by
        unfold signStep
        rw [dif_pos h1, if_pos hsg]
        exact Lib.hid rfl
      have hx : rest.size - 1 + 1 = rest.size := by omega
      have HSG := Lib.hid hsg
      have HZ : Hid (0 < out.length → (rd_T49 out ((out.length - 1 : Nat) : Int)).f1.size + (rest.extract 0 1).size ≤ 9223372036854775807) := Lib.hid fun h0 => by
        have := hz h0
        simp
        omega
      clear hsg hz
      go_enter Try.func32, Try.ntmps32
      go_wp2_with fail
      refine (contains_calls rest h1 _).mono ?_
      rintro x w' ⟨rfl, rfl⟩
      rw [HSG.out, HIE.out]
      go_wp2_with fail
      refine (text_calls B g rest out false _ _ hS.out hl HZ.out).mono ?_
      rintro x w' ⟨rfl, ⟨v', hb', -, hR'⟩, hbel⟩
      have HB' := Aside0.mk hb'
      have HR' := Aside0.mk hR'
      obtain ⟨c0', c1', c2', f0', f1', f2'⟩ := st_cells (B := B) (out := out) hb'
      clear hb' hR' c0 c1 c2 f0 f1 f2 c1' c2' f1' f2'
      go_wp2_with fail
      go_end0
      rw [hd.out]
      exact ⟨rfl, ⟨_, blk_put HB'.out 0 _ rfl, hB, Kd.R_far (p := ⟨g, 0, none⟩) HR'.out (fun _ hk => hk) _⟩, hbel.setCell hB _⟩
    · rw [Bool.not_eq_true] at hsg
      have HSG := Lib.hid hsg
      by_cases hh : hasP rest ⟨#[123]⟩ = true
      · have hd : Hid (signStep rest out = varStep (rest.extract 1 rest.size) out ⟨#[125]⟩) := by
          unfold signStep
          rw [dif_pos h1, if_neg (by rw [hsg]; decide), if_pos hh]
          exact Lib.hid rfl
        have HH := Lib.hid hh
        have V := Lib.hid (variable_calls B g (rest.extract 1 rest.size) out ⟨#[125]⟩ (w.setCell ⟨g, 0, none⟩ (.string (rest.extract 1 rest.size))) ⟨v, blk_put HB.out 0 _ rfl, hB, Kd.R_far (p := ⟨g, 0, none⟩) HR.out (fun _ hk => hk) _⟩ (by simp; omega) hl)
        clear hsg hh hz
        go_enter Try.func32, Try.ntmps32
        go_wp2_with fail
        refine (contains_calls rest h1 _).mono ?_
        rintro x w' ⟨rfl, rfl⟩
        rw [HSG.out, HIE.out]
        go_wp2_with fail
        refine (hasPrefix_calls rest _ _).mono ?_
        rintro x w' ⟨rfl, rfl⟩
        rw [HH.out]
        go_wp2_with fail
        refine V.out.mono ?_
        rintro x w' ⟨rfl, hst, hbel⟩
        have HST := Aside0.mk hst
        clear hst
        go_wp2_with fail
        go_end0
        rw [hd.out]
        exact ⟨rfl, HST.out, ((Below.refl _ _).setCell (p := ⟨g, 0, none⟩) hB _).trans hbel⟩
      · rw [Bool.not_eq_true] at hh
        have hd : Hid (signStep rest out = varStep rest out ⟨#[]⟩) := by
          unfold signStep
          rw [dif_pos h1, if_neg (by rw [hsg]; decide), if_neg (by rw [hh]; decide)]
          exact Lib.hid rfl
        have HH := Lib.hid hh
        clear hsg hh hz
        go_enter Try.func32, Try.ntmps32
        go_wp2_with fail
        refine (contains_calls rest h1 _).mono ?_
        rintro x w' ⟨rfl, rfl⟩
        rw [HSG.out, HIE.out]
        go_wp2_with fail
        refine (hasPrefix_calls rest _ _).mono ?_
        rintro x w' ⟨rfl, rfl⟩
        rw [HH.out]
        go_wp2_with fail
        refine (tl.out _ hS.out).mono ?_
        rintro x w' ⟨rfl, hst, hbel⟩
        have HST := Aside0.mk hst
        clear hst
        go_wp2_with fail
        go_end0
        rw [hd.out]
        exact ⟨rfl, HST.out, hbel⟩
  · have hn : rest.toList = [] := size_nil h1
    have hr : rest = ⟨#[]⟩ := by
      have e : rest.data.size = 0 := by
        have : rest.size = rest.data.size := rfl
        omega
      apply ByteArray.ext
      exact Array.eq_empty_of_size_eq_zero e
    have hh : hasP rest ⟨#[123]⟩ = false := by rw [hr]; decide
    have hd : Hid (signStep rest out = varStep rest out ⟨#[]⟩) := by
      unfold signStep
      rw [dif_neg h1]
      exact Lib.hid rfl
    have HH := Lib.hid hh
    clear hh hz hr
    go_enter Try.func32, Try.ntmps32
    go_wp2_with fail
    refine (hasPrefix_calls rest _ _).mono ?_
    rintro x w' ⟨rfl, rfl⟩
    rw [HH.out]
    go_wp2_with fail
    refine (tl.out _ hS.out).mono ?_
    rintro x w' ⟨rfl, hst, hbel⟩
    have HST := Aside0.mk hst
    clear hst
    go_wp2_with fail
    go_end0
    rw [hd.out]
    exact ⟨rfl, HST.out, hbel⟩
end Go.Proofs.Ytbkgcdjbkoeejaa.Print
