/- YtefheailchihaaaGreatDoorSb11: out of this seat's texts (wip/tools/shake.py), what is needed alone. -/
import Derived.Test.YtefheailchihaaaGreatDoorSb10
section
namespace Go.Proofs.YtefheailchihaaaGreatDoor.Print
open Go.RowKit Go.Lib Go.Shelf Go.Proofs.YtefheailchihaaaGreatDoorW.PrintWords Go.Proofs.YtefheailchihaaaGreatDoorW.PrintLast Go.Proofs.YtefheailchihaaaGreatDoorW.PrintMore
set_option linter.unusedVariables false
set_option linter.unusedSimpArgs false
attribute [local go_sem ↓] Go.wp_at_zero Go.wp_at_succ

/-- What Parse answers: a graph's rows of its own, and what is wrong. -/
def Ans (w w' : World) (e : Ending) (r : List S42 × List S44 × List ByteArray × Int) : Prop := ∃ v0_ v1_ v2_ : Value, e = .returned (.tuple #[.agg #[v0_, v1_, v2_], .int .i64 r.2.2.2]) ∧
  Kd.R k42 42 w' w.heap.size (fun k_ => some k_ ≠ (v1_ : Value).ownBlock ∧ some k_ ≠ (v2_ : Value).ownBlock) v0_ r.1 ∧ Kd.R k44 44 w' w.heap.size (fun k_ => some k_ ≠ (v0_ : Value).ownBlock ∧ some k_ ≠ (v2_ : Value).ownBlock) v1_ r.2.1 ∧ Kd.R Kd.string 9 w' w.heap.size (fun k_ => some k_ ≠ (v0_ : Value).ownBlock ∧ some k_ ≠ (v1_ : Value).ownBlock) v2_ r.2.2.1 ∧ Below w.heap.size w w'
theorem ans_nil {w w' : World} {c : Int} (hb : Below w.heap.size w w') : Ans w w' (.returned (.tuple #[.agg #[.slice none 0 0, .slice none 0 0, .slice none 0 0], .int .i64 c])) ([], [], [], c) :=
  ⟨_, _, _, rfl, Kd.R_nil _ _ _ _ _, Kd.R_nil _ _ _ _ _, Kd.R_nil _ _ _ _ _, hb⟩

theorem linesGo_len : ∀ (k : Nat) (rs : List ByteArray) (out : List S59), (linesGo k rs out).1.length ≤ out.length + k
  | 0, rs, out => by cases rs <;> exact Nat.le_refl _
  | _ + 1, [], out => Nat.le_add_right _ _
  | k + 1, r :: rs, out => by
    unfold linesGo
    cases hj : joinGo r r rs with
    | none => exact Nat.zero_le _
    | some q =>
      have h1 := linesGo_len k q.2 (addLine out q.1)
      have h2 : (addLine out q.1).length ≤ out.length + 1 := by
        unfold addLine
        split
        · omega
        · rw [List.length_append, List.length_singleton]; omega
      simp only
      omega
theorem splitL_len : ∀ (l cur : List UInt8), (splitL cur l).length ≤ l.length + 1
  | [], cur => by simp [splitL]
  | c :: l, cur => by
    unfold splitL
    split
    · have := splitL_len l []
      simp only [List.length_cons]
      omega
    · have := splitL_len l (cur ++ [c])
      simp only [List.length_cons]
      omega
theorem lines_len (s : ByteArray) (hs : s.size ≤ 9223372036854775807) : (linesCut s).1.length ≤ 4096 := by
  unfold linesCut
  split
  · rename_i hm
    unfold mayB at hm
    simp only [Bool.and_eq_true, Bool.or_eq_true, decide_eq_true_eq] at hm
    have h1 := linesGo_len (rowsOf s).length (rowsOf s) []
    have h2 := splitL_len s.data.toList []
    have h3 : (rowsOf s).length ≤ (splitL [] s.data.toList).length := by unfold rowsOf; rw [List.length_map, List.length_dropLast]; omega
    have h4 := hm.1
    rw [Lib.size_eq] at h4
    simp only [List.length_nil] at h1
    omega
  · exact Nat.zero_le _
theorem parseGo_cons (x : S59) (l : List S59) (p : Pst) (o : Opn) : parseGo (x :: l) p o = if (lineR p o x.f0 x.f1).2.2 = 0 then parseGo l (lineR p o x.f0 x.f1).1 (lineR p o x.f0 x.f1).2.1 else lineR p o x.f0 x.f1 := rfl
theorem g_nil {w : World} {G : Nat} (h : w.heap[G]? = some (.cells #[.slice none 0 0, .slice none 0 0, .slice none 0 0] 26 (0, 0))) : (((w.setCell ⟨G, 0, none⟩ (.slice none 0 0)).setCell ⟨G, 1, none⟩ (.slice none 0 0)).setCell ⟨G, 2, none⟩ (.slice none 0 0)).heap[G]? = some (.cells #[.slice none 0 0, .slice none 0 0, .slice none 0 0] 26 (0, 0)) := blk_put (blk_put (blk_put h 0 _ rfl) 1 _ rfl) 2 _ rfl
theorem g_put {w : World} {G : Nat} {a b c : Value} (h : w.heap[G]? = some (.cells #[.slice none 0 0, .slice none 0 0, .slice none 0 0] 26 (0, 0))) : (((w.setCell ⟨G, 0, none⟩ a).setCell ⟨G, 1, none⟩ b).setCell ⟨G, 2, none⟩ c).heap[G]? = some (.cells #[a, b, c] 26 (0, 0)) := blk_put (blk_put (blk_put h 0 _ rfl) 1 _ rfl) 2 _ rfl
theorem g_below {w W : World} {a b c : Value} (h : Below w.heap.size w W) : Below w.heap.size w (((W.setCell ⟨w.heap.size, 0, none⟩ a).setCell ⟨w.heap.size, 1, none⟩ b).setCell ⟨w.heap.size, 2, none⟩ c) :=
  ((h.setCell (p := ⟨w.heap.size, 0, none⟩) (Nat.le_refl _) _).setCell (p := ⟨w.heap.size, 1, none⟩) (Nat.le_refl _) _).setCell (p := ⟨w.heap.size, 2, none⟩) (Nat.le_refl _) _
/-- A row is none of another's block, by types. -/
theorem R_not {α β : Type} {d : Kd α} {d' : Kd β} {e t base base' : Nat} {ok ok' : Nat → Prop} {w : World} {v v' : Value} {xs : List α} {ys : List β} (h : d.R e w base ok v xs) (h' : d'.R t w base' ok' v' ys) (ht : t ∉ e :: d.E) : d.R e w base (fun k => ok k ∧ some k ≠ v'.ownBlock) v xs :=
  Kd.R_mono (Kd.R_bound h) (fun k hk => ⟨hk.1, fun he => by
    obtain ⟨_, _, _, q, hq, cells, hc⟩ := hk
    obtain ⟨cells2, hc2⟩ := R_own_type h' he.symm
    rw [hc] at hc2
    simp only [Option.some.injEq, Obj.cells.injEq] at hc2
    exact ht (hc2.2.1 ▸ hq)⟩)

set_option maxHeartbeats 1000000 in
set_option maxRecDepth 100000 in
theorem parse_calls (s : ByteArray) (hs : s.size ≤ 9223372036854775807) (w : World) :
    Calls Tryz.prog 10 #[.string s] w fun e w' => Ans w w' e (parseB s) := by
  have hls := lines_size s
  have hln := lines_len s hs
  have HL := Lib.hid (lines_calls s hs (w.alloc (.cells #[.slice none 0 0, .slice none 0 0, .slice none 0 0] 26)))
  obtain ⟨Z, hZ⟩ : ∃ Z, parseB s = Z := ⟨_, rfl⟩
  have hZ2 := hZ
  rw [hZ]
  unfold parseB at hZ2
  obtain ⟨⟨ls, c⟩, hlc⟩ : ∃ q, linesCut s = q := ⟨_, rfl⟩
  rw [hlc] at hls hln HL hZ2
  simp only at hls hln HL hZ2
  have HZ := Lib.hid hZ2
  have HLS := Lib.hid hls
  clear hls hZ hZ2 hlc
  have HA := Aside0.mk ((Below.refl w.heap.size w).alloc (Nat.le_refl _) (.cells #[.slice none 0 0, .slice none 0 0, .slice none 0 0] 26))
  have HGa := Aside0.mk (blk_new w (.cells #[.slice none 0 0, .slice none 0 0, .slice none 0 0] 26))
  have hsz : (w.alloc (.cells #[.slice none 0 0, .slice none 0 0, .slice none 0 0] 26)).heap.size = w.heap.size + 1 := by simp
  by_cases h0 : c = 0
  · subst h0
    have hz := HZ.out
    rw [if_pos rfl] at hz
    have HZ1 := Lib.hid hz
    clear hz HZ
    go_enter Tryz.func10, Tryz.ntmps10
    go_upto_region 5 with (first | (go_at_call 18; refine HL.out.mono ?_; rintro x w1 ⟨vl, rfl, hl, hb⟩; obtain ⟨Al, cl, rfl⟩ := Kd.R_slice hl; have HG1 := Aside0.mk (blk_below HGa.out hb); have RL1 := Aside0.mk (Kd.R_reads' hl).2.2; have HB1 := Aside0.mk (HA.out.trans (hb.mono (by omega))); clear hl hb HGa HA))
    have hGB : w.heap.size < w1.heap.size := blk_lt HG1.out
    have hd := (Below.refl w1.heap.size w1).alloc (Nat.le_refl _) (.cells #[.slice none 0 0, .slice none 0 0, .slice none 0 0, .slice none 0 0, .slice none 0 0, .nilFunc, .nilFunc, .int .i64 0] 57)
    have HM2 : Aside0 (Mst (w1.alloc (.cells #[.slice none 0 0, .slice none 0 0, .slice none 0 0, .slice none 0 0, .slice none 0 0, .nilFunc, .nilFunc, .int .i64 0] 57)) w1.heap.size w1.heap.size pst0 .none 0) := ⟨⟨_, _, _, _, _, _, _, Nat.le_refl _, blk_new w1 _, ⟨Kd.R_nil _ _ _ _ _, Kd.R_nil _ _ _ _ _, Kd.R_nil _ _ _ _ _, Kd.R_nil _ _ _ _ _, Kd.R_nil _ _ _ _ _⟩, rfl, rfl⟩⟩
    have HB2 := Aside0.mk hd
    clear hd
    obtain ⟨B, hB⟩ : ∃ B, w1.heap.size = B := ⟨_, rfl⟩
    rw [hB] at HM2 HB2 hGB ⊢
    have hBG : B ≠ w.heap.size := by omega
    have HBB := Lib.hid hB
    clear hB
    generalize w1.alloc (.cells #[.slice none 0 0, .slice none 0 0, .slice none 0 0, .slice none 0 0, .slice none 0 0, .nilFunc, .nilFunc, .int .i64 0] 57) = w2 at HM2 HB2 ⊢
    go_wp2_with fail
    go_loopw [8, 21] (fun v8 v21 wr => ∃ (k : Nat) (p : Pst) (o : Opn), v21 = .int .i64 k ∧ k ≤ ls.length ∧ Aside0 (parseGo ls pst0 .none = parseGo (ls.drop k) p o) ∧ Aside0 (Inv p o) ∧ Aside0 (Mst wr B B p o 0) ∧ Aside0 (Below B w1 wr)) (fun v8 v21 _ => ls.length - (intOf v21).toNat)
    case atStart => exact ⟨0, pst0, .none, rfl, Nat.zero_le _, ⟨by rw [List.drop_zero]⟩, ⟨inv0⟩, ⟨HM2.out⟩, ⟨HB2.out⟩⟩
    case round =>
      obtain ⟨k, p, o, rfl, hk, HPG, HIV, HM, HB⟩ := hrel
      have hBw : B ≤ wr.heap.size := by
        have h1 := HB.out.size
        have h2 := HBB.out
        omega
      have HG := Aside0.mk ((HB.out.block _ hGB).trans HG1.out)
      by_cases hlt : k < ls.length
      · have RLr := Aside0.mk (Kd.C_below RL1.out (by rw [HBB.out]; exact HB.out))
        obtain ⟨ad, rfl, r0, r1⟩ := at_T59 RLr.out (k : Int) (by omega) (by omega)
        have hx := HLS.out _ (List.getElem_mem hlt)
        have hrd : rd_T59 ls (k : Int) = ls[k] := by simp [rd_T59, List.getD_eq_getElem?_getD, hlt]
        rw [hrd] at r0 r1
        simp only [Int.toNat_natCast] at r0 r1
        have hgo := HPG.out
        rw [List.drop_eq_getElem_cons hlt] at hgo
        rw [parseGo_cons] at hgo
        generalize ls[k] = x at *
        obtain ⟨xd, xt⟩ := x
        have HA3 := Aside0.mk ((Below.refl wr.heap.size wr).alloc (Nat.le_refl _) (.cells #[.bool xd, .string xt] 59))
        have HLC := Lib.hid (line_calls B B p o xd xt hx (wr.alloc (.cells #[.bool xd, .string xt] 59)) (Nat.le_trans hBw HA3.out.size) (Mst_below HM.out HA3.out) HIV.out)
        have hinv := inv_line (p := p) (o := o) (d := xd) hx HIV.out
        obtain ⟨⟨P', O', E'⟩, hL⟩ : ∃ q, lineR p o xd xt = q := ⟨_, rfl⟩
        rw [hL] at HLC hgo hinv
        simp only at HLC hgo hinv r0 r1
        have HINV := Lib.hid hinv
        clear hL hinv
        have CALL := HLC
        by_cases hE : E' = 0
        · subst hE
          rw [if_pos rfl] at hgo
          have HGO := Aside0.mk hgo
          clear hgo
          go_wp2_with (first | (go_at_call 19; refine HLC.out.mono ?_; rintro y w3 ⟨rfl, hm, hb⟩; have HM3 := Aside0.mk hm; have HB3 := Aside0.mk (HB.out.trans ((HA3.out.mono hBw).trans hb)); obtain ⟨_, _, _, _, _, _, _, _, hp3, _⟩ := hm; have q7 : w3.cell? ⟨B, 7, none⟩ = some (.int .i64 0) := blk_cell hp3 7; clear hp3 hb))
          exact ⟨⟨k + 1, P', O', by go_num, by omega, ⟨HGO.out⟩, ⟨HINV.out trivial⟩, ⟨HM3.out⟩, ⟨HB3.out⟩⟩, by simp [intOf]; omega⟩
        · rw [if_neg hE] at hgo
          have HGO := Aside0.mk hgo
          clear hgo
          have hEb : (E' != 0) = true := bne_iff_ne.2 hE
          go_upto_region 10 with (first | (go_at_call 19; refine HLC.out.mono ?_; rintro y w3 ⟨rfl, hm, hb⟩; have HB3 := Aside0.mk (HB.out.trans ((HA3.out.mono hBw).trans hb)); obtain ⟨_, _, _, _, _, _, _, _, hp3, _⟩ := hm; have HP3 := Aside0.mk hp3; have q7 : w3.cell? ⟨B, 7, none⟩ = some (.int .i64 E') := blk_cell hp3 7; clear hp3 hb))
          have HG3 := Aside0.mk ((HB3.out.block _ hGB).trans HG1.out)
          refine start_ (n := 7) (S := fun w' => w'.cell? ⟨B, 7, none⟩ = some (.int .i64 E')) (ds := []) #[false, false, false, false, false, false, false] (by kernel_rfl) rfl rfl (q7) (fun hHeld => ?_)
          have g0 := blk_cell HG3.out 0
          have g1 := blk_cell (HG3.out) 1
          have g2 := blk_cell (HG3.out) 2
          have f0 := blk_frozen (HG3.out) 0
          have f1 := blk_frozen (HG3.out) 1
          have f2 := blk_frozen (HG3.out) 2
          refine pure_ (i := 0) (N := some 33) (v := ?_) (a' := ?_) #[true, false, false, false, false, false, false] rfl rfl (by kernel_rfl) (fun _ _ _ h => h) (Or.inl ⟨by rfl, ?_⟩) ?_ ?_
          rotate_left
          · intro w'
            go_simp
            with_reducible rfl
          rotate_left
          · simp only [Act.put, List.setIfInBounds_toArray, List.set_cons_zero, List.set_cons_succ, i64_w, i32_w]
            rfl
          refine pure_ (i := 1) (N := some 34) (v := ?_) (a' := ?_) #[true, true, false, false, false, false, false] rfl rfl (by kernel_rfl) (fun _ _ _ h => h) (Or.inl ⟨by rfl, ?_⟩) ?_ ?_
          rotate_left
          · intro w'
            go_simp
            with_reducible rfl
          rotate_left
          · simp only [Act.put, List.setIfInBounds_toArray, List.set_cons_zero, List.set_cons_succ, i64_w, i32_w]
            rfl
          refine pure_ (i := 2) (N := some 35) (v := ?_) (a' := ?_) #[true, true, true, false, false, false, false] rfl rfl (by kernel_rfl) (fun _ _ _ h => h) (Or.inl ⟨by rfl, ?_⟩) ?_ ?_
          rotate_left
          · intro w'
            go_simp
            with_reducible rfl
          rotate_left
          · simp only [Act.put, List.setIfInBounds_toArray, List.set_cons_zero, List.set_cons_succ, i64_w, i32_w]
            rfl
          refine pure_ (i := 3) (N := some 36) (v := ?_) (a' := ?_) #[true, true, true, true, false, false, false] rfl rfl (by kernel_rfl) (fun _ _ _ h => h) (Or.inl ⟨by rfl, ?_⟩) ?_ ?_
          rotate_left
          · intro w'
            go_simp
            with_reducible rfl
          rotate_left
          · simp only [Act.put, List.setIfInBounds_toArray, List.set_cons_zero, List.set_cons_succ, i64_w, i32_w]
            rfl
          refine take_ (i := 4) (N := some 37) (v := ?_) (a' := ?_) #[true, true, true, true, true, false, false] rfl rfl (by kernel_rfl) (fun _ _ _ h => h) (Or.inl ⟨by rfl, ?_⟩) hHeld ?_ ?_
          rotate_left
          · intro w' s0
            go_simp
            with_reducible rfl
          rotate_left
          · simp only [Act.put, List.setIfInBounds_toArray, List.set_cons_zero, List.set_cons_succ, i64_w, i32_w]
            rfl
          refine one_ (i := 5) (N := none) #[true, true, true, true, true, true, false] rfl rfl (by kernel_rfl) (by decide) (fun K hK => ?_)
          refine skip_ (w1 := ?_) (by rfl) rfl ?_ ?_
          rotate_left
          · go_simp
            rfl
          refine hK.out _ _ (blk_cell (blk_far (blk_far (blk_far (blk_drew HP3.out) hBG _) hBG _) hBG _) 7) (fun hHeld => ?_)
          clear hK K
          refine pure_ (i := 6) (N := some 3) (v := ?_) (a' := ?_) #[true, true, true, true, true, true, true] rfl rfl (by kernel_rfl) (fun _ _ _ h => h) (Or.inl ⟨by rfl, ?_⟩) ?_ ?_
          rotate_left
          · intro w'
            go_simp
            with_reducible rfl
          rotate_left
          · simp only [Act.put, List.setIfInBounds_toArray, List.set_cons_zero, List.set_cons_succ, i64_w, i32_w]
            rfl
          refine done_ (by kernel_rfl) ?_
          have hz := HZ1.out
          rw [HGO.out] at hz
          unfold parseEnd at hz
          rw [if_neg hE] at hz
          subst hz
          go_wp2_with fail
          have HGN := blk_drew (g_nil HG3.out)
          have HBN := (g_below (a := .slice none 0 0) (b := .slice none 0 0) (c := .slice none 0 0) (HB1.out.trans (HB3.out.mono (Nat.le_of_lt hGB)))).drew
          generalize (((w3.setCell ⟨w.heap.size, 0, none⟩ (.slice none 0 0)).setCell ⟨w.heap.size, 1, none⟩ (.slice none 0 0)).setCell ⟨w.heap.size, 2, none⟩ (.slice none 0 0)).drew = w9 at HGN HBN ⊢
          have z0 := blk_cell HGN 0
          have z1 := blk_cell HGN 1
          have z2 := blk_cell HGN 2
          refine bodyPost_ret (v := .tuple #[.agg #[.slice none 0 0, .slice none 0 0, .slice none 0 0], .int .i64 E']) (by simp [results, Tryz.results10, go_sem, z0, z1, z2]) rfl ?_
          exact ans_nil HBN
      · obtain rfl : k = ls.length := by omega
        have hgo := HPG.out
        rw [List.drop_length] at hgo
        have hgo2 : parseGo ls pst0 .none = (p, o, 0) := hgo
        have hz := HZ1.out
        rw [hgo2] at hz
        unfold parseEnd at hz
        rw [if_pos rfl] at hz
        simp only at hz
        clear hgo hgo2
        have HEN := Lib.hid (end_calls B B p o 0 wr HM.out HIV.out w.heap.size 26 _ HG.out (by decide))
        obtain ⟨E', hE'⟩ : ∃ q, overE p o 0 = q := ⟨_, rfl⟩
        obtain ⟨P', hP'⟩ : ∃ q, overP p o = q := ⟨_, rfl⟩
        rw [hE', hP'] at HEN hz
        clear hE' hP'
        by_cases hE : E' = 0
        · subst hE
          rw [if_pos rfl] at hz
          have HZ2 := Lib.hid hz
          clear hz
          go_wp2_with (first | (go_at_call 20; refine HEN.out.mono ?_; rintro y w3 ⟨rfl, hm, hb, hq⟩; have HB3 := Aside0.mk (HB.out.trans hb); have HG3 := Aside0.mk hq; obtain ⟨vE, vP, vD, vO, vR, fd, fo, _, hp3, hr3, _⟩ := hm; obtain ⟨AE, cE, rfl⟩ := Kd.R_slice hr3.1; obtain ⟨AP, cP, rfl⟩ := Kd.R_slice hr3.2.1; obtain ⟨AD, cD, rfl⟩ := Kd.R_slice hr3.2.2.1; have HP3 := Aside0.mk hp3; have HR3 := Aside0.mk hr3; have q7 : w3.cell? ⟨B, 7, none⟩ = some (.int .i64 0) := blk_cell hp3 7; have q0 := blk_cell hp3 0; have q1 := blk_cell hp3 1; have q2 := blk_cell hp3 2; have g0 := blk_cell HG3.out 0; have g1 := blk_cell HG3.out 1; have g2 := blk_cell HG3.out 2; have f0 := blk_frozen HG3.out 0; have f1 := blk_frozen HG3.out 1; have f2 := blk_frozen HG3.out 2; clear hp3 hr3 hb hq))
          have hz2 := HZ2.out
          subst hz2
          have HGN := g_put (a := .slice AE P'.edges.length cE) (b := .slice AP P'.pools.length cP) (c := .slice AD P'.defs.length cD) HG3.out
          have HBN := g_below (a := .slice AE P'.edges.length cE) (b := .slice AP P'.pools.length cP) (c := .slice AD P'.defs.length cD) (HB1.out.trans (HB3.out.mono (Nat.le_of_lt hGB)))
          have hkk := Kept.then_ (Kept.then_ (kept_one w3 w.heap.size 0 (.slice AE P'.edges.length cE)) (kept_one _ w.heap.size 1 (.slice AP P'.pools.length cP)) (fun k hk => .inl hk)) (kept_one _ w.heap.size 2 (.slice AD P'.defs.length cD)) (fun k hk => .inl hk)
          have HRN := Rows_kept HR3.out hkk (apart_one HG3.out (by decide))
          clear hkk
          generalize ((w3.setCell ⟨w.heap.size, 0, none⟩ (.slice AE P'.edges.length cE)).setCell ⟨w.heap.size, 1, none⟩ (.slice AP P'.pools.length cP)).setCell ⟨w.heap.size, 2, none⟩ (.slice AD P'.defs.length cD) = w9 at HGN HBN HRN ⊢
          have z0 := blk_cell HGN 0
          have z1 := blk_cell HGN 1
          have z2 := blk_cell HGN 2
          refine bodyPost_ret (v := .tuple #[.agg #[.slice AE P'.edges.length cE, .slice AP P'.pools.length cP, .slice AD P'.defs.length cD], .int .i64 0]) (by simp [results, Tryz.results10, go_sem, z0, z1, z2]) rfl ?_
          obtain ⟨n1, n2, n3, _, _⟩ := HRN
          have hle := Nat.le_of_lt hGB
          exact ⟨_, _, _, rfl, Kd.R_lower (Kd.R_mono (R_not n1 n2 (by decide)) (fun k hk => ⟨hk.2, hk.1⟩)) hle, Kd.R_lower (Kd.R_mono (R_not (R_not n2 n1 (by decide)) n3 (by decide)) (fun k hk => ⟨hk.1.2, hk.2⟩)) hle, Kd.R_lower (Kd.R_mono (R_not (R_not n3 n1 (by decide)) n2 (by decide)) (fun k hk => ⟨hk.1.2, hk.2⟩)) hle, HBN⟩
        · rw [if_neg hE] at hz
          have HZ2 := Lib.hid hz
          clear hz
          have hEb : (E' != 0) = true := bne_iff_ne.2 hE
          go_upto_region 14 with (first | (go_at_call 20; refine HEN.out.mono ?_; rintro y w3 ⟨rfl, hm, hb, hq⟩; have HB3 := Aside0.mk (HB.out.trans hb); have HG3 := Aside0.mk hq; obtain ⟨_, _, _, _, _, _, _, _, hp3, _⟩ := hm; have HP3 := Aside0.mk hp3; have q7 : w3.cell? ⟨B, 7, none⟩ = some (.int .i64 E') := blk_cell hp3 7; clear hp3 hb hq))
          refine start_ (n := 7) (S := fun w' => w'.cell? ⟨B, 7, none⟩ = some (.int .i64 E')) (ds := []) #[false, false, false, false, false, false, false] (by kernel_rfl) rfl rfl (q7) (fun hHeld => ?_)
          have g0 := blk_cell HG3.out 0
          have g1 := blk_cell (HG3.out) 1
          have g2 := blk_cell (HG3.out) 2
          have f0 := blk_frozen (HG3.out) 0
          have f1 := blk_frozen (HG3.out) 1
          have f2 := blk_frozen (HG3.out) 2
          refine pure_ (i := 0) (N := some 46) (v := ?_) (a' := ?_) #[true, false, false, false, false, false, false] rfl rfl (by kernel_rfl) (fun _ _ _ h => h) (Or.inl ⟨by rfl, ?_⟩) ?_ ?_
          rotate_left
          · intro w'
            go_simp
            with_reducible rfl
          rotate_left
          · simp only [Act.put, List.setIfInBounds_toArray, List.set_cons_zero, List.set_cons_succ, i64_w, i32_w]
            rfl
          refine pure_ (i := 1) (N := some 47) (v := ?_) (a' := ?_) #[true, true, false, false, false, false, false] rfl rfl (by kernel_rfl) (fun _ _ _ h => h) (Or.inl ⟨by rfl, ?_⟩) ?_ ?_
          rotate_left
          · intro w'
            go_simp
            with_reducible rfl
          rotate_left
          · simp only [Act.put, List.setIfInBounds_toArray, List.set_cons_zero, List.set_cons_succ, i64_w, i32_w]
            rfl
          refine pure_ (i := 2) (N := some 48) (v := ?_) (a' := ?_) #[true, true, true, false, false, false, false] rfl rfl (by kernel_rfl) (fun _ _ _ h => h) (Or.inl ⟨by rfl, ?_⟩) ?_ ?_
          rotate_left
          · intro w'
            go_simp
            with_reducible rfl
          rotate_left
          · simp only [Act.put, List.setIfInBounds_toArray, List.set_cons_zero, List.set_cons_succ, i64_w, i32_w]
            rfl
          refine pure_ (i := 3) (N := some 49) (v := ?_) (a' := ?_) #[true, true, true, true, false, false, false] rfl rfl (by kernel_rfl) (fun _ _ _ h => h) (Or.inl ⟨by rfl, ?_⟩) ?_ ?_
          rotate_left
          · intro w'
            go_simp
            with_reducible rfl
          rotate_left
          · simp only [Act.put, List.setIfInBounds_toArray, List.set_cons_zero, List.set_cons_succ, i64_w, i32_w]
            rfl
          refine take_ (i := 4) (N := some 50) (v := ?_) (a' := ?_) #[true, true, true, true, true, false, false] rfl rfl (by kernel_rfl) (fun _ _ _ h => h) (Or.inl ⟨by rfl, ?_⟩) hHeld ?_ ?_
          rotate_left
          · intro w' s0
            go_simp
            with_reducible rfl
          rotate_left
          · simp only [Act.put, List.setIfInBounds_toArray, List.set_cons_zero, List.set_cons_succ, i64_w, i32_w]
            rfl
          refine one_ (i := 5) (N := none) #[true, true, true, true, true, true, false] rfl rfl (by kernel_rfl) (by decide) (fun K hK => ?_)
          refine skip_ (w1 := ?_) (by rfl) rfl ?_ ?_
          rotate_left
          · go_simp
            rfl
          refine hK.out _ _ (blk_cell (blk_far (blk_far (blk_far (blk_drew HP3.out) hBG _) hBG _) hBG _) 7) (fun hHeld => ?_)
          clear hK K
          refine pure_ (i := 6) (N := some 3) (v := ?_) (a' := ?_) #[true, true, true, true, true, true, true] rfl rfl (by kernel_rfl) (fun _ _ _ h => h) (Or.inl ⟨by rfl, ?_⟩) ?_ ?_
          rotate_left
          · intro w'
            go_simp
            with_reducible rfl
          rotate_left
          · simp only [Act.put, List.setIfInBounds_toArray, List.set_cons_zero, List.set_cons_succ, i64_w, i32_w]
            rfl
          refine done_ (by kernel_rfl) ?_
          have hz := HZ2.out
          subst hz
          go_wp2_with fail
          have HGN := blk_drew (g_nil HG3.out)
          have HBN := (g_below (a := .slice none 0 0) (b := .slice none 0 0) (c := .slice none 0 0) (HB1.out.trans (HB3.out.mono (Nat.le_of_lt hGB)))).drew
          generalize (((w3.setCell ⟨w.heap.size, 0, none⟩ (.slice none 0 0)).setCell ⟨w.heap.size, 1, none⟩ (.slice none 0 0)).setCell ⟨w.heap.size, 2, none⟩ (.slice none 0 0)).drew = w9 at HGN HBN ⊢
          have z0 := blk_cell HGN 0
          have z1 := blk_cell HGN 1
          have z2 := blk_cell HGN 2
          refine bodyPost_ret (v := .tuple #[.agg #[.slice none 0 0, .slice none 0 0, .slice none 0 0], .int .i64 E']) (by simp [results, Tryz.results10, go_sem, z0, z1, z2]) rfl ?_
          exact ans_nil HBN
  · have h0b : (c != 0) = true := bne_iff_ne.2 h0
    have hz := HZ.out
    rw [if_neg h0] at hz
    subst hz
    go_enter Tryz.func10, Tryz.ntmps10
    go_wp2_with (first | (go_at_call 18; refine HL.out.mono ?_; rintro x w1 ⟨vl, rfl, hl, hb⟩; obtain ⟨Al, cl, rfl⟩ := Kd.R_slice hl; have HG1 := Aside0.mk (blk_below HGa.out hb); have HB1 := Aside0.mk (HA.out.trans (hb.mono (by omega))); have g0 := blk_cell HG1.out 0; have g1 := blk_cell HG1.out 1; have g2 := blk_cell HG1.out 2; have f0 := blk_frozen HG1.out 0; have f1 := blk_frozen HG1.out 1; have f2 := blk_frozen HG1.out 2; clear hl hb))
    have HGN := g_nil HG1.out
    have HBN := g_below (a := .slice none 0 0) (b := .slice none 0 0) (c := .slice none 0 0) HB1.out
    generalize ((w1.setCell ⟨w.heap.size, 0, none⟩ (.slice none 0 0)).setCell ⟨w.heap.size, 1, none⟩ (.slice none 0 0)).setCell ⟨w.heap.size, 2, none⟩ (.slice none 0 0) = w9 at HGN HBN ⊢
    have z0 := blk_cell HGN 0
    have z1 := blk_cell HGN 1
    have z2 := blk_cell HGN 2
    refine bodyPost_ret (v := .tuple #[.agg #[.slice none 0 0, .slice none 0 0, .slice none 0 0], .int .i64 800]) (by simp [results, Tryz.results10, go_sem, z0, z1, z2]) rfl ?_
    exact ans_nil HBN

def manifest_Parse.f (a0 : ByteArray) : Option (List S42 × List S44 × List ByteArray × Int) := if a0.size ≤ 9223372036854775807 then some (parseB a0) else none
theorem manifest_Parse.calls (a0 : ByteArray) (r1 : List S42) (r2 : List S44) (r3 : List ByteArray) (r4 : Int) (w : World) (h : manifest_Parse.f a0 = some (r1, r2, r3, r4)) :
    Calls Tryz.prog 10 #[.string a0] w fun e w' => ∃ v0_ v1_ v2_ : Value, e = .returned (.tuple #[.agg #[v0_, v1_, v2_], .int .i64 r4]) ∧ Kd.R k42 42 w' w.heap.size (fun k_ => some k_ ≠ (v2_ : Value).ownBlock) v0_ r1 ∧ Kd.R k44 44 w' w.heap.size (fun _ => True) v1_ r2 ∧ Kd.R Kd.string 9 w' w.heap.size (fun _ => True) v2_ r3 ∧ Below w.heap.size w w' := by
  unfold manifest_Parse.f at h
  split at h
  · rename_i hs
    have h2 := Option.some.inj h
    have hc := parse_calls a0 hs w
    rw [h2] at hc
    refine hc.mono ?_
    rintro e w1 ⟨v0, v1, v2, he, n1, n2, n3, hb⟩
    exact ⟨v0, v1, v2, he, Kd.R_mono n1 (fun k hk => hk.2), Kd.R_mono n2 (fun k hk => trivial), Kd.R_mono n3 (fun k hk => trivial), hb⟩
  · cases h
end Go.Proofs.YtefheailchihaaaGreatDoor.Print

end
section
namespace Go.Proofs.YtefheailchihaaaGreatDoor.Print
open Go.RowKit Go.Lib Go.Shelf Go.Proofs.YtefheailchihaaaGreatDoorW.PrintWords Go.Proofs.YtefheailchihaaaGreatDoorW.PrintLast Go.Proofs.YtefheailchihaaaGreatDoorW.PrintMore
set_option linter.unusedVariables false
set_option linter.unusedSimpArgs false
attribute [local go_sem ↓] Go.wp_at_zero Go.wp_at_succ

def wantE : List S42 := [⟨[⟨#[97, 46, 111]⟩], [⟨#[97, 46, 99]⟩], [⟨#[97, 46, 104]⟩], [], ⟨#[99, 99, 32, 45, 111, 50, 32, 97, 46, 99, 32, 45, 111, 32, 97, 46, 111, 32, 45, 103]⟩, true, ⟨#[116, 119, 111]⟩⟩, ⟨[⟨#[98, 46, 111]⟩], [⟨#[98, 46, 99]⟩], [], [⟨#[97, 46, 111]⟩], ⟨#[99, 99, 32, 45, 111, 50, 32, 98, 46, 99, 32, 45, 111, 32, 98, 46, 111, 32]⟩, true, ⟨#[116, 119, 111]⟩⟩]
def wantP : List S44 := [⟨⟨#[116, 119, 111]⟩, 2⟩]
def wantD : List ByteArray := [⟨#[98, 46, 111]⟩]
def badR : ByteArray := ⟨#[114, 117, 108, 101, 32, 99, 99, 10]⟩
def badB : ByteArray := ⟨#[98, 117, 105, 108, 100, 32, 97, 32, 58, 32, 99, 99, 32, 98, 10]⟩
theorem parse_text : parseB textB = (wantE, wantP, wantD, 0) := by kernel_rfl
theorem parse_badR : parseB badR = ([], [], [], 800) := by kernel_rfl
theorem parse_badB : parseB badB = ([], [], [], 800) := by kernel_rfl
theorem same_want : cruciblelaw0_SameGraph.f 100 wantE wantP wantD wantE wantP wantD = some true := by kernel_rfl

/-- Rows of one and of two, as they lie. -/
theorem C_one {α : Type} {d : Kd α} {w : World} {g t : Nat} {cells : Array Value} {x : α} {cs : List Value} (h : w.heap[g]? = some (.cells cells t (0, 0))) (hK : d.K w x cs) (hc : cells.toList = cs) : d.C w (some ⟨g, 0, none⟩) 1 [x] := by
  refine ⟨rfl, by omega, fun _ => ⟨_, rfl, fun j p hj => ?_⟩⟩
  cases j with
  | zero =>
    simp only [List.getElem?_cons_zero, Option.some.injEq] at hj
    subst hj
    refine ⟨cs, d.K_len hK, hK, fun i u hi => ?_⟩
    have h1 := blk_cell h i
    have h2 : (⟨g, 0, none⟩ : Addr).add (0 * d.sz + i) = ⟨g, i, none⟩ := by simp [Addr.add]; try omega
    rw [h2, h1, ← hi, ← hc, Array.getElem?_toList]
  | succ j => simp at hj
theorem C_two {α : Type} {d : Kd α} {w : World} {g t : Nat} {cells : Array Value} {x y : α} {c1 c2 : List Value} (h : w.heap[g]? = some (.cells cells t (0, 0))) (hK1 : d.K w x c1) (hK2 : d.K w y c2) (hc : cells.toList = c1 ++ c2) : d.C w (some ⟨g, 0, none⟩) 2 [x, y] := by
  refine ⟨rfl, by omega, fun _ => ⟨_, rfl, fun j p hj => ?_⟩⟩
  have l1 := d.K_len hK1
  have l2 := d.K_len hK2
  match j, hj with
  | 0, hj =>
    simp only [List.getElem?_cons_zero, Option.some.injEq] at hj
    subst hj
    refine ⟨c1, l1, hK1, fun i u hi => ?_⟩
    have h1 := blk_cell h i
    have h2 : (⟨g, 0, none⟩ : Addr).add (0 * d.sz + i) = ⟨g, i, none⟩ := by simp [Addr.add]; try omega
    have h3 : i < c1.length := (List.getElem?_eq_some_iff.1 hi).1
    rw [h2, h1, ← Array.getElem?_toList, hc, List.getElem?_append_left h3]
    exact hi
  | 1, hj =>
    simp only [List.getElem?_cons_succ, List.getElem?_cons_zero, Option.some.injEq] at hj
    subst hj
    refine ⟨c2, l2, hK2, fun i u hi => ?_⟩
    have h1 := blk_cell h (d.sz + i)
    have h2 : (⟨g, 0, none⟩ : Addr).add (1 * d.sz + i) = ⟨g, d.sz + i, none⟩ := by simp [Addr.add]; try omega
    rw [h2, h1, ← Array.getElem?_toList, hc, List.getElem?_append_right (by omega)]
    rw [show d.sz + i - c1.length = i from by omega]
    exact hi
  | j + 2, hj => simp at hj

set_option maxHeartbeats 4000000 in
set_option maxRecDepth 100000 in
theorem awake_calls (w : World) : Calls Tryz.prog 15 #[] w fun e w' => e = .returned (.bool true) ∧ Below w.heap.size w w' := by
  have HT := Lib.hid (fun W => cruciblelaw8_text.calls textB W rfl)
  have H1 := Lib.hid (fun W => manifest_Parse.calls textB wantE wantP wantD 0 W (by unfold manifest_Parse.f; rw [if_pos (by decide), parse_text]))
  have H2 := Lib.hid (fun W => manifest_Parse.calls badR [] [] [] 800 W (by unfold manifest_Parse.f; rw [if_pos (by decide), parse_badR]))
  have H3 := Lib.hid (fun W => manifest_Parse.calls badB [] [] [] 800 W (by unfold manifest_Parse.f; rw [if_pos (by decide), parse_badB]))
  obtain ⟨T, hT⟩ : ∃ T, textB = T := ⟨_, rfl⟩
  obtain ⟨wE, hE⟩ : ∃ q, wantE = q := ⟨_, rfl⟩
  obtain ⟨wP, hP⟩ : ∃ q, wantP = q := ⟨_, rfl⟩
  obtain ⟨wD, hD⟩ : ∃ q, wantD = q := ⟨_, rfl⟩
  rw [hT] at HT H1
  rw [hE, hP, hD] at H1
  have HE := Lib.hid hE
  have HP := Lib.hid hP
  have HD := Lib.hid hD
  clear hT hE hP hD
  go_enter Tryz.func15, Tryz.ntmps15
  go_upto_region 5 with (first | (go_at_call 16; refine (HT.out _).mono ?_; rintro x w1 ⟨rfl, hd⟩; have HB1 := Aside0.mk hd.below; clear hd) | (go_at_call_of 10 (Value.string T); refine (H1.out _).mono ?_; rintro x w2 ⟨v0, v1, v2, rfl, r0, r1, r2, hb⟩; obtain ⟨A0, c0, rfl, l0, C0⟩ := Kd.R_reads r0; obtain ⟨A1, c1, rfl, l1, C1⟩ := Kd.R_reads r1; obtain ⟨A2, c2, rfl, l2, C2⟩ := Kd.R_reads r2; have HB2 := Aside0.mk (HB1.out.trans (hb.mono HB1.out.size)); have HC0 := Aside0.mk C0; have HC1 := Aside0.mk C1; have HC2 := Aside0.mk C2; clear r0 r1 r2 C0 C1 C2 hb) | (go_at_call_of 10 (Value.string ⟨#[114, 117, 108, 101, 32, 99, 99, 10]⟩); refine (H2.out _).mono ?_; rintro x w3 ⟨u0, u1, u2, rfl, r0, r1, r2, hb⟩; obtain ⟨D0, d0, rfl⟩ := Kd.R_slice r0; obtain ⟨D1, d1, rfl⟩ := Kd.R_slice r1; obtain ⟨D2, d2, rfl⟩ := Kd.R_slice r2; have hal := (Below.refl w2.heap.size w2).alloc (Nat.le_refl _) (.cells #[.slice A0 wE.length c0, .slice A1 wP.length c1, .slice A2 wD.length c2] 26); have HB3 := Aside0.mk (HB2.out.trans ((hal.mono HB2.out.size).trans (hb.mono (Nat.le_trans HB2.out.size hal.size)))); have BT3 := Aside0.mk (blk_below (blk_new w2 (.cells #[.slice A0 wE.length c0, .slice A1 wP.length c1, .slice A2 wD.length c2] 26)) hb); have HC03 := Aside0.mk (Kd.C_below (Kd.C_below HC0.out hal) hb); have HC13 := Aside0.mk (Kd.C_below (Kd.C_below HC1.out hal) hb); have HC23 := Aside0.mk (Kd.C_below (Kd.C_below HC2.out hal) hb); clear r0 r1 r2 hal hb HC0 HC1 HC2) | (go_at_call_of 10 (Value.string ⟨#[98, 117, 105, 108, 100, 32, 97, 32, 58, 32, 99, 99, 32, 98, 10]⟩); refine (H3.out _).mono ?_; rintro x w4 ⟨u0, u1, u2, rfl, r0, r1, r2, hb⟩; obtain ⟨F0, f0, rfl⟩ := Kd.R_slice r0; obtain ⟨F1, f1, rfl⟩ := Kd.R_slice r1; obtain ⟨F2, f2, rfl⟩ := Kd.R_slice r2; have hal := (Below.refl w3.heap.size w3).alloc (Nat.le_refl _) (.cells #[.slice D0 0 d0, .slice D1 0 d1, .slice D2 0 d2] 26); have HB4 := Aside0.mk (HB3.out.trans ((hal.mono HB3.out.size).trans (hb.mono (Nat.le_trans HB3.out.size hal.size)))); have BT4 := Aside0.mk (blk_below (blk_below BT3.out hal) hb); have HC04 := Aside0.mk (Kd.C_below (Kd.C_below HC03.out hal) hb); have HC14 := Aside0.mk (Kd.C_below (Kd.C_below HC13.out hal) hb); have HC24 := Aside0.mk (Kd.C_below (Kd.C_below HC23.out hal) hb); clear r0 r1 r2 hal hb HC03 HC13 HC23 BT3))
  obtain ⟨b, hb⟩ : ∃ b, w4.heap.size = b := ⟨_, rfl⟩
  rw [hb]
  have hb4 : w4.heap.size = b := hb
  have k0 : Aside0 ((w4.alloc (.cells #[.slice F0 0 f0, .slice F1 0 f1, .slice F2 0 f2] 26)).heap[b]? = some (.cells #[.slice F0 0 f0, .slice F1 0 f1, .slice F2 0 f2] 26)) := ⟨by have := blk_new w4 (.cells #[.slice F0 0 f0, .slice F1 0 f1, .slice F2 0 f2] 26); rwa [hb] at this⟩
  have s0 : (w4.alloc (.cells #[.slice F0 0 f0, .slice F1 0 f1, .slice F2 0 f2] 26)).heap.size = b + 1 := by simp [hb]
  replace HB4 := Aside0.mk (below_alloc HB4.out (.cells #[.slice F0 0 f0, .slice F1 0 f1, .slice F2 0 f2] 26))
  replace BT4 := Aside0.mk (blk_alloc BT4.out (.cells #[.slice F0 0 f0, .slice F1 0 f1, .slice F2 0 f2] 26))
  replace HC04 := Aside0.mk (Kd.C_alloc HC04.out (.cells #[.slice F0 0 f0, .slice F1 0 f1, .slice F2 0 f2] 26))
  replace HC14 := Aside0.mk (Kd.C_alloc HC14.out (.cells #[.slice F0 0 f0, .slice F1 0 f1, .slice F2 0 f2] 26))
  replace HC24 := Aside0.mk (Kd.C_alloc HC24.out (.cells #[.slice F0 0 f0, .slice F1 0 f1, .slice F2 0 f2] 26))
  clear k0
  generalize w4.alloc (.cells #[.slice F0 0 f0, .slice F1 0 f1, .slice F2 0 f2] 26) = u0 at s0 HB4 BT4 HC04 HC14 HC24 ⊢
  have k1 : Aside0 ((u0.alloc (.cells #[.string ⟨#[97, 46, 111]⟩] 9)).heap[b + 1]? = some (.cells #[.string ⟨#[97, 46, 111]⟩] 9)) := ⟨by have := blk_new u0 (.cells #[.string ⟨#[97, 46, 111]⟩] 9); rwa [s0] at this⟩
  have s1 : (u0.alloc (.cells #[.string ⟨#[97, 46, 111]⟩] 9)).heap.size = b + 1 + 1 := by simp [s0]
  replace HB4 := Aside0.mk (below_alloc HB4.out (.cells #[.string ⟨#[97, 46, 111]⟩] 9))
  replace BT4 := Aside0.mk (blk_alloc BT4.out (.cells #[.string ⟨#[97, 46, 111]⟩] 9))
  replace HC04 := Aside0.mk (Kd.C_alloc HC04.out (.cells #[.string ⟨#[97, 46, 111]⟩] 9))
  replace HC14 := Aside0.mk (Kd.C_alloc HC14.out (.cells #[.string ⟨#[97, 46, 111]⟩] 9))
  replace HC24 := Aside0.mk (Kd.C_alloc HC24.out (.cells #[.string ⟨#[97, 46, 111]⟩] 9))
  generalize u0.alloc (.cells #[.string ⟨#[97, 46, 111]⟩] 9) = u1 at k1 s1 HB4 BT4 HC04 HC14 HC24 ⊢
  have k2 : Aside0 ((u1.alloc (.cells #[.string ⟨#[97, 46, 99]⟩] 9)).heap[b + 1 + 1]? = some (.cells #[.string ⟨#[97, 46, 99]⟩] 9)) := ⟨by have := blk_new u1 (.cells #[.string ⟨#[97, 46, 99]⟩] 9); rwa [s1] at this⟩
  have s2 : (u1.alloc (.cells #[.string ⟨#[97, 46, 99]⟩] 9)).heap.size = b + 1 + 1 + 1 := by simp [s1]
  replace k1 := Aside0.mk (blk_alloc k1.out (.cells #[.string ⟨#[97, 46, 99]⟩] 9))
  replace HB4 := Aside0.mk (below_alloc HB4.out (.cells #[.string ⟨#[97, 46, 99]⟩] 9))
  replace BT4 := Aside0.mk (blk_alloc BT4.out (.cells #[.string ⟨#[97, 46, 99]⟩] 9))
  replace HC04 := Aside0.mk (Kd.C_alloc HC04.out (.cells #[.string ⟨#[97, 46, 99]⟩] 9))
  replace HC14 := Aside0.mk (Kd.C_alloc HC14.out (.cells #[.string ⟨#[97, 46, 99]⟩] 9))
  replace HC24 := Aside0.mk (Kd.C_alloc HC24.out (.cells #[.string ⟨#[97, 46, 99]⟩] 9))
  generalize u1.alloc (.cells #[.string ⟨#[97, 46, 99]⟩] 9) = u2 at k1 k2 s2 HB4 BT4 HC04 HC14 HC24 ⊢
  have k3 : Aside0 ((u2.alloc (.cells #[.string ⟨#[97, 46, 104]⟩] 9)).heap[b + 1 + 1 + 1]? = some (.cells #[.string ⟨#[97, 46, 104]⟩] 9)) := ⟨by have := blk_new u2 (.cells #[.string ⟨#[97, 46, 104]⟩] 9); rwa [s2] at this⟩
  have s3 : (u2.alloc (.cells #[.string ⟨#[97, 46, 104]⟩] 9)).heap.size = b + 1 + 1 + 1 + 1 := by simp [s2]
  replace k1 := Aside0.mk (blk_alloc k1.out (.cells #[.string ⟨#[97, 46, 104]⟩] 9))
  replace k2 := Aside0.mk (blk_alloc k2.out (.cells #[.string ⟨#[97, 46, 104]⟩] 9))
  replace HB4 := Aside0.mk (below_alloc HB4.out (.cells #[.string ⟨#[97, 46, 104]⟩] 9))
  replace BT4 := Aside0.mk (blk_alloc BT4.out (.cells #[.string ⟨#[97, 46, 104]⟩] 9))
  replace HC04 := Aside0.mk (Kd.C_alloc HC04.out (.cells #[.string ⟨#[97, 46, 104]⟩] 9))
  replace HC14 := Aside0.mk (Kd.C_alloc HC14.out (.cells #[.string ⟨#[97, 46, 104]⟩] 9))
  replace HC24 := Aside0.mk (Kd.C_alloc HC24.out (.cells #[.string ⟨#[97, 46, 104]⟩] 9))
  generalize u2.alloc (.cells #[.string ⟨#[97, 46, 104]⟩] 9) = u3 at k1 k2 k3 s3 HB4 BT4 HC04 HC14 HC24 ⊢
  have k4 : Aside0 ((u3.alloc (.cells #[.string ⟨#[98, 46, 111]⟩] 9)).heap[b + 1 + 1 + 1 + 1]? = some (.cells #[.string ⟨#[98, 46, 111]⟩] 9)) := ⟨by have := blk_new u3 (.cells #[.string ⟨#[98, 46, 111]⟩] 9); rwa [s3] at this⟩
  have s4 : (u3.alloc (.cells #[.string ⟨#[98, 46, 111]⟩] 9)).heap.size = b + 1 + 1 + 1 + 1 + 1 := by simp [s3]
  replace k1 := Aside0.mk (blk_alloc k1.out (.cells #[.string ⟨#[98, 46, 111]⟩] 9))
  replace k2 := Aside0.mk (blk_alloc k2.out (.cells #[.string ⟨#[98, 46, 111]⟩] 9))
  replace k3 := Aside0.mk (blk_alloc k3.out (.cells #[.string ⟨#[98, 46, 111]⟩] 9))
  replace HB4 := Aside0.mk (below_alloc HB4.out (.cells #[.string ⟨#[98, 46, 111]⟩] 9))
  replace BT4 := Aside0.mk (blk_alloc BT4.out (.cells #[.string ⟨#[98, 46, 111]⟩] 9))
  replace HC04 := Aside0.mk (Kd.C_alloc HC04.out (.cells #[.string ⟨#[98, 46, 111]⟩] 9))
  replace HC14 := Aside0.mk (Kd.C_alloc HC14.out (.cells #[.string ⟨#[98, 46, 111]⟩] 9))
  replace HC24 := Aside0.mk (Kd.C_alloc HC24.out (.cells #[.string ⟨#[98, 46, 111]⟩] 9))
  generalize u3.alloc (.cells #[.string ⟨#[98, 46, 111]⟩] 9) = u4 at k1 k2 k3 k4 s4 HB4 BT4 HC04 HC14 HC24 ⊢
  have k5 : Aside0 ((u4.alloc (.cells #[.string ⟨#[98, 46, 99]⟩] 9)).heap[b + 1 + 1 + 1 + 1 + 1]? = some (.cells #[.string ⟨#[98, 46, 99]⟩] 9)) := ⟨by have := blk_new u4 (.cells #[.string ⟨#[98, 46, 99]⟩] 9); rwa [s4] at this⟩
  have s5 : (u4.alloc (.cells #[.string ⟨#[98, 46, 99]⟩] 9)).heap.size = b + 1 + 1 + 1 + 1 + 1 + 1 := by simp [s4]
  replace k1 := Aside0.mk (blk_alloc k1.out (.cells #[.string ⟨#[98, 46, 99]⟩] 9))
  replace k2 := Aside0.mk (blk_alloc k2.out (.cells #[.string ⟨#[98, 46, 99]⟩] 9))
  replace k3 := Aside0.mk (blk_alloc k3.out (.cells #[.string ⟨#[98, 46, 99]⟩] 9))
  replace k4 := Aside0.mk (blk_alloc k4.out (.cells #[.string ⟨#[98, 46, 99]⟩] 9))
  replace HB4 := Aside0.mk (below_alloc HB4.out (.cells #[.string ⟨#[98, 46, 99]⟩] 9))
  replace BT4 := Aside0.mk (blk_alloc BT4.out (.cells #[.string ⟨#[98, 46, 99]⟩] 9))
  replace HC04 := Aside0.mk (Kd.C_alloc HC04.out (.cells #[.string ⟨#[98, 46, 99]⟩] 9))
  replace HC14 := Aside0.mk (Kd.C_alloc HC14.out (.cells #[.string ⟨#[98, 46, 99]⟩] 9))
  replace HC24 := Aside0.mk (Kd.C_alloc HC24.out (.cells #[.string ⟨#[98, 46, 99]⟩] 9))
  generalize u4.alloc (.cells #[.string ⟨#[98, 46, 99]⟩] 9) = u5 at k1 k2 k3 k4 k5 s5 HB4 BT4 HC04 HC14 HC24 ⊢
  have k6 : Aside0 ((u5.alloc (.cells #[.string ⟨#[97, 46, 111]⟩] 9)).heap[b + 1 + 1 + 1 + 1 + 1 + 1]? = some (.cells #[.string ⟨#[97, 46, 111]⟩] 9)) := ⟨by have := blk_new u5 (.cells #[.string ⟨#[97, 46, 111]⟩] 9); rwa [s5] at this⟩
  have s6 : (u5.alloc (.cells #[.string ⟨#[97, 46, 111]⟩] 9)).heap.size = b + 1 + 1 + 1 + 1 + 1 + 1 + 1 := by simp [s5]
  replace k1 := Aside0.mk (blk_alloc k1.out (.cells #[.string ⟨#[97, 46, 111]⟩] 9))
  replace k2 := Aside0.mk (blk_alloc k2.out (.cells #[.string ⟨#[97, 46, 111]⟩] 9))
  replace k3 := Aside0.mk (blk_alloc k3.out (.cells #[.string ⟨#[97, 46, 111]⟩] 9))
  replace k4 := Aside0.mk (blk_alloc k4.out (.cells #[.string ⟨#[97, 46, 111]⟩] 9))
  replace k5 := Aside0.mk (blk_alloc k5.out (.cells #[.string ⟨#[97, 46, 111]⟩] 9))
  replace HB4 := Aside0.mk (below_alloc HB4.out (.cells #[.string ⟨#[97, 46, 111]⟩] 9))
  replace BT4 := Aside0.mk (blk_alloc BT4.out (.cells #[.string ⟨#[97, 46, 111]⟩] 9))
  replace HC04 := Aside0.mk (Kd.C_alloc HC04.out (.cells #[.string ⟨#[97, 46, 111]⟩] 9))
  replace HC14 := Aside0.mk (Kd.C_alloc HC14.out (.cells #[.string ⟨#[97, 46, 111]⟩] 9))
  replace HC24 := Aside0.mk (Kd.C_alloc HC24.out (.cells #[.string ⟨#[97, 46, 111]⟩] 9))
  generalize u5.alloc (.cells #[.string ⟨#[97, 46, 111]⟩] 9) = u6 at k1 k2 k3 k4 k5 k6 s6 HB4 BT4 HC04 HC14 HC24 ⊢
  have k7 : Aside0 ((u6.alloc (.cells #[.slice (some ⟨b + 1, 0, none⟩) 1 1, .slice (some ⟨b + 1 + 1, 0, none⟩) 1 1, .slice (some ⟨b + 1 + 1 + 1, 0, none⟩) 1 1, .slice none 0 0, .string ⟨#[99, 99, 32, 45, 111, 50, 32, 97, 46, 99, 32, 45, 111, 32, 97, 46, 111, 32, 45, 103]⟩, .bool true, .string ⟨#[116, 119, 111]⟩, .slice (some ⟨b + 1 + 1 + 1 + 1, 0, none⟩) 1 1, .slice (some ⟨b + 1 + 1 + 1 + 1 + 1, 0, none⟩) 1 1, .slice none 0 0, .slice (some ⟨b + 1 + 1 + 1 + 1 + 1 + 1, 0, none⟩) 1 1, .string ⟨#[99, 99, 32, 45, 111, 50, 32, 98, 46, 99, 32, 45, 111, 32, 98, 46, 111, 32]⟩, .bool true, .string ⟨#[116, 119, 111]⟩] 42)).heap[b + 1 + 1 + 1 + 1 + 1 + 1 + 1]? = some (.cells #[.slice (some ⟨b + 1, 0, none⟩) 1 1, .slice (some ⟨b + 1 + 1, 0, none⟩) 1 1, .slice (some ⟨b + 1 + 1 + 1, 0, none⟩) 1 1, .slice none 0 0, .string ⟨#[99, 99, 32, 45, 111, 50, 32, 97, 46, 99, 32, 45, 111, 32, 97, 46, 111, 32, 45, 103]⟩, .bool true, .string ⟨#[116, 119, 111]⟩, .slice (some ⟨b + 1 + 1 + 1 + 1, 0, none⟩) 1 1, .slice (some ⟨b + 1 + 1 + 1 + 1 + 1, 0, none⟩) 1 1, .slice none 0 0, .slice (some ⟨b + 1 + 1 + 1 + 1 + 1 + 1, 0, none⟩) 1 1, .string ⟨#[99, 99, 32, 45, 111, 50, 32, 98, 46, 99, 32, 45, 111, 32, 98, 46, 111, 32]⟩, .bool true, .string ⟨#[116, 119, 111]⟩] 42)) := ⟨by have := blk_new u6 (.cells #[.slice (some ⟨b + 1, 0, none⟩) 1 1, .slice (some ⟨b + 1 + 1, 0, none⟩) 1 1, .slice (some ⟨b + 1 + 1 + 1, 0, none⟩) 1 1, .slice none 0 0, .string ⟨#[99, 99, 32, 45, 111, 50, 32, 97, 46, 99, 32, 45, 111, 32, 97, 46, 111, 32, 45, 103]⟩, .bool true, .string ⟨#[116, 119, 111]⟩, .slice (some ⟨b + 1 + 1 + 1 + 1, 0, none⟩) 1 1, .slice (some ⟨b + 1 + 1 + 1 + 1 + 1, 0, none⟩) 1 1, .slice none 0 0, .slice (some ⟨b + 1 + 1 + 1 + 1 + 1 + 1, 0, none⟩) 1 1, .string ⟨#[99, 99, 32, 45, 111, 50, 32, 98, 46, 99, 32, 45, 111, 32, 98, 46, 111, 32]⟩, .bool true, .string ⟨#[116, 119, 111]⟩] 42); rwa [s6] at this⟩
  have s7 : (u6.alloc (.cells #[.slice (some ⟨b + 1, 0, none⟩) 1 1, .slice (some ⟨b + 1 + 1, 0, none⟩) 1 1, .slice (some ⟨b + 1 + 1 + 1, 0, none⟩) 1 1, .slice none 0 0, .string ⟨#[99, 99, 32, 45, 111, 50, 32, 97, 46, 99, 32, 45, 111, 32, 97, 46, 111, 32, 45, 103]⟩, .bool true, .string ⟨#[116, 119, 111]⟩, .slice (some ⟨b + 1 + 1 + 1 + 1, 0, none⟩) 1 1, .slice (some ⟨b + 1 + 1 + 1 + 1 + 1, 0, none⟩) 1 1, .slice none 0 0, .slice (some ⟨b + 1 + 1 + 1 + 1 + 1 + 1, 0, none⟩) 1 1, .string ⟨#[99, 99, 32, 45, 111, 50, 32, 98, 46, 99, 32, 45, 111, 32, 98, 46, 111, 32]⟩, .bool true, .string ⟨#[116, 119, 111]⟩] 42)).heap.size = b + 1 + 1 + 1 + 1 + 1 + 1 + 1 + 1 := by simp [s6]
  replace k1 := Aside0.mk (blk_alloc k1.out (.cells #[.slice (some ⟨b + 1, 0, none⟩) 1 1, .slice (some ⟨b + 1 + 1, 0, none⟩) 1 1, .slice (some ⟨b + 1 + 1 + 1, 0, none⟩) 1 1, .slice none 0 0, .string ⟨#[99, 99, 32, 45, 111, 50, 32, 97, 46, 99, 32, 45, 111, 32, 97, 46, 111, 32, 45, 103]⟩, .bool true, .string ⟨#[116, 119, 111]⟩, .slice (some ⟨b + 1 + 1 + 1 + 1, 0, none⟩) 1 1, .slice (some ⟨b + 1 + 1 + 1 + 1 + 1, 0, none⟩) 1 1, .slice none 0 0, .slice (some ⟨b + 1 + 1 + 1 + 1 + 1 + 1, 0, none⟩) 1 1, .string ⟨#[99, 99, 32, 45, 111, 50, 32, 98, 46, 99, 32, 45, 111, 32, 98, 46, 111, 32]⟩, .bool true, .string ⟨#[116, 119, 111]⟩] 42))
  replace k2 := Aside0.mk (blk_alloc k2.out (.cells #[.slice (some ⟨b + 1, 0, none⟩) 1 1, .slice (some ⟨b + 1 + 1, 0, none⟩) 1 1, .slice (some ⟨b + 1 + 1 + 1, 0, none⟩) 1 1, .slice none 0 0, .string ⟨#[99, 99, 32, 45, 111, 50, 32, 97, 46, 99, 32, 45, 111, 32, 97, 46, 111, 32, 45, 103]⟩, .bool true, .string ⟨#[116, 119, 111]⟩, .slice (some ⟨b + 1 + 1 + 1 + 1, 0, none⟩) 1 1, .slice (some ⟨b + 1 + 1 + 1 + 1 + 1, 0, none⟩) 1 1, .slice none 0 0, .slice (some ⟨b + 1 + 1 + 1 + 1 + 1 + 1, 0, none⟩) 1 1, .string ⟨#[99, 99, 32, 45, 111, 50, 32, 98, 46, 99, 32, 45, 111, 32, 98, 46, 111, 32]⟩, .bool true, .string ⟨#[116, 119, 111]⟩] 42))
  replace k3 := Aside0.mk (blk_alloc k3.out (.cells #[.slice (some ⟨b + 1, 0, none⟩) 1 1, .slice (some ⟨b + 1 + 1, 0, none⟩) 1 1, .slice (some ⟨b + 1 + 1 + 1, 0, none⟩) 1 1, .slice none 0 0, .string ⟨#[99, 99, 32, 45, 111, 50, 32, 97, 46, 99, 32, 45, 111, 32, 97, 46, 111, 32, 45, 103]⟩, .bool true, .string ⟨#[116, 119, 111]⟩, .slice (some ⟨b + 1 + 1 + 1 + 1, 0, none⟩) 1 1, .slice (some ⟨b + 1 + 1 + 1 + 1 + 1, 0, none⟩) 1 1, .slice none 0 0, .slice (some ⟨b + 1 + 1 + 1 + 1 + 1 + 1, 0, none⟩) 1 1, .string ⟨#[99, 99, 32, 45, 111, 50, 32, 98, 46, 99, 32, 45, 111, 32, 98, 46, 111, 32]⟩, .bool true, .string ⟨#[116, 119, 111]⟩] 42))
  replace k4 := Aside0.mk (blk_alloc k4.out (.cells #[.slice (some ⟨b + 1, 0, none⟩) 1 1, .slice (some ⟨b + 1 + 1, 0, none⟩) 1 1, .slice (some ⟨b + 1 + 1 + 1, 0, none⟩) 1 1, .slice none 0 0, .string ⟨#[99, 99, 32, 45, 111, 50, 32, 97, 46, 99, 32, 45, 111, 32, 97, 46, 111, 32, 45, 103]⟩, .bool true, .string ⟨#[116, 119, 111]⟩, .slice (some ⟨b + 1 + 1 + 1 + 1, 0, none⟩) 1 1, .slice (some ⟨b + 1 + 1 + 1 + 1 + 1, 0, none⟩) 1 1, .slice none 0 0, .slice (some ⟨b + 1 + 1 + 1 + 1 + 1 + 1, 0, none⟩) 1 1, .string ⟨#[99, 99, 32, 45, 111, 50, 32, 98, 46, 99, 32, 45, 111, 32, 98, 46, 111, 32]⟩, .bool true, .string ⟨#[116, 119, 111]⟩] 42))
  replace k5 := Aside0.mk (blk_alloc k5.out (.cells #[.slice (some ⟨b + 1, 0, none⟩) 1 1, .slice (some ⟨b + 1 + 1, 0, none⟩) 1 1, .slice (some ⟨b + 1 + 1 + 1, 0, none⟩) 1 1, .slice none 0 0, .string ⟨#[99, 99, 32, 45, 111, 50, 32, 97, 46, 99, 32, 45, 111, 32, 97, 46, 111, 32, 45, 103]⟩, .bool true, .string ⟨#[116, 119, 111]⟩, .slice (some ⟨b + 1 + 1 + 1 + 1, 0, none⟩) 1 1, .slice (some ⟨b + 1 + 1 + 1 + 1 + 1, 0, none⟩) 1 1, .slice none 0 0, .slice (some ⟨b + 1 + 1 + 1 + 1 + 1 + 1, 0, none⟩) 1 1, .string ⟨#[99, 99, 32, 45, 111, 50, 32, 98, 46, 99, 32, 45, 111, 32, 98, 46, 111, 32]⟩, .bool true, .string ⟨#[116, 119, 111]⟩] 42))
  replace k6 := Aside0.mk (blk_alloc k6.out (.cells #[.slice (some ⟨b + 1, 0, none⟩) 1 1, .slice (some ⟨b + 1 + 1, 0, none⟩) 1 1, .slice (some ⟨b + 1 + 1 + 1, 0, none⟩) 1 1, .slice none 0 0, .string ⟨#[99, 99, 32, 45, 111, 50, 32, 97, 46, 99, 32, 45, 111, 32, 97, 46, 111, 32, 45, 103]⟩, .bool true, .string ⟨#[116, 119, 111]⟩, .slice (some ⟨b + 1 + 1 + 1 + 1, 0, none⟩) 1 1, .slice (some ⟨b + 1 + 1 + 1 + 1 + 1, 0, none⟩) 1 1, .slice none 0 0, .slice (some ⟨b + 1 + 1 + 1 + 1 + 1 + 1, 0, none⟩) 1 1, .string ⟨#[99, 99, 32, 45, 111, 50, 32, 98, 46, 99, 32, 45, 111, 32, 98, 46, 111, 32]⟩, .bool true, .string ⟨#[116, 119, 111]⟩] 42))
  replace HB4 := Aside0.mk (below_alloc HB4.out (.cells #[.slice (some ⟨b + 1, 0, none⟩) 1 1, .slice (some ⟨b + 1 + 1, 0, none⟩) 1 1, .slice (some ⟨b + 1 + 1 + 1, 0, none⟩) 1 1, .slice none 0 0, .string ⟨#[99, 99, 32, 45, 111, 50, 32, 97, 46, 99, 32, 45, 111, 32, 97, 46, 111, 32, 45, 103]⟩, .bool true, .string ⟨#[116, 119, 111]⟩, .slice (some ⟨b + 1 + 1 + 1 + 1, 0, none⟩) 1 1, .slice (some ⟨b + 1 + 1 + 1 + 1 + 1, 0, none⟩) 1 1, .slice none 0 0, .slice (some ⟨b + 1 + 1 + 1 + 1 + 1 + 1, 0, none⟩) 1 1, .string ⟨#[99, 99, 32, 45, 111, 50, 32, 98, 46, 99, 32, 45, 111, 32, 98, 46, 111, 32]⟩, .bool true, .string ⟨#[116, 119, 111]⟩] 42))
  replace BT4 := Aside0.mk (blk_alloc BT4.out (.cells #[.slice (some ⟨b + 1, 0, none⟩) 1 1, .slice (some ⟨b + 1 + 1, 0, none⟩) 1 1, .slice (some ⟨b + 1 + 1 + 1, 0, none⟩) 1 1, .slice none 0 0, .string ⟨#[99, 99, 32, 45, 111, 50, 32, 97, 46, 99, 32, 45, 111, 32, 97, 46, 111, 32, 45, 103]⟩, .bool true, .string ⟨#[116, 119, 111]⟩, .slice (some ⟨b + 1 + 1 + 1 + 1, 0, none⟩) 1 1, .slice (some ⟨b + 1 + 1 + 1 + 1 + 1, 0, none⟩) 1 1, .slice none 0 0, .slice (some ⟨b + 1 + 1 + 1 + 1 + 1 + 1, 0, none⟩) 1 1, .string ⟨#[99, 99, 32, 45, 111, 50, 32, 98, 46, 99, 32, 45, 111, 32, 98, 46, 111, 32]⟩, .bool true, .string ⟨#[116, 119, 111]⟩] 42))
  replace HC04 := Aside0.mk (Kd.C_alloc HC04.out (.cells #[.slice (some ⟨b + 1, 0, none⟩) 1 1, .slice (some ⟨b + 1 + 1, 0, none⟩) 1 1, .slice (some ⟨b + 1 + 1 + 1, 0, none⟩) 1 1, .slice none 0 0, .string ⟨#[99, 99, 32, 45, 111, 50, 32, 97, 46, 99, 32, 45, 111, 32, 97, 46, 111, 32, 45, 103]⟩, .bool true, .string ⟨#[116, 119, 111]⟩, .slice (some ⟨b + 1 + 1 + 1 + 1, 0, none⟩) 1 1, .slice (some ⟨b + 1 + 1 + 1 + 1 + 1, 0, none⟩) 1 1, .slice none 0 0, .slice (some ⟨b + 1 + 1 + 1 + 1 + 1 + 1, 0, none⟩) 1 1, .string ⟨#[99, 99, 32, 45, 111, 50, 32, 98, 46, 99, 32, 45, 111, 32, 98, 46, 111, 32]⟩, .bool true, .string ⟨#[116, 119, 111]⟩] 42))
  replace HC14 := Aside0.mk (Kd.C_alloc HC14.out (.cells #[.slice (some ⟨b + 1, 0, none⟩) 1 1, .slice (some ⟨b + 1 + 1, 0, none⟩) 1 1, .slice (some ⟨b + 1 + 1 + 1, 0, none⟩) 1 1, .slice none 0 0, .string ⟨#[99, 99, 32, 45, 111, 50, 32, 97, 46, 99, 32, 45, 111, 32, 97, 46, 111, 32, 45, 103]⟩, .bool true, .string ⟨#[116, 119, 111]⟩, .slice (some ⟨b + 1 + 1 + 1 + 1, 0, none⟩) 1 1, .slice (some ⟨b + 1 + 1 + 1 + 1 + 1, 0, none⟩) 1 1, .slice none 0 0, .slice (some ⟨b + 1 + 1 + 1 + 1 + 1 + 1, 0, none⟩) 1 1, .string ⟨#[99, 99, 32, 45, 111, 50, 32, 98, 46, 99, 32, 45, 111, 32, 98, 46, 111, 32]⟩, .bool true, .string ⟨#[116, 119, 111]⟩] 42))
  replace HC24 := Aside0.mk (Kd.C_alloc HC24.out (.cells #[.slice (some ⟨b + 1, 0, none⟩) 1 1, .slice (some ⟨b + 1 + 1, 0, none⟩) 1 1, .slice (some ⟨b + 1 + 1 + 1, 0, none⟩) 1 1, .slice none 0 0, .string ⟨#[99, 99, 32, 45, 111, 50, 32, 97, 46, 99, 32, 45, 111, 32, 97, 46, 111, 32, 45, 103]⟩, .bool true, .string ⟨#[116, 119, 111]⟩, .slice (some ⟨b + 1 + 1 + 1 + 1, 0, none⟩) 1 1, .slice (some ⟨b + 1 + 1 + 1 + 1 + 1, 0, none⟩) 1 1, .slice none 0 0, .slice (some ⟨b + 1 + 1 + 1 + 1 + 1 + 1, 0, none⟩) 1 1, .string ⟨#[99, 99, 32, 45, 111, 50, 32, 98, 46, 99, 32, 45, 111, 32, 98, 46, 111, 32]⟩, .bool true, .string ⟨#[116, 119, 111]⟩] 42))
  generalize u6.alloc (.cells #[.slice (some ⟨b + 1, 0, none⟩) 1 1, .slice (some ⟨b + 1 + 1, 0, none⟩) 1 1, .slice (some ⟨b + 1 + 1 + 1, 0, none⟩) 1 1, .slice none 0 0, .string ⟨#[99, 99, 32, 45, 111, 50, 32, 97, 46, 99, 32, 45, 111, 32, 97, 46, 111, 32, 45, 103]⟩, .bool true, .string ⟨#[116, 119, 111]⟩, .slice (some ⟨b + 1 + 1 + 1 + 1, 0, none⟩) 1 1, .slice (some ⟨b + 1 + 1 + 1 + 1 + 1, 0, none⟩) 1 1, .slice none 0 0, .slice (some ⟨b + 1 + 1 + 1 + 1 + 1 + 1, 0, none⟩) 1 1, .string ⟨#[99, 99, 32, 45, 111, 50, 32, 98, 46, 99, 32, 45, 111, 32, 98, 46, 111, 32]⟩, .bool true, .string ⟨#[116, 119, 111]⟩] 42) = u7 at k1 k2 k3 k4 k5 k6 k7 s7 HB4 BT4 HC04 HC14 HC24 ⊢
  have k8 : Aside0 ((u7.alloc (.cells #[.string ⟨#[116, 119, 111]⟩, .int .i64 2] 44)).heap[b + 1 + 1 + 1 + 1 + 1 + 1 + 1 + 1]? = some (.cells #[.string ⟨#[116, 119, 111]⟩, .int .i64 2] 44)) := ⟨by have := blk_new u7 (.cells #[.string ⟨#[116, 119, 111]⟩, .int .i64 2] 44); rwa [s7] at this⟩
  have s8 : (u7.alloc (.cells #[.string ⟨#[116, 119, 111]⟩, .int .i64 2] 44)).heap.size = b + 1 + 1 + 1 + 1 + 1 + 1 + 1 + 1 + 1 := by simp [s7]
  replace k1 := Aside0.mk (blk_alloc k1.out (.cells #[.string ⟨#[116, 119, 111]⟩, .int .i64 2] 44))
  replace k2 := Aside0.mk (blk_alloc k2.out (.cells #[.string ⟨#[116, 119, 111]⟩, .int .i64 2] 44))
  replace k3 := Aside0.mk (blk_alloc k3.out (.cells #[.string ⟨#[116, 119, 111]⟩, .int .i64 2] 44))
  replace k4 := Aside0.mk (blk_alloc k4.out (.cells #[.string ⟨#[116, 119, 111]⟩, .int .i64 2] 44))
  replace k5 := Aside0.mk (blk_alloc k5.out (.cells #[.string ⟨#[116, 119, 111]⟩, .int .i64 2] 44))
  replace k6 := Aside0.mk (blk_alloc k6.out (.cells #[.string ⟨#[116, 119, 111]⟩, .int .i64 2] 44))
  replace k7 := Aside0.mk (blk_alloc k7.out (.cells #[.string ⟨#[116, 119, 111]⟩, .int .i64 2] 44))
  replace HB4 := Aside0.mk (below_alloc HB4.out (.cells #[.string ⟨#[116, 119, 111]⟩, .int .i64 2] 44))
  replace BT4 := Aside0.mk (blk_alloc BT4.out (.cells #[.string ⟨#[116, 119, 111]⟩, .int .i64 2] 44))
  replace HC04 := Aside0.mk (Kd.C_alloc HC04.out (.cells #[.string ⟨#[116, 119, 111]⟩, .int .i64 2] 44))
  replace HC14 := Aside0.mk (Kd.C_alloc HC14.out (.cells #[.string ⟨#[116, 119, 111]⟩, .int .i64 2] 44))
  replace HC24 := Aside0.mk (Kd.C_alloc HC24.out (.cells #[.string ⟨#[116, 119, 111]⟩, .int .i64 2] 44))
  generalize u7.alloc (.cells #[.string ⟨#[116, 119, 111]⟩, .int .i64 2] 44) = u8 at k1 k2 k3 k4 k5 k6 k7 k8 s8 HB4 BT4 HC04 HC14 HC24 ⊢
  have k9 : Aside0 ((u8.alloc (.cells #[.string ⟨#[98, 46, 111]⟩] 9)).heap[b + 1 + 1 + 1 + 1 + 1 + 1 + 1 + 1 + 1]? = some (.cells #[.string ⟨#[98, 46, 111]⟩] 9)) := ⟨by have := blk_new u8 (.cells #[.string ⟨#[98, 46, 111]⟩] 9); rwa [s8] at this⟩
  have s9 : (u8.alloc (.cells #[.string ⟨#[98, 46, 111]⟩] 9)).heap.size = b + 1 + 1 + 1 + 1 + 1 + 1 + 1 + 1 + 1 + 1 := by simp [s8]
  replace k1 := Aside0.mk (blk_alloc k1.out (.cells #[.string ⟨#[98, 46, 111]⟩] 9))
  replace k2 := Aside0.mk (blk_alloc k2.out (.cells #[.string ⟨#[98, 46, 111]⟩] 9))
  replace k3 := Aside0.mk (blk_alloc k3.out (.cells #[.string ⟨#[98, 46, 111]⟩] 9))
  replace k4 := Aside0.mk (blk_alloc k4.out (.cells #[.string ⟨#[98, 46, 111]⟩] 9))
  replace k5 := Aside0.mk (blk_alloc k5.out (.cells #[.string ⟨#[98, 46, 111]⟩] 9))
  replace k6 := Aside0.mk (blk_alloc k6.out (.cells #[.string ⟨#[98, 46, 111]⟩] 9))
  replace k7 := Aside0.mk (blk_alloc k7.out (.cells #[.string ⟨#[98, 46, 111]⟩] 9))
  replace k8 := Aside0.mk (blk_alloc k8.out (.cells #[.string ⟨#[98, 46, 111]⟩] 9))
  replace HB4 := Aside0.mk (below_alloc HB4.out (.cells #[.string ⟨#[98, 46, 111]⟩] 9))
  replace BT4 := Aside0.mk (blk_alloc BT4.out (.cells #[.string ⟨#[98, 46, 111]⟩] 9))
  replace HC04 := Aside0.mk (Kd.C_alloc HC04.out (.cells #[.string ⟨#[98, 46, 111]⟩] 9))
  replace HC14 := Aside0.mk (Kd.C_alloc HC14.out (.cells #[.string ⟨#[98, 46, 111]⟩] 9))
  replace HC24 := Aside0.mk (Kd.C_alloc HC24.out (.cells #[.string ⟨#[98, 46, 111]⟩] 9))
  generalize u8.alloc (.cells #[.string ⟨#[98, 46, 111]⟩] 9) = u9 at k1 k2 k3 k4 k5 k6 k7 k8 k9 s9 HB4 BT4 HC04 HC14 HC24 ⊢
  have k10 : Aside0 ((u9.alloc (.cells #[.slice (some ⟨b + 1 + 1 + 1 + 1 + 1 + 1 + 1, 0, none⟩) 2 2, .slice (some ⟨b + 1 + 1 + 1 + 1 + 1 + 1 + 1 + 1, 0, none⟩) 1 1, .slice (some ⟨b + 1 + 1 + 1 + 1 + 1 + 1 + 1 + 1 + 1, 0, none⟩) 1 1] 26)).heap[b + 1 + 1 + 1 + 1 + 1 + 1 + 1 + 1 + 1 + 1]? = some (.cells #[.slice (some ⟨b + 1 + 1 + 1 + 1 + 1 + 1 + 1, 0, none⟩) 2 2, .slice (some ⟨b + 1 + 1 + 1 + 1 + 1 + 1 + 1 + 1, 0, none⟩) 1 1, .slice (some ⟨b + 1 + 1 + 1 + 1 + 1 + 1 + 1 + 1 + 1, 0, none⟩) 1 1] 26)) := ⟨by have := blk_new u9 (.cells #[.slice (some ⟨b + 1 + 1 + 1 + 1 + 1 + 1 + 1, 0, none⟩) 2 2, .slice (some ⟨b + 1 + 1 + 1 + 1 + 1 + 1 + 1 + 1, 0, none⟩) 1 1, .slice (some ⟨b + 1 + 1 + 1 + 1 + 1 + 1 + 1 + 1 + 1, 0, none⟩) 1 1] 26); rwa [s9] at this⟩
  have s10 : (u9.alloc (.cells #[.slice (some ⟨b + 1 + 1 + 1 + 1 + 1 + 1 + 1, 0, none⟩) 2 2, .slice (some ⟨b + 1 + 1 + 1 + 1 + 1 + 1 + 1 + 1, 0, none⟩) 1 1, .slice (some ⟨b + 1 + 1 + 1 + 1 + 1 + 1 + 1 + 1 + 1, 0, none⟩) 1 1] 26)).heap.size = b + 1 + 1 + 1 + 1 + 1 + 1 + 1 + 1 + 1 + 1 + 1 := by simp [s9]
  replace k1 := Aside0.mk (blk_alloc k1.out (.cells #[.slice (some ⟨b + 1 + 1 + 1 + 1 + 1 + 1 + 1, 0, none⟩) 2 2, .slice (some ⟨b + 1 + 1 + 1 + 1 + 1 + 1 + 1 + 1, 0, none⟩) 1 1, .slice (some ⟨b + 1 + 1 + 1 + 1 + 1 + 1 + 1 + 1 + 1, 0, none⟩) 1 1] 26))
  replace k2 := Aside0.mk (blk_alloc k2.out (.cells #[.slice (some ⟨b + 1 + 1 + 1 + 1 + 1 + 1 + 1, 0, none⟩) 2 2, .slice (some ⟨b + 1 + 1 + 1 + 1 + 1 + 1 + 1 + 1, 0, none⟩) 1 1, .slice (some ⟨b + 1 + 1 + 1 + 1 + 1 + 1 + 1 + 1 + 1, 0, none⟩) 1 1] 26))
  replace k3 := Aside0.mk (blk_alloc k3.out (.cells #[.slice (some ⟨b + 1 + 1 + 1 + 1 + 1 + 1 + 1, 0, none⟩) 2 2, .slice (some ⟨b + 1 + 1 + 1 + 1 + 1 + 1 + 1 + 1, 0, none⟩) 1 1, .slice (some ⟨b + 1 + 1 + 1 + 1 + 1 + 1 + 1 + 1 + 1, 0, none⟩) 1 1] 26))
  replace k4 := Aside0.mk (blk_alloc k4.out (.cells #[.slice (some ⟨b + 1 + 1 + 1 + 1 + 1 + 1 + 1, 0, none⟩) 2 2, .slice (some ⟨b + 1 + 1 + 1 + 1 + 1 + 1 + 1 + 1, 0, none⟩) 1 1, .slice (some ⟨b + 1 + 1 + 1 + 1 + 1 + 1 + 1 + 1 + 1, 0, none⟩) 1 1] 26))
  replace k5 := Aside0.mk (blk_alloc k5.out (.cells #[.slice (some ⟨b + 1 + 1 + 1 + 1 + 1 + 1 + 1, 0, none⟩) 2 2, .slice (some ⟨b + 1 + 1 + 1 + 1 + 1 + 1 + 1 + 1, 0, none⟩) 1 1, .slice (some ⟨b + 1 + 1 + 1 + 1 + 1 + 1 + 1 + 1 + 1, 0, none⟩) 1 1] 26))
  replace k6 := Aside0.mk (blk_alloc k6.out (.cells #[.slice (some ⟨b + 1 + 1 + 1 + 1 + 1 + 1 + 1, 0, none⟩) 2 2, .slice (some ⟨b + 1 + 1 + 1 + 1 + 1 + 1 + 1 + 1, 0, none⟩) 1 1, .slice (some ⟨b + 1 + 1 + 1 + 1 + 1 + 1 + 1 + 1 + 1, 0, none⟩) 1 1] 26))
  replace k7 := Aside0.mk (blk_alloc k7.out (.cells #[.slice (some ⟨b + 1 + 1 + 1 + 1 + 1 + 1 + 1, 0, none⟩) 2 2, .slice (some ⟨b + 1 + 1 + 1 + 1 + 1 + 1 + 1 + 1, 0, none⟩) 1 1, .slice (some ⟨b + 1 + 1 + 1 + 1 + 1 + 1 + 1 + 1 + 1, 0, none⟩) 1 1] 26))
  replace k8 := Aside0.mk (blk_alloc k8.out (.cells #[.slice (some ⟨b + 1 + 1 + 1 + 1 + 1 + 1 + 1, 0, none⟩) 2 2, .slice (some ⟨b + 1 + 1 + 1 + 1 + 1 + 1 + 1 + 1, 0, none⟩) 1 1, .slice (some ⟨b + 1 + 1 + 1 + 1 + 1 + 1 + 1 + 1 + 1, 0, none⟩) 1 1] 26))
  replace k9 := Aside0.mk (blk_alloc k9.out (.cells #[.slice (some ⟨b + 1 + 1 + 1 + 1 + 1 + 1 + 1, 0, none⟩) 2 2, .slice (some ⟨b + 1 + 1 + 1 + 1 + 1 + 1 + 1 + 1, 0, none⟩) 1 1, .slice (some ⟨b + 1 + 1 + 1 + 1 + 1 + 1 + 1 + 1 + 1, 0, none⟩) 1 1] 26))
  replace HB4 := Aside0.mk (below_alloc HB4.out (.cells #[.slice (some ⟨b + 1 + 1 + 1 + 1 + 1 + 1 + 1, 0, none⟩) 2 2, .slice (some ⟨b + 1 + 1 + 1 + 1 + 1 + 1 + 1 + 1, 0, none⟩) 1 1, .slice (some ⟨b + 1 + 1 + 1 + 1 + 1 + 1 + 1 + 1 + 1, 0, none⟩) 1 1] 26))
  replace BT4 := Aside0.mk (blk_alloc BT4.out (.cells #[.slice (some ⟨b + 1 + 1 + 1 + 1 + 1 + 1 + 1, 0, none⟩) 2 2, .slice (some ⟨b + 1 + 1 + 1 + 1 + 1 + 1 + 1 + 1, 0, none⟩) 1 1, .slice (some ⟨b + 1 + 1 + 1 + 1 + 1 + 1 + 1 + 1 + 1, 0, none⟩) 1 1] 26))
  replace HC04 := Aside0.mk (Kd.C_alloc HC04.out (.cells #[.slice (some ⟨b + 1 + 1 + 1 + 1 + 1 + 1 + 1, 0, none⟩) 2 2, .slice (some ⟨b + 1 + 1 + 1 + 1 + 1 + 1 + 1 + 1, 0, none⟩) 1 1, .slice (some ⟨b + 1 + 1 + 1 + 1 + 1 + 1 + 1 + 1 + 1, 0, none⟩) 1 1] 26))
  replace HC14 := Aside0.mk (Kd.C_alloc HC14.out (.cells #[.slice (some ⟨b + 1 + 1 + 1 + 1 + 1 + 1 + 1, 0, none⟩) 2 2, .slice (some ⟨b + 1 + 1 + 1 + 1 + 1 + 1 + 1 + 1, 0, none⟩) 1 1, .slice (some ⟨b + 1 + 1 + 1 + 1 + 1 + 1 + 1 + 1 + 1, 0, none⟩) 1 1] 26))
  replace HC24 := Aside0.mk (Kd.C_alloc HC24.out (.cells #[.slice (some ⟨b + 1 + 1 + 1 + 1 + 1 + 1 + 1, 0, none⟩) 2 2, .slice (some ⟨b + 1 + 1 + 1 + 1 + 1 + 1 + 1 + 1, 0, none⟩) 1 1, .slice (some ⟨b + 1 + 1 + 1 + 1 + 1 + 1 + 1 + 1 + 1, 0, none⟩) 1 1] 26))
  generalize u9.alloc (.cells #[.slice (some ⟨b + 1 + 1 + 1 + 1 + 1 + 1 + 1, 0, none⟩) 2 2, .slice (some ⟨b + 1 + 1 + 1 + 1 + 1 + 1 + 1 + 1, 0, none⟩) 1 1, .slice (some ⟨b + 1 + 1 + 1 + 1 + 1 + 1 + 1 + 1 + 1, 0, none⟩) 1 1] 26) = u10 at k1 k2 k3 k4 k5 k6 k7 k8 k9 k10 s10 HB4 BT4 HC04 HC14 HC24 ⊢
  have p1 : Kd.string.C u10 (some ⟨b + 1, 0, none⟩) 1 [⟨#[97, 46, 111]⟩] := C_one k1.out rfl rfl
  have p2 : Kd.string.C u10 (some ⟨b + 1 + 1, 0, none⟩) 1 [⟨#[97, 46, 99]⟩] := C_one k2.out rfl rfl
  have p3 : Kd.string.C u10 (some ⟨b + 1 + 1 + 1, 0, none⟩) 1 [⟨#[97, 46, 104]⟩] := C_one k3.out rfl rfl
  have p4 : Kd.string.C u10 (some ⟨b + 1 + 1 + 1 + 1, 0, none⟩) 1 [⟨#[98, 46, 111]⟩] := C_one k4.out rfl rfl
  have p5 : Kd.string.C u10 (some ⟨b + 1 + 1 + 1 + 1 + 1, 0, none⟩) 1 [⟨#[98, 46, 99]⟩] := C_one k5.out rfl rfl
  have p6 : Kd.string.C u10 (some ⟨b + 1 + 1 + 1 + 1 + 1 + 1, 0, none⟩) 1 [⟨#[97, 46, 111]⟩] := C_one k6.out rfl rfl
  have p0 : Kd.string.C u10 none 0 [] := ⟨rfl, by omega, fun h => absurd h (by decide)⟩
  have PE : Kd.C k42 u10 (some ⟨b + 1 + 1 + 1 + 1 + 1 + 1 + 1, 0, none⟩) wantE.length wantE := C_two k7.out (k42_mk u10 wantE[0] (A0 := some ⟨b + 1, 0, none⟩) (c0 := 1) (by decide) p1 (A1 := some ⟨b + 1 + 1, 0, none⟩) (c1 := 1) (by decide) p2 (A2 := some ⟨b + 1 + 1 + 1, 0, none⟩) (c2 := 1) (by decide) p3 (A3 := none) (c3 := 0) (by decide) p0) (k42_mk u10 wantE[1] (A0 := some ⟨b + 1 + 1 + 1 + 1, 0, none⟩) (c0 := 1) (by decide) p4 (A1 := some ⟨b + 1 + 1 + 1 + 1 + 1, 0, none⟩) (c1 := 1) (by decide) p5 (A2 := none) (c2 := 0) (by decide) p0 (A3 := some ⟨b + 1 + 1 + 1 + 1 + 1 + 1, 0, none⟩) (c3 := 1) (by decide) p6) rfl
  have PP : Kd.C k44 u10 (some ⟨b + 1 + 1 + 1 + 1 + 1 + 1 + 1 + 1, 0, none⟩) wantP.length wantP := C_one k8.out (k44_mk u10 wantP[0]) rfl
  have PD : Kd.C Kd.string u10 (some ⟨b + 1 + 1 + 1 + 1 + 1 + 1 + 1 + 1 + 1, 0, none⟩) wantD.length wantD := C_one k9.out rfl rfl
  have hsame : cruciblelaw0_SameGraph.f 100 wE wP wD wantE wantP wantD = some true := by rw [← HE.out, ← HP.out, ← HD.out]; exact same_want
  have HSG := Lib.hid (cruciblelaw0_SameGraph.calls 100 A0 c0 wE A1 c1 wP A2 c2 wD (some ⟨b + 1 + 1 + 1 + 1 + 1 + 1 + 1, 0, none⟩) 2 wantE (some ⟨b + 1 + 1 + 1 + 1 + 1 + 1 + 1 + 1, 0, none⟩) 1 wantP (some ⟨b + 1 + 1 + 1 + 1 + 1 + 1 + 1 + 1 + 1, 0, none⟩) 1 wantD true u10 HC04.out l0 HC14.out l1 HC24.out l2 PE (by decide) PP (by decide) PD (by decide) hsame)
  have z0 := blk_cell BT4.out 0
  have z1 := blk_cell BT4.out 1
  have z2 := blk_cell BT4.out 2
  have y0 := blk_cell k10.out 0
  have y1 := blk_cell k10.out 1
  have y2 := blk_cell k10.out 2
  clear p0 p1 p2 p3 p4 p5 p6 PE PP PD k1 k2 k3 k4 k5 k6 k7 k8 k9 k10 BT4 HC04 HC14 HC24 hsame
  go_wp2_with (first | (go_at_call 12; refine HSG.out.mono ?_; rintro x w5 ⟨rfl, hb5⟩; have HB5 := Aside0.mk (HB4.out.trans (hb5.mono HB4.out.size)); clear hb5) | (go_at_call 13; refine (cruciblelaw0_Num.calls _ _ _ rfl).mono ?_; rintro x w6 ⟨rfl, hd⟩; replace HB5 := Aside0.mk (HB5.out.trans (hd.below.mono HB5.out.size)); clear hd))
  go_ret
  exact ⟨rfl, HB5.out⟩
def cruciblelaw8_awake.f : Option (Bool) := some true
theorem cruciblelaw8_awake.calls (r : Bool) (w : World) (h : cruciblelaw8_awake.f = some r) :
    Calls Tryz.prog 15 #[] w fun e w' => e = .returned (.bool r) ∧ Below w.heap.size w w' := by
  obtain rfl := Option.some.inj h
  exact awake_calls w
end Go.Proofs.YtefheailchihaaaGreatDoor.Print

end
section
namespace Go.Proofs.YtefheailchihaaaGreatDoor.Print
open Go.RowKit Go.Proofs.YtefheailchihaaaGreatDoorW.PrintWords Go.Proofs.YtefheailchihaaaGreatDoorW.PrintLast Go.Proofs.YtefheailchihaaaGreatDoorW.PrintMore
attribute [local go_sem] max2_int min2_int max_two min_two max_three min_three max_four min_four   -- for this text's walks alone
set_option linter.unusedVariables false
set_option linter.unusedSimpArgs false

mutual
def cruciblelaw8_ManifestFull.j4 : Nat → Int → ByteArray → Option (Bool)
  | 0, _, _ => none
  | k + 1, x0, x3 => (manifest_Parse.f x3).bind fun bt407 => ((some (([(⟨#[114, 117, 108, 101, 32, 109, 111, 114, 101, 10, 32, 99, 111, 109, 109, 97, 110, 100, 32, 61, 32, 120, 10]⟩ : ByteArray), (⟨#[112, 111, 111, 108, 32, 109, 111, 114, 101, 10, 32, 100, 101, 112, 116, 104, 32, 61, 32, 49, 10]⟩ : ByteArray), (⟨#[98, 117, 105, 108, 100, 32, 109, 111, 114, 101, 32, 58, 32, 99, 99, 10]⟩ : ByteArray), (⟨#[100, 101, 102, 97, 117, 108, 116, 32, 120, 10]⟩ : ByteArray), (⟨#[109, 111, 114, 101, 32, 61, 32, 49, 10]⟩ : ByteArray)] : List ByteArray) : List ByteArray)).bind fun y418 => (if 0 ≤ (wrap64 (Int.tmod (IntKind.u64.wrap (x0)) 5)) then (if (wrap64 (Int.tmod (IntKind.u64.wrap (x0)) 5)) < (y418.length : Int) then (if x3.size + (rdOf ByteArray.empty y418 (wrap64 (Int.tmod (IntKind.u64.wrap (x0)) 5))).size ≤ 9223372036854775807 then ((manifest_Parse.f (x3 ++ (rdOf ByteArray.empty y418 (wrap64 (Int.tmod (IntKind.u64.wrap (x0)) 5))))).bind fun bt422 => ((cruciblelaw0_Num.f bt407.2.2.2).bind fun t433 => (if t433 = 0 then ((cruciblelaw0_SameGraph.f k bt422.1 bt422.2.1 bt422.2.2.1 ([] : List (S42)) ([] : List (S44)) ([] : List ByteArray)).bind fun t434 => (if t434 = true then ((cruciblelaw0_Num.f bt422.2.2.2).bind fun t435 => (some (t435 == 801))) else (some false))) else (some false)))) else (none)) else (none)) else (none)))
def cruciblelaw8_ManifestFull.l0 : Nat → Int → ByteArray → Int → Int → Option (Bool)
  | 0, _, _, _, _ => none
  | k + 1, x0, x3, x4, x5 => if x5 < x4 then (if x3.size + 6 ≤ 9223372036854775807 then ((some (([(wrap64 (97 + x5)) % 256] : List Int) : List Int)).bind fun y395 => (if (x3 ++ (⟨#[114, 117, 108, 101, 32, 114]⟩ : ByteArray)).size + (strOfNums y395).size ≤ 9223372036854775807 then (if ((x3 ++ (⟨#[114, 117, 108, 101, 32, 114]⟩ : ByteArray)) ++ (strOfNums y395)).size + 14 ≤ 9223372036854775807 then (cruciblelaw8_ManifestFull.l0 k x0 (((x3 ++ (⟨#[114, 117, 108, 101, 32, 114]⟩ : ByteArray)) ++ (strOfNums y395)) ++ (⟨#[10, 32, 99, 111, 109, 109, 97, 110, 100, 32, 61, 32, 120, 10]⟩ : ByteArray)) x4 (wrap64 (x5 + 1))) else (none)) else (none))) else (none)) else (cruciblelaw8_ManifestFull.j4 k x0 x3)
def cruciblelaw8_ManifestFull.l1 : Nat → Int → ByteArray → Int → Option (Bool)
  | 0, _, _, _ => none
  | k + 1, x0, x3, x6 => if x6 < 4 then (if x3.size + 6 ≤ 9223372036854775807 then ((some (([(wrap64 (97 + x6)) % 256] : List Int) : List Int)).bind fun y398 => (if (x3 ++ (⟨#[112, 111, 111, 108, 32, 112]⟩ : ByteArray)).size + (strOfNums y398).size ≤ 9223372036854775807 then (if ((x3 ++ (⟨#[112, 111, 111, 108, 32, 112]⟩ : ByteArray)) ++ (strOfNums y398)).size + 12 ≤ 9223372036854775807 then (cruciblelaw8_ManifestFull.l1 k x0 (((x3 ++ (⟨#[112, 111, 111, 108, 32, 112]⟩ : ByteArray)) ++ (strOfNums y398)) ++ (⟨#[10, 32, 100, 101, 112, 116, 104, 32, 61, 32, 49, 10]⟩ : ByteArray)) (wrap64 (x6 + 1))) else (none)) else (none))) else (none)) else (cruciblelaw8_ManifestFull.j4 k x0 x3)
def cruciblelaw8_ManifestFull.l2 : Nat → Int → ByteArray → Int → Option (Bool)
  | 0, _, _, _ => none
  | k + 1, x0, x3, x7 => if x7 < 16 then (if x3.size + 7 ≤ 9223372036854775807 then ((some (([(wrap64 (97 + x7)) % 256] : List Int) : List Int)).bind fun y401 => (if (x3 ++ (⟨#[98, 117, 105, 108, 100, 32, 111]⟩ : ByteArray)).size + (strOfNums y401).size ≤ 9223372036854775807 then (if ((x3 ++ (⟨#[98, 117, 105, 108, 100, 32, 111]⟩ : ByteArray)) ++ (strOfNums y401)).size + 6 ≤ 9223372036854775807 then (cruciblelaw8_ManifestFull.l2 k x0 (((x3 ++ (⟨#[98, 117, 105, 108, 100, 32, 111]⟩ : ByteArray)) ++ (strOfNums y401)) ++ (⟨#[32, 58, 32, 99, 99, 10]⟩ : ByteArray)) (wrap64 (x7 + 1))) else (none)) else (none))) else (none)) else (cruciblelaw8_ManifestFull.j4 k x0 x3)
def cruciblelaw8_ManifestFull.l3 : Nat → Int → ByteArray → Int → Option (Bool)
  | 0, _, _, _ => none
  | k + 1, x0, x3, x8 => if x8 < 16 then (if x3.size + 1 ≤ 9223372036854775807 then ((some (([(wrap64 (97 + x8)) % 256] : List Int) : List Int)).bind fun y404 => (if (x3 ++ (⟨#[118]⟩ : ByteArray)).size + (strOfNums y404).size ≤ 9223372036854775807 then (if ((x3 ++ (⟨#[118]⟩ : ByteArray)) ++ (strOfNums y404)).size + 5 ≤ 9223372036854775807 then (cruciblelaw8_ManifestFull.l3 k x0 (((x3 ++ (⟨#[118]⟩ : ByteArray)) ++ (strOfNums y404)) ++ (⟨#[32, 61, 32, 49, 10]⟩ : ByteArray)) (wrap64 (x8 + 1))) else (none)) else (none))) else (none)) else (cruciblelaw8_ManifestFull.j4 k x0 x3)
end
def cruciblelaw8_ManifestFull.f (k : Nat) (a0 : Int) : Option (Bool) := (cruciblelaw8_awake.f).bind fun t394 => (if t394 = true then (if (wrap64 (Int.tmod (IntKind.u64.wrap (a0)) 5)) = 0 then (cruciblelaw8_ManifestFull.l0 k a0 (⟨#[114, 117, 108, 101, 32, 99, 99, 10, 32, 99, 111, 109, 109, 97, 110, 100, 32, 61, 32, 120, 10]⟩ : ByteArray) 7 0) else (if (wrap64 (Int.tmod (IntKind.u64.wrap (a0)) 5)) = 1 then (cruciblelaw8_ManifestFull.l1 k a0 (⟨#[114, 117, 108, 101, 32, 99, 99, 10, 32, 99, 111, 109, 109, 97, 110, 100, 32, 61, 32, 120, 10]⟩ : ByteArray) 0) else (if (wrap64 (Int.tmod (IntKind.u64.wrap (a0)) 5)) = 2 then (cruciblelaw8_ManifestFull.l2 k a0 (⟨#[114, 117, 108, 101, 32, 99, 99, 10, 32, 99, 111, 109, 109, 97, 110, 100, 32, 61, 32, 120, 10]⟩ : ByteArray) 0) else (if (wrap64 (Int.tmod (IntKind.u64.wrap (a0)) 5)) = 3 then (if 21 + 32 ≤ 9223372036854775807 then (cruciblelaw8_ManifestFull.j4 k a0 ((⟨#[114, 117, 108, 101, 32, 99, 99, 10, 32, 99, 111, 109, 109, 97, 110, 100, 32, 61, 32, 120, 10]⟩ : ByteArray) ++ (⟨#[100, 101, 102, 97, 117, 108, 116, 32, 97, 32, 98, 32, 99, 10, 100, 101, 102, 97, 117, 108, 116, 32, 100, 32, 101, 32, 102, 32, 103, 32, 104, 10]⟩ : ByteArray))) else (none)) else (cruciblelaw8_ManifestFull.l3 k a0 (⟨#[114, 117, 108, 101, 32, 99, 99, 10, 32, 99, 111, 109, 109, 97, 110, 100, 32, 61, 32, 120, 10]⟩ : ByteArray) 0))))) else (some false))
theorem cruciblelaw8_ManifestFull.mono_l : ∀ k, (∀ y0 y1, LeO (cruciblelaw8_ManifestFull.j4 k y0 y1) (cruciblelaw8_ManifestFull.j4 (k + 1) y0 y1)) ∧ (∀ y0 y1 y2 y3, LeO (cruciblelaw8_ManifestFull.l0 k y0 y1 y2 y3) (cruciblelaw8_ManifestFull.l0 (k + 1) y0 y1 y2 y3)) ∧ (∀ y0 y1 y2, LeO (cruciblelaw8_ManifestFull.l1 k y0 y1 y2) (cruciblelaw8_ManifestFull.l1 (k + 1) y0 y1 y2)) ∧ (∀ y0 y1 y2, LeO (cruciblelaw8_ManifestFull.l2 k y0 y1 y2) (cruciblelaw8_ManifestFull.l2 (k + 1) y0 y1 y2)) ∧ (∀ y0 y1 y2, LeO (cruciblelaw8_ManifestFull.l3 k y0 y1 y2) (cruciblelaw8_ManifestFull.l3 (k + 1) y0 y1 y2))
  | 0 => ⟨fun _ _ r h => by simp [cruciblelaw8_ManifestFull.j4] at h, fun _ _ _ _ r h => by simp [cruciblelaw8_ManifestFull.l0] at h, fun _ _ _ r h => by simp [cruciblelaw8_ManifestFull.l1] at h, fun _ _ _ r h => by simp [cruciblelaw8_ManifestFull.l2] at h, fun _ _ _ r h => by simp [cruciblelaw8_ManifestFull.l3] at h⟩
  | k + 1 => by
    obtain ⟨ih0, ih1, ih2, ih3, ih4⟩ := cruciblelaw8_ManifestFull.mono_l k
    refine ⟨?_, ?_, ?_, ?_, ?_⟩
    · intro y0 y1
      unfold cruciblelaw8_ManifestFull.j4
      repeat' first
      | (with_reducible exact ih0 _ _)
      | (with_reducible exact ih1 _ _ _ _)
      | (with_reducible exact ih2 _ _ _)
      | (with_reducible exact ih3 _ _ _)
      | (with_reducible exact ih4 _ _ _)
      | (with_reducible exact cruciblelaw0_SameGraph.mono _ _ _ _ _ _ _)
      | (with_reducible exact LeO.refl _)
      | (with_reducible exact LeO.none _)
      | (with_reducible refine LeO.ite ?_ ?_)
      | (with_reducible refine LeO.bind ?_ (fun _ => ?_))
      | exact ih0 _ _
      | exact ih1 _ _ _ _
      | exact ih2 _ _ _
      | exact ih3 _ _ _
      | exact ih4 _ _ _
      | exact cruciblelaw0_SameGraph.mono _ _ _ _ _ _ _
      | exact LeO.none _
      | refine LeO.ite ?_ ?_
      | refine LeO.bind ?_ (fun _ => ?_)
    · intro y0 y1 y2 y3
      unfold cruciblelaw8_ManifestFull.l0
      repeat' first
      | (with_reducible exact ih0 _ _)
      | (with_reducible exact ih1 _ _ _ _)
      | (with_reducible exact ih2 _ _ _)
      | (with_reducible exact ih3 _ _ _)
      | (with_reducible exact ih4 _ _ _)
      | (with_reducible exact cruciblelaw0_SameGraph.mono _ _ _ _ _ _ _)
      | (with_reducible exact LeO.refl _)
      | (with_reducible exact LeO.none _)
      | (with_reducible refine LeO.ite ?_ ?_)
      | (with_reducible refine LeO.bind ?_ (fun _ => ?_))
      | exact ih0 _ _
      | exact ih1 _ _ _ _
      | exact ih2 _ _ _
      | exact ih3 _ _ _
      | exact ih4 _ _ _
      | exact cruciblelaw0_SameGraph.mono _ _ _ _ _ _ _
      | exact LeO.none _
      | refine LeO.ite ?_ ?_
      | refine LeO.bind ?_ (fun _ => ?_)
    · intro y0 y1 y2
      unfold cruciblelaw8_ManifestFull.l1
      repeat' first
      | (with_reducible exact ih0 _ _)
      | (with_reducible exact ih1 _ _ _ _)
      | (with_reducible exact ih2 _ _ _)
      | (with_reducible exact ih3 _ _ _)
      | (with_reducible exact ih4 _ _ _)
      | (with_reducible exact cruciblelaw0_SameGraph.mono _ _ _ _ _ _ _)
      | (with_reducible exact LeO.refl _)
      | (with_reducible exact LeO.none _)
      | (with_reducible refine LeO.ite ?_ ?_)
      | (with_reducible refine LeO.bind ?_ (fun _ => ?_))
      | exact ih0 _ _
      | exact ih1 _ _ _ _
      | exact ih2 _ _ _
      | exact ih3 _ _ _
      | exact ih4 _ _ _
      | exact cruciblelaw0_SameGraph.mono _ _ _ _ _ _ _
      | exact LeO.none _
      | refine LeO.ite ?_ ?_
      | refine LeO.bind ?_ (fun _ => ?_)
    · intro y0 y1 y2
      unfold cruciblelaw8_ManifestFull.l2
      repeat' first
      | (with_reducible exact ih0 _ _)
      | (with_reducible exact ih1 _ _ _ _)
      | (with_reducible exact ih2 _ _ _)
      | (with_reducible exact ih3 _ _ _)
      | (with_reducible exact ih4 _ _ _)
      | (with_reducible exact cruciblelaw0_SameGraph.mono _ _ _ _ _ _ _)
      | (with_reducible exact LeO.refl _)
      | (with_reducible exact LeO.none _)
      | (with_reducible refine LeO.ite ?_ ?_)
      | (with_reducible refine LeO.bind ?_ (fun _ => ?_))
      | exact ih0 _ _
      | exact ih1 _ _ _ _
      | exact ih2 _ _ _
      | exact ih3 _ _ _
      | exact ih4 _ _ _
      | exact cruciblelaw0_SameGraph.mono _ _ _ _ _ _ _
      | exact LeO.none _
      | refine LeO.ite ?_ ?_
      | refine LeO.bind ?_ (fun _ => ?_)
    · intro y0 y1 y2
      unfold cruciblelaw8_ManifestFull.l3
      repeat' first
      | (with_reducible exact ih0 _ _)
      | (with_reducible exact ih1 _ _ _ _)
      | (with_reducible exact ih2 _ _ _)
      | (with_reducible exact ih3 _ _ _)
      | (with_reducible exact ih4 _ _ _)
      | (with_reducible exact cruciblelaw0_SameGraph.mono _ _ _ _ _ _ _)
      | (with_reducible exact LeO.refl _)
      | (with_reducible exact LeO.none _)
      | (with_reducible refine LeO.ite ?_ ?_)
      | (with_reducible refine LeO.bind ?_ (fun _ => ?_))
      | exact ih0 _ _
      | exact ih1 _ _ _ _
      | exact ih2 _ _ _
      | exact ih3 _ _ _
      | exact ih4 _ _ _
      | exact cruciblelaw0_SameGraph.mono _ _ _ _ _ _ _
      | exact LeO.none _
      | refine LeO.ite ?_ ?_
      | refine LeO.bind ?_ (fun _ => ?_)
theorem cruciblelaw8_ManifestFull.mono : ∀ a0 k, LeO (cruciblelaw8_ManifestFull.f k a0) (cruciblelaw8_ManifestFull.f (k + 1) a0) := by
  intro a0 k
  obtain ⟨ih0, ih1, ih2, ih3, ih4⟩ := cruciblelaw8_ManifestFull.mono_l k
  unfold cruciblelaw8_ManifestFull.f
  repeat' first
      | (with_reducible exact ih0 _ _)
      | (with_reducible exact ih1 _ _ _ _)
      | (with_reducible exact ih2 _ _ _)
      | (with_reducible exact ih3 _ _ _)
      | (with_reducible exact ih4 _ _ _)
      | (with_reducible exact cruciblelaw0_SameGraph.mono _ _ _ _ _ _ _)
      | (with_reducible exact LeO.refl _)
      | (with_reducible exact LeO.none _)
      | (with_reducible refine LeO.ite ?_ ?_)
      | (with_reducible refine LeO.bind ?_ (fun _ => ?_))
      | exact ih0 _ _
      | exact ih1 _ _ _ _
      | exact ih2 _ _ _
      | exact ih3 _ _ _
      | exact ih4 _ _ _
      | exact cruciblelaw0_SameGraph.mono _ _ _ _ _ _ _
      | exact LeO.none _
      | refine LeO.ite ?_ ?_
      | refine LeO.bind ?_ (fun _ => ?_)
set_option maxHeartbeats 8000000 in
set_option maxRecDepth 100000 in
theorem cruciblelaw8_ManifestFull.calls (k : Nat) (a0 : Int) (r : Bool) (w : World) (h : cruciblelaw8_ManifestFull.f k a0 = some r) :
    Calls Tryz.prog 5 #[.int .i64 a0] w fun e w' => e = .returned (.bool r) ∧ Below w.heap.size w w' := by
  have hu26 := Tryz.underlying26
  have HB := Aside0.mk (Below.refl w.heap.size w)
  have H : ((cruciblelaw8_awake.f).bind fun t394 => (if t394 = true then (if (wrap64 (Int.tmod (IntKind.u64.wrap (a0)) 5)) = 0 then (cruciblelaw8_ManifestFull.l0 k a0 (⟨#[114, 117, 108, 101, 32, 99, 99, 10, 32, 99, 111, 109, 109, 97, 110, 100, 32, 61, 32, 120, 10]⟩ : ByteArray) 7 0) else (if (wrap64 (Int.tmod (IntKind.u64.wrap (a0)) 5)) = 1 then (cruciblelaw8_ManifestFull.l1 k a0 (⟨#[114, 117, 108, 101, 32, 99, 99, 10, 32, 99, 111, 109, 109, 97, 110, 100, 32, 61, 32, 120, 10]⟩ : ByteArray) 0) else (if (wrap64 (Int.tmod (IntKind.u64.wrap (a0)) 5)) = 2 then (cruciblelaw8_ManifestFull.l2 k a0 (⟨#[114, 117, 108, 101, 32, 99, 99, 10, 32, 99, 111, 109, 109, 97, 110, 100, 32, 61, 32, 120, 10]⟩ : ByteArray) 0) else (if (wrap64 (Int.tmod (IntKind.u64.wrap (a0)) 5)) = 3 then (if 21 + 32 ≤ 9223372036854775807 then (cruciblelaw8_ManifestFull.j4 k a0 ((⟨#[114, 117, 108, 101, 32, 99, 99, 10, 32, 99, 111, 109, 109, 97, 110, 100, 32, 61, 32, 120, 10]⟩ : ByteArray) ++ (⟨#[100, 101, 102, 97, 117, 108, 116, 32, 97, 32, 98, 32, 99, 10, 100, 101, 102, 97, 117, 108, 116, 32, 100, 32, 101, 32, 102, 32, 103, 32, 104, 10]⟩ : ByteArray))) else (none)) else (cruciblelaw8_ManifestFull.l3 k a0 (⟨#[114, 117, 108, 101, 32, 99, 99, 10, 32, 99, 111, 109, 109, 97, 110, 100, 32, 61, 32, 120, 10]⟩ : ByteArray) 0))))) else (some false))) = some r := h
  clear h
  replace H := Option.bind_eq_some_iff.mp H
  obtain ⟨t394, A20, H⟩ := H
  replace H : (if t394 = true then (if (wrap64 (Int.tmod (IntKind.u64.wrap (a0)) 5)) = 0 then (cruciblelaw8_ManifestFull.l0 k a0 (⟨#[114, 117, 108, 101, 32, 99, 99, 10, 32, 99, 111, 109, 109, 97, 110, 100, 32, 61, 32, 120, 10]⟩ : ByteArray) 7 0) else (if (wrap64 (Int.tmod (IntKind.u64.wrap (a0)) 5)) = 1 then (cruciblelaw8_ManifestFull.l1 k a0 (⟨#[114, 117, 108, 101, 32, 99, 99, 10, 32, 99, 111, 109, 109, 97, 110, 100, 32, 61, 32, 120, 10]⟩ : ByteArray) 0) else (if (wrap64 (Int.tmod (IntKind.u64.wrap (a0)) 5)) = 2 then (cruciblelaw8_ManifestFull.l2 k a0 (⟨#[114, 117, 108, 101, 32, 99, 99, 10, 32, 99, 111, 109, 109, 97, 110, 100, 32, 61, 32, 120, 10]⟩ : ByteArray) 0) else (if (wrap64 (Int.tmod (IntKind.u64.wrap (a0)) 5)) = 3 then (if 21 + 32 ≤ 9223372036854775807 then (cruciblelaw8_ManifestFull.j4 k a0 ((⟨#[114, 117, 108, 101, 32, 99, 99, 10, 32, 99, 111, 109, 109, 97, 110, 100, 32, 61, 32, 120, 10]⟩ : ByteArray) ++ (⟨#[100, 101, 102, 97, 117, 108, 116, 32, 97, 32, 98, 32, 99, 10, 100, 101, 102, 97, 117, 108, 116, 32, 100, 32, 101, 32, 102, 32, 103, 32, 104, 10]⟩ : ByteArray))) else (none)) else (cruciblelaw8_ManifestFull.l3 k a0 (⟨#[114, 117, 108, 101, 32, 99, 99, 10, 32, 99, 111, 109, 109, 97, 110, 100, 32, 61, 32, 120, 10]⟩ : ByteArray) 0))))) else (some false)) = some r := H
  have A2 := Aside0.mk A20
  clear A20
  by_cases c3 : t394 = true
  · subst c3
    have H1 : (if (wrap64 (Int.tmod (IntKind.u64.wrap (a0)) 5)) = 0 then (cruciblelaw8_ManifestFull.l0 k a0 (⟨#[114, 117, 108, 101, 32, 99, 99, 10, 32, 99, 111, 109, 109, 97, 110, 100, 32, 61, 32, 120, 10]⟩ : ByteArray) 7 0) else (if (wrap64 (Int.tmod (IntKind.u64.wrap (a0)) 5)) = 1 then (cruciblelaw8_ManifestFull.l1 k a0 (⟨#[114, 117, 108, 101, 32, 99, 99, 10, 32, 99, 111, 109, 109, 97, 110, 100, 32, 61, 32, 120, 10]⟩ : ByteArray) 0) else (if (wrap64 (Int.tmod (IntKind.u64.wrap (a0)) 5)) = 2 then (cruciblelaw8_ManifestFull.l2 k a0 (⟨#[114, 117, 108, 101, 32, 99, 99, 10, 32, 99, 111, 109, 109, 97, 110, 100, 32, 61, 32, 120, 10]⟩ : ByteArray) 0) else (if (wrap64 (Int.tmod (IntKind.u64.wrap (a0)) 5)) = 3 then (if 21 + 32 ≤ 9223372036854775807 then (cruciblelaw8_ManifestFull.j4 k a0 ((⟨#[114, 117, 108, 101, 32, 99, 99, 10, 32, 99, 111, 109, 109, 97, 110, 100, 32, 61, 32, 120, 10]⟩ : ByteArray) ++ (⟨#[100, 101, 102, 97, 117, 108, 116, 32, 97, 32, 98, 32, 99, 10, 100, 101, 102, 97, 117, 108, 116, 32, 100, 32, 101, 32, 102, 32, 103, 32, 104, 10]⟩ : ByteArray))) else (none)) else (cruciblelaw8_ManifestFull.l3 k a0 (⟨#[114, 117, 108, 101, 32, 99, 99, 10, 32, 99, 111, 109, 109, 97, 110, 100, 32, 61, 32, 120, 10]⟩ : ByteArray) 0))))) = some r := by rw [if_pos rfl] at H; exact H
    clear H
    have H := H1
    clear H1
    have HC4 := Aside0.mk H
    clear H
    go_enter Tryz.func5, Tryz.ntmps5
    go_upto_block 0 with (first | ((with_reducible refine gate_callee (f := 15) rfl ?_); refine goesL_ (some 14) rfl rfl Tryz.func15 (by kernel_rfl) rfl #[] rfl (by (try simp only [List.map_toArray, List.map_cons, List.map_nil]); first | done | rfl | (simp only [List.length_drop, List.length_take]; rfl)) ?_; (with_reducible refine (cruciblelaw8_awake.calls  true _ A2.out).mono ?_); rintro e w5 ⟨rfl, hb⟩; refine ⟨_, rfl, ?_⟩; have n0_ := Aside0.mk (below_step (by repeat (first | (with_reducible first | exact HB.out | apply below_alloc | apply pw_below_drewN | apply below_drew1) | exact HB.out)) hb); clear HB; have HB := n0_; clear n0_; (try clear hb); (try clear hb2); (try clear hk); (try clear hi)))
    (try simp only [Act.put, List.setIfInBounds_toArray, List.set_cons_zero, List.set_cons_succ])
    go_cut [3] (fun v3 wc => ∃ (kq : Nat) (x3_3 : ByteArray), v3 = .string x3_3 ∧ Aside0 (cruciblelaw8_ManifestFull.j4 kq a0 x3_3 = some r) ∧ Aside0 (kq ≤ k) ∧ Aside0 (Below w.heap.size w wc))
    case first =>
      have H := HC4.out
      clear HC4
      by_cases c6 : (wrap64 (Int.tmod (IntKind.u64.wrap (a0)) 5)) = 0
      · rw [if_pos c6] at H
        have c6b0 : ((wrap64 (Int.tmod (IntKind.u64.wrap (a0)) 5)) == 0) = true := beq_iff_eq.mpr c6
        have c6b1 : ((wrap64 (Int.tmod (IntKind.u64.wrap (a0)) 5)) != 0) = false := bne_eq_false_iff_eq.mpr c6
        clear c6
        (first | rw [c6b0] | (simp only [i64_w, i32_w]; rw [c6b0]) | skip)
        have H' := Aside0.mk H
        clear H
        go_wp2
        go_loopg [3, 5] k (fun kq v3 v5 w' => ∃ (x3_1 : ByteArray) (x5_1 : Int), v3 = .string x3_1 ∧ v5 = .int .i64 x5_1 ∧ Aside0 (cruciblelaw8_ManifestFull.l0 kq a0 x3_1 7 x5_1 = some r) ∧ Aside0 (kq ≤ k) ∧ Aside0 (Below w.heap.size w w'))
        case atStart => exact ⟨((⟨#[114, 117, 108, 101, 32, 99, 99, 10, 32, 99, 111, 109, 109, 97, 110, 100, 32, 61, 32, 120, 10]⟩ : ByteArray)), (0), (by first | rfl | (simp; done) | (simp [*]; done)), (by first | rfl | (simp; done) | (simp [*]; done)), H', ⟨Nat.le_refl _⟩, ⟨by repeat (first | (with_reducible first | exact HB.out | apply below_alloc | apply pw_below_drewN | apply below_drew1) | exact HB.out)⟩⟩
        case round =>
          clear H'
          try clear c1
          try clear p2
          try clear c3
          try clear c5
          try clear c6
          try clear c6b0
          try clear c6b1
          try clear p6
          obtain ⟨x3_1, x5_1, rfl, rfl, HA, HK1, HB⟩ := hrel
          cases gk with
          | zero => exact absurd HA.out (by simp [cruciblelaw8_ManifestFull.l0])
          | succ k1 =>
            have H := HA.out
            clear HA
            simp only [cruciblelaw8_ManifestFull.l0] at H
            by_cases c7 : x5_1 < 7
            · rw [if_pos c7] at H
              have c7b0 : decide (x5_1 < 7) = true := decide_eq_true c7
              clear c7
              by_cases c8 : x3_1.size + 6 ≤ 9223372036854775807
              · rw [if_pos c8] at H
                have c8b0 := eq_true c8
                have c8b1 : decide (x3_1.size + 6 ≤ 9223372036854775807) = true := decide_eq_true c8
                try have c8b2 : (9223372036854775807 < x3_1.size + 6) = False := eq_false (Nat.not_lt.2 c8)
                obtain ⟨y395, hy395⟩ : ∃ y_ : List Int, y_ = (([(wrap64 (97 + x5_1)) % 256] : List Int)) := ⟨_, rfl⟩
                replace H : (if (x3_1 ++ (⟨#[114, 117, 108, 101, 32, 114]⟩ : ByteArray)).size + (strOfNums y395).size ≤ 9223372036854775807 then (if ((x3_1 ++ (⟨#[114, 117, 108, 101, 32, 114]⟩ : ByteArray)) ++ (strOfNums y395)).size + 14 ≤ 9223372036854775807 then (cruciblelaw8_ManifestFull.l0 k1 a0 (((x3_1 ++ (⟨#[114, 117, 108, 101, 32, 114]⟩ : ByteArray)) ++ (strOfNums y395)) ++ (⟨#[10, 32, 99, 111, 109, 109, 97, 110, 100, 32, 61, 32, 120, 10]⟩ : ByteArray)) 7 (wrap64 (x5_1 + 1))) else (none)) else (none)) = some r := by first | (rw [hy395]; with_reducible exact H) | (have H2_ := (Option.bind_some _ _).symm.trans H; rw [hy395]; with_reducible exact H2_) | (have H2_ := (Option.bind_some _ _).symm.trans H; with_reducible exact H2_) | with_reducible exact H | (rw [hy395]; exact H) | exact H
                have Ny395 := Aside0.mk hy395
                clear hy395
                by_cases c9 : (x3_1 ++ (⟨#[114, 117, 108, 101, 32, 114]⟩ : ByteArray)).size + (strOfNums y395).size ≤ 9223372036854775807
                · rw [if_pos c9] at H
                  have c9b0 := eq_true c9
                  have c9b1 : decide ((x3_1 ++ (⟨#[114, 117, 108, 101, 32, 114]⟩ : ByteArray)).size + (strOfNums y395).size ≤ 9223372036854775807) = true := decide_eq_true c9
                  try have c9b2 : (9223372036854775807 < (x3_1 ++ (⟨#[114, 117, 108, 101, 32, 114]⟩ : ByteArray)).size + (strOfNums y395).size) = False := eq_false (Nat.not_lt.2 c9)
                  have c9b3 : (9223372036854775807 < x3_1.size + 6 + (strOfNums y395).size) = False := eq_false (by have hh : (x3_1 ++ (⟨#[114, 117, 108, 101, 32, 114]⟩ : ByteArray)).size = x3_1.size + 6 := (by rw [ByteArray.size_append] <;> rfl); omega)
                  by_cases c10 : ((x3_1 ++ (⟨#[114, 117, 108, 101, 32, 114]⟩ : ByteArray)) ++ (strOfNums y395)).size + 14 ≤ 9223372036854775807
                  · rw [if_pos c10] at H
                    have c10b0 := eq_true c10
                    have c10b1 : decide (((x3_1 ++ (⟨#[114, 117, 108, 101, 32, 114]⟩ : ByteArray)) ++ (strOfNums y395)).size + 14 ≤ 9223372036854775807) = true := decide_eq_true c10
                    try have c10b2 : (9223372036854775807 < ((x3_1 ++ (⟨#[114, 117, 108, 101, 32, 114]⟩ : ByteArray)) ++ (strOfNums y395)).size + 14) = False := eq_false (Nat.not_lt.2 c10)
                    have c10b3 : (9223372036854775807 < x3_1.size + 6 + (strOfNums y395).size + 14) = False := eq_false (by have hh : ((x3_1 ++ (⟨#[114, 117, 108, 101, 32, 114]⟩ : ByteArray)) ++ (strOfNums y395)).size = x3_1.size + 6 + (strOfNums y395).size := (by rw [ByteArray.size_append, ByteArray.size_append] <;> rfl); omega)
                    have H' := Aside0.mk H
                    clear H
                    go_wp2_with (first | ((with_reducible refine gate_dst (N := 45) rfl ?_); refine Kd.R_lit (Kd.int .u8) _ 5 ?hg (N := 45) ?hd (xs := ([(wrap64 (97 + x5_1)) % 256] : List Int)) (inner := [.int .u8 ((wrap64 (97 + x5_1)) % 256)]) (ok := fun _ => True) (okp := fun _ => True) ?hr ?hp (fun _ hk => hk) trivial (Below.refl _ _) (Nat.le_refl _) (by simp) ?_; (case hd => rfl); (case hg => rfl); (case hr => first | (go_simp; done) | (go_simp; rfl)); (case hp => exact (Reps.one (show Kd.M (Kd.int .u8) _ _ _ ((wrap64 (97 + x5_1)) % 256) [.int .u8 ((wrap64 (97 + x5_1)) % 256)] from rfl) (Reps.none _ _))); intro v396 w11 ho12 hb hg_ hnew_; clear hg_ hnew_; (first | rw [← Ny395.out] at ho12 | (simp only [Int.reduceToNat] at ho12; rw [← Ny395.out] at ho12)); have n0_ := Aside0.mk (Kd.R_lower ho12 (below_size (by repeat (first | (with_reducible first | exact HB.out | apply below_alloc | apply pw_below_drewN | apply below_drew1) | exact HB.out)))); have n1_ := Aside0.mk (below_step (by repeat (first | (with_reducible first | exact HB.out | apply below_alloc | apply pw_below_drewN | apply below_drew1) | exact HB.out)) hb); clear HB; have HO397 := n0_; have HB := n1_; clear n0_ n1_; clear hb ho12; have hcv13 := own_string (P := Tryz.prog) Tryz.underlying39 Tryz.underlying5 Tryz.underlying9 (Kd.own_of_R HO397.out)))
                    go_roundg k1
                    case measure => have := HK1.out; omega
                    case rel => exact ⟨(((x3_1 ++ (⟨#[114, 117, 108, 101, 32, 114]⟩ : ByteArray)) ++ (strOfNums y395)) ++ (⟨#[10, 32, 99, 111, 109, 109, 97, 110, 100, 32, 61, 32, 120, 10]⟩ : ByteArray)), (wrap64 (x5_1 + 1)), (by first | rfl | (simp; done) | (simp [*]; done)), (by first | rfl | (simp; done) | (simp [*]; done)), H', ⟨by have := HK1.out; omega⟩, ⟨by repeat (first | (with_reducible first | exact HB.out | apply below_alloc | apply pw_below_drewN | apply below_drew1) | exact HB.out)⟩⟩
                  · rw [if_neg c10] at H
                    exact absurd H (by simp)
                · rw [if_neg c9] at H
                  exact absurd H (by simp)
              · rw [if_neg c8] at H
                exact absurd H (by simp)
            · rw [if_neg c7] at H
              have c7b0 : decide (x5_1 < 7) = false := decide_eq_false c7
              clear c7
              have H' := Aside0.mk H
              clear H
              go_wp2
              go_meet
              case rel => exact ⟨_, (x3_1), (by first | rfl | (simp; done) | (simp [*]; done)), H', ⟨by have := HK1.out; first | omega | exact Nat.le_refl _⟩, ⟨by repeat (first | (with_reducible first | exact HB.out | apply below_alloc | apply pw_below_drewN | apply below_drew1) | exact HB.out)⟩⟩
      · rw [if_neg c6] at H
        have c6b0 : ((wrap64 (Int.tmod (IntKind.u64.wrap (a0)) 5)) == 0) = false := beq_eq_false_iff_ne.mpr c6
        have c6b1 : ((wrap64 (Int.tmod (IntKind.u64.wrap (a0)) 5)) != 0) = true := bne_iff_ne.mpr c6
        (first | rw [c6b0] | (simp only [i64_w, i32_w]; rw [c6b0]) | skip)
        by_cases c14 : (wrap64 (Int.tmod (IntKind.u64.wrap (a0)) 5)) = 1
        · rw [if_pos c14] at H
          have c14b0 : ((wrap64 (Int.tmod (IntKind.u64.wrap (a0)) 5)) == 1) = true := beq_iff_eq.mpr c14
          have c14b1 : ((wrap64 (Int.tmod (IntKind.u64.wrap (a0)) 5)) != 1) = false := bne_eq_false_iff_eq.mpr c14
          clear c14
          have H' := Aside0.mk H
          clear H
          go_wp2
          go_loopg [3, 6] k (fun kq v3 v6 w' => ∃ (x3_1 : ByteArray) (x6_1 : Int), v3 = .string x3_1 ∧ v6 = .int .i64 x6_1 ∧ Aside0 (cruciblelaw8_ManifestFull.l1 kq a0 x3_1 x6_1 = some r) ∧ Aside0 (kq ≤ k) ∧ Aside0 (Below w.heap.size w w'))
          case atStart => exact ⟨((⟨#[114, 117, 108, 101, 32, 99, 99, 10, 32, 99, 111, 109, 109, 97, 110, 100, 32, 61, 32, 120, 10]⟩ : ByteArray)), (0), (by first | rfl | (simp; done) | (simp [*]; done)), (by first | rfl | (simp; done) | (simp [*]; done)), H', ⟨Nat.le_refl _⟩, ⟨by repeat (first | (with_reducible first | exact HB.out | apply below_alloc | apply pw_below_drewN | apply below_drew1) | exact HB.out)⟩⟩
          case round =>
            clear H'
            try clear c1
            try clear hcv1
            try clear p2
            try clear c3
            try clear c5
            try clear c6
            try clear c6b0
            try clear c6b1
            try clear p6
            try clear c7
            try clear c7b0
            try clear c8
            try clear c8b0
            try clear c8b1
            try clear c8b2
            try clear c9
            try clear c9b0
            try clear c9b1
            try clear c9b2
            try clear c10
            try clear c10b0
            try clear c10b1
            try clear c10b2
            try clear hcv13
            try clear c14
            try clear c14b0
            try clear c14b1
            try clear p2
            try clear p6
            obtain ⟨x3_1, x6_1, rfl, rfl, HA, HK1, HB⟩ := hrel
            cases gk with
            | zero => exact absurd HA.out (by simp [cruciblelaw8_ManifestFull.l1])
            | succ k1 =>
              have H := HA.out
              clear HA
              simp only [cruciblelaw8_ManifestFull.l1] at H
              by_cases c15 : x6_1 < 4
              · rw [if_pos c15] at H
                have c15b0 : decide (x6_1 < 4) = true := decide_eq_true c15
                clear c15
                by_cases c16 : x3_1.size + 6 ≤ 9223372036854775807
                · rw [if_pos c16] at H
                  have c16b0 := eq_true c16
                  have c16b1 : decide (x3_1.size + 6 ≤ 9223372036854775807) = true := decide_eq_true c16
                  try have c16b2 : (9223372036854775807 < x3_1.size + 6) = False := eq_false (Nat.not_lt.2 c16)
                  obtain ⟨y398, hy398⟩ : ∃ y_ : List Int, y_ = (([(wrap64 (97 + x6_1)) % 256] : List Int)) := ⟨_, rfl⟩
                  replace H : (if (x3_1 ++ (⟨#[112, 111, 111, 108, 32, 112]⟩ : ByteArray)).size + (strOfNums y398).size ≤ 9223372036854775807 then (if ((x3_1 ++ (⟨#[112, 111, 111, 108, 32, 112]⟩ : ByteArray)) ++ (strOfNums y398)).size + 12 ≤ 9223372036854775807 then (cruciblelaw8_ManifestFull.l1 k1 a0 (((x3_1 ++ (⟨#[112, 111, 111, 108, 32, 112]⟩ : ByteArray)) ++ (strOfNums y398)) ++ (⟨#[10, 32, 100, 101, 112, 116, 104, 32, 61, 32, 49, 10]⟩ : ByteArray)) (wrap64 (x6_1 + 1))) else (none)) else (none)) = some r := by first | (rw [hy398]; with_reducible exact H) | (have H2_ := (Option.bind_some _ _).symm.trans H; rw [hy398]; with_reducible exact H2_) | (have H2_ := (Option.bind_some _ _).symm.trans H; with_reducible exact H2_) | with_reducible exact H | (rw [hy398]; exact H) | exact H
                  have Ny398 := Aside0.mk hy398
                  clear hy398
                  by_cases c17 : (x3_1 ++ (⟨#[112, 111, 111, 108, 32, 112]⟩ : ByteArray)).size + (strOfNums y398).size ≤ 9223372036854775807
                  · rw [if_pos c17] at H
                    have c17b0 := eq_true c17
                    have c17b1 : decide ((x3_1 ++ (⟨#[112, 111, 111, 108, 32, 112]⟩ : ByteArray)).size + (strOfNums y398).size ≤ 9223372036854775807) = true := decide_eq_true c17
                    try have c17b2 : (9223372036854775807 < (x3_1 ++ (⟨#[112, 111, 111, 108, 32, 112]⟩ : ByteArray)).size + (strOfNums y398).size) = False := eq_false (Nat.not_lt.2 c17)
                    have c17b3 : (9223372036854775807 < x3_1.size + 6 + (strOfNums y398).size) = False := eq_false (by have hh : (x3_1 ++ (⟨#[112, 111, 111, 108, 32, 112]⟩ : ByteArray)).size = x3_1.size + 6 := (by rw [ByteArray.size_append] <;> rfl); omega)
                    by_cases c18 : ((x3_1 ++ (⟨#[112, 111, 111, 108, 32, 112]⟩ : ByteArray)) ++ (strOfNums y398)).size + 12 ≤ 9223372036854775807
                    · rw [if_pos c18] at H
                      have c18b0 := eq_true c18
                      have c18b1 : decide (((x3_1 ++ (⟨#[112, 111, 111, 108, 32, 112]⟩ : ByteArray)) ++ (strOfNums y398)).size + 12 ≤ 9223372036854775807) = true := decide_eq_true c18
                      try have c18b2 : (9223372036854775807 < ((x3_1 ++ (⟨#[112, 111, 111, 108, 32, 112]⟩ : ByteArray)) ++ (strOfNums y398)).size + 12) = False := eq_false (Nat.not_lt.2 c18)
                      have c18b3 : (9223372036854775807 < x3_1.size + 6 + (strOfNums y398).size + 12) = False := eq_false (by have hh : ((x3_1 ++ (⟨#[112, 111, 111, 108, 32, 112]⟩ : ByteArray)) ++ (strOfNums y398)).size = x3_1.size + 6 + (strOfNums y398).size := (by rw [ByteArray.size_append, ByteArray.size_append] <;> rfl); omega)
                      have H' := Aside0.mk H
                      clear H
                      go_wp2_with (first | ((with_reducible refine gate_dst (N := 60) rfl ?_); refine Kd.R_lit (Kd.int .u8) _ 5 ?hg (N := 60) ?hd (xs := ([(wrap64 (97 + x6_1)) % 256] : List Int)) (inner := [.int .u8 ((wrap64 (97 + x6_1)) % 256)]) (ok := fun _ => True) (okp := fun _ => True) ?hr ?hp (fun _ hk => hk) trivial (Below.refl _ _) (Nat.le_refl _) (by simp) ?_; (case hd => rfl); (case hg => rfl); (case hr => first | (go_simp; done) | (go_simp; rfl)); (case hp => exact (Reps.one (show Kd.M (Kd.int .u8) _ _ _ ((wrap64 (97 + x6_1)) % 256) [.int .u8 ((wrap64 (97 + x6_1)) % 256)] from rfl) (Reps.none _ _))); intro v399 w19 ho20 hb hg_ hnew_; clear hg_ hnew_; (first | rw [← Ny398.out] at ho20 | (simp only [Int.reduceToNat] at ho20; rw [← Ny398.out] at ho20)); have n0_ := Aside0.mk (Kd.R_lower ho20 (below_size (by repeat (first | (with_reducible first | exact HB.out | apply below_alloc | apply pw_below_drewN | apply below_drew1) | exact HB.out)))); have n1_ := Aside0.mk (below_step (by repeat (first | (with_reducible first | exact HB.out | apply below_alloc | apply pw_below_drewN | apply below_drew1) | exact HB.out)) hb); clear HB; have HO400 := n0_; have HB := n1_; clear n0_ n1_; clear hb ho20; have hcv21 := own_string (P := Tryz.prog) Tryz.underlying39 Tryz.underlying5 Tryz.underlying9 (Kd.own_of_R HO400.out)))
                      go_roundg k1
                      case measure => have := HK1.out; omega
                      case rel => exact ⟨(((x3_1 ++ (⟨#[112, 111, 111, 108, 32, 112]⟩ : ByteArray)) ++ (strOfNums y398)) ++ (⟨#[10, 32, 100, 101, 112, 116, 104, 32, 61, 32, 49, 10]⟩ : ByteArray)), (wrap64 (x6_1 + 1)), (by first | rfl | (simp; done) | (simp [*]; done)), (by first | rfl | (simp; done) | (simp [*]; done)), H', ⟨by have := HK1.out; omega⟩, ⟨by repeat (first | (with_reducible first | exact HB.out | apply below_alloc | apply pw_below_drewN | apply below_drew1) | exact HB.out)⟩⟩
                    · rw [if_neg c18] at H
                      exact absurd H (by simp)
                  · rw [if_neg c17] at H
                    exact absurd H (by simp)
                · rw [if_neg c16] at H
                  exact absurd H (by simp)
              · rw [if_neg c15] at H
                have c15b0 : decide (x6_1 < 4) = false := decide_eq_false c15
                clear c15
                have H' := Aside0.mk H
                clear H
                go_wp2
                go_meet
                case rel => exact ⟨_, (x3_1), (by first | rfl | (simp; done) | (simp [*]; done)), H', ⟨by have := HK1.out; first | omega | exact Nat.le_refl _⟩, ⟨by repeat (first | (with_reducible first | exact HB.out | apply below_alloc | apply pw_below_drewN | apply below_drew1) | exact HB.out)⟩⟩
        · rw [if_neg c14] at H
          have c14b0 : ((wrap64 (Int.tmod (IntKind.u64.wrap (a0)) 5)) == 1) = false := beq_eq_false_iff_ne.mpr c14
          have c14b1 : ((wrap64 (Int.tmod (IntKind.u64.wrap (a0)) 5)) != 1) = true := bne_iff_ne.mpr c14
          by_cases c22 : (wrap64 (Int.tmod (IntKind.u64.wrap (a0)) 5)) = 2
          · rw [if_pos c22] at H
            have c22b0 : ((wrap64 (Int.tmod (IntKind.u64.wrap (a0)) 5)) == 2) = true := beq_iff_eq.mpr c22
            have c22b1 : ((wrap64 (Int.tmod (IntKind.u64.wrap (a0)) 5)) != 2) = false := bne_eq_false_iff_eq.mpr c22
            clear c22
            have H' := Aside0.mk H
            clear H
            go_wp2
            go_loopg [3, 7] k (fun kq v3 v7 w' => ∃ (x3_1 : ByteArray) (x7_1 : Int), v3 = .string x3_1 ∧ v7 = .int .i64 x7_1 ∧ Aside0 (cruciblelaw8_ManifestFull.l2 kq a0 x3_1 x7_1 = some r) ∧ Aside0 (kq ≤ k) ∧ Aside0 (Below w.heap.size w w'))
            case atStart => exact ⟨((⟨#[114, 117, 108, 101, 32, 99, 99, 10, 32, 99, 111, 109, 109, 97, 110, 100, 32, 61, 32, 120, 10]⟩ : ByteArray)), (0), (by first | rfl | (simp; done) | (simp [*]; done)), (by first | rfl | (simp; done) | (simp [*]; done)), H', ⟨Nat.le_refl _⟩, ⟨by repeat (first | (with_reducible first | exact HB.out | apply below_alloc | apply pw_below_drewN | apply below_drew1) | exact HB.out)⟩⟩
            case round =>
              clear H'
              try clear c1
              try clear hcv1
              try clear c2
              try clear p2
              try clear hcv2
              try clear c3
              try clear c5
              try clear c6
              try clear c6b0
              try clear c6b1
              try clear p6
              try clear c7
              try clear c7b0
              try clear c8
              try clear c8b0
              try clear c8b1
              try clear c8b2
              try clear c9
              try clear c9b0
              try clear c9b1
              try clear c9b2
              try clear c10
              try clear c10b0
              try clear c10b1
              try clear c10b2
              try clear hcv13
              try clear c14
              try clear c14b0
              try clear c14b1
              try clear c15
              try clear c15b0
              try clear c16
              try clear c16b0
              try clear c16b1
              try clear c16b2
              try clear c17
              try clear c17b0
              try clear c17b1
              try clear c17b2
              try clear c18
              try clear c18b0
              try clear c18b1
              try clear c18b2
              try clear hcv21
              try clear c22
              try clear c22b0
              try clear c22b1
              try clear p2
              try clear p6
              obtain ⟨x3_1, x7_1, rfl, rfl, HA, HK1, HB⟩ := hrel
              cases gk with
              | zero => exact absurd HA.out (by simp [cruciblelaw8_ManifestFull.l2])
              | succ k1 =>
                have H := HA.out
                clear HA
                simp only [cruciblelaw8_ManifestFull.l2] at H
                by_cases c23 : x7_1 < 16
                · rw [if_pos c23] at H
                  have c23b0 : decide (x7_1 < 16) = true := decide_eq_true c23
                  clear c23
                  by_cases c24 : x3_1.size + 7 ≤ 9223372036854775807
                  · rw [if_pos c24] at H
                    have c24b0 := eq_true c24
                    have c24b1 : decide (x3_1.size + 7 ≤ 9223372036854775807) = true := decide_eq_true c24
                    try have c24b2 : (9223372036854775807 < x3_1.size + 7) = False := eq_false (Nat.not_lt.2 c24)
                    obtain ⟨y401, hy401⟩ : ∃ y_ : List Int, y_ = (([(wrap64 (97 + x7_1)) % 256] : List Int)) := ⟨_, rfl⟩
                    replace H : (if (x3_1 ++ (⟨#[98, 117, 105, 108, 100, 32, 111]⟩ : ByteArray)).size + (strOfNums y401).size ≤ 9223372036854775807 then (if ((x3_1 ++ (⟨#[98, 117, 105, 108, 100, 32, 111]⟩ : ByteArray)) ++ (strOfNums y401)).size + 6 ≤ 9223372036854775807 then (cruciblelaw8_ManifestFull.l2 k1 a0 (((x3_1 ++ (⟨#[98, 117, 105, 108, 100, 32, 111]⟩ : ByteArray)) ++ (strOfNums y401)) ++ (⟨#[32, 58, 32, 99, 99, 10]⟩ : ByteArray)) (wrap64 (x7_1 + 1))) else (none)) else (none)) = some r := by first | (rw [hy401]; with_reducible exact H) | (have H2_ := (Option.bind_some _ _).symm.trans H; rw [hy401]; with_reducible exact H2_) | (have H2_ := (Option.bind_some _ _).symm.trans H; with_reducible exact H2_) | with_reducible exact H | (rw [hy401]; exact H) | exact H
                    have Ny401 := Aside0.mk hy401
                    clear hy401
                    by_cases c25 : (x3_1 ++ (⟨#[98, 117, 105, 108, 100, 32, 111]⟩ : ByteArray)).size + (strOfNums y401).size ≤ 9223372036854775807
                    · rw [if_pos c25] at H
                      have c25b0 := eq_true c25
                      have c25b1 : decide ((x3_1 ++ (⟨#[98, 117, 105, 108, 100, 32, 111]⟩ : ByteArray)).size + (strOfNums y401).size ≤ 9223372036854775807) = true := decide_eq_true c25
                      try have c25b2 : (9223372036854775807 < (x3_1 ++ (⟨#[98, 117, 105, 108, 100, 32, 111]⟩ : ByteArray)).size + (strOfNums y401).size) = False := eq_false (Nat.not_lt.2 c25)
                      have c25b3 : (9223372036854775807 < x3_1.size + 7 + (strOfNums y401).size) = False := eq_false (by have hh : (x3_1 ++ (⟨#[98, 117, 105, 108, 100, 32, 111]⟩ : ByteArray)).size = x3_1.size + 7 := (by rw [ByteArray.size_append] <;> rfl); omega)
                      by_cases c26 : ((x3_1 ++ (⟨#[98, 117, 105, 108, 100, 32, 111]⟩ : ByteArray)) ++ (strOfNums y401)).size + 6 ≤ 9223372036854775807
                      · rw [if_pos c26] at H
                        have c26b0 := eq_true c26
                        have c26b1 : decide (((x3_1 ++ (⟨#[98, 117, 105, 108, 100, 32, 111]⟩ : ByteArray)) ++ (strOfNums y401)).size + 6 ≤ 9223372036854775807) = true := decide_eq_true c26
                        try have c26b2 : (9223372036854775807 < ((x3_1 ++ (⟨#[98, 117, 105, 108, 100, 32, 111]⟩ : ByteArray)) ++ (strOfNums y401)).size + 6) = False := eq_false (Nat.not_lt.2 c26)
                        have c26b3 : (9223372036854775807 < x3_1.size + 7 + (strOfNums y401).size + 6) = False := eq_false (by have hh : ((x3_1 ++ (⟨#[98, 117, 105, 108, 100, 32, 111]⟩ : ByteArray)) ++ (strOfNums y401)).size = x3_1.size + 7 + (strOfNums y401).size := (by rw [ByteArray.size_append, ByteArray.size_append] <;> rfl); omega)
                        have H' := Aside0.mk H
                        clear H
                        go_wp2_with (first | ((with_reducible refine gate_dst (N := 75) rfl ?_); refine Kd.R_lit (Kd.int .u8) _ 5 ?hg (N := 75) ?hd (xs := ([(wrap64 (97 + x7_1)) % 256] : List Int)) (inner := [.int .u8 ((wrap64 (97 + x7_1)) % 256)]) (ok := fun _ => True) (okp := fun _ => True) ?hr ?hp (fun _ hk => hk) trivial (Below.refl _ _) (Nat.le_refl _) (by simp) ?_; (case hd => rfl); (case hg => rfl); (case hr => first | (go_simp; done) | (go_simp; rfl)); (case hp => exact (Reps.one (show Kd.M (Kd.int .u8) _ _ _ ((wrap64 (97 + x7_1)) % 256) [.int .u8 ((wrap64 (97 + x7_1)) % 256)] from rfl) (Reps.none _ _))); intro v402 w27 ho28 hb hg_ hnew_; clear hg_ hnew_; (first | rw [← Ny401.out] at ho28 | (simp only [Int.reduceToNat] at ho28; rw [← Ny401.out] at ho28)); have n0_ := Aside0.mk (Kd.R_lower ho28 (below_size (by repeat (first | (with_reducible first | exact HB.out | apply below_alloc | apply pw_below_drewN | apply below_drew1) | exact HB.out)))); have n1_ := Aside0.mk (below_step (by repeat (first | (with_reducible first | exact HB.out | apply below_alloc | apply pw_below_drewN | apply below_drew1) | exact HB.out)) hb); clear HB; have HO403 := n0_; have HB := n1_; clear n0_ n1_; clear hb ho28; have hcv29 := own_string (P := Tryz.prog) Tryz.underlying39 Tryz.underlying5 Tryz.underlying9 (Kd.own_of_R HO403.out)))
                        go_roundg k1
                        case measure => have := HK1.out; omega
                        case rel => exact ⟨(((x3_1 ++ (⟨#[98, 117, 105, 108, 100, 32, 111]⟩ : ByteArray)) ++ (strOfNums y401)) ++ (⟨#[32, 58, 32, 99, 99, 10]⟩ : ByteArray)), (wrap64 (x7_1 + 1)), (by first | rfl | (simp; done) | (simp [*]; done)), (by first | rfl | (simp; done) | (simp [*]; done)), H', ⟨by have := HK1.out; omega⟩, ⟨by repeat (first | (with_reducible first | exact HB.out | apply below_alloc | apply pw_below_drewN | apply below_drew1) | exact HB.out)⟩⟩
                      · rw [if_neg c26] at H
                        exact absurd H (by simp)
                    · rw [if_neg c25] at H
                      exact absurd H (by simp)
                  · rw [if_neg c24] at H
                    exact absurd H (by simp)
                · rw [if_neg c23] at H
                  have c23b0 : decide (x7_1 < 16) = false := decide_eq_false c23
                  clear c23
                  have H' := Aside0.mk H
                  clear H
                  go_wp2
                  go_meet
                  case rel => exact ⟨_, (x3_1), (by first | rfl | (simp; done) | (simp [*]; done)), H', ⟨by have := HK1.out; first | omega | exact Nat.le_refl _⟩, ⟨by repeat (first | (with_reducible first | exact HB.out | apply below_alloc | apply pw_below_drewN | apply below_drew1) | exact HB.out)⟩⟩
          · rw [if_neg c22] at H
            have c22b0 : ((wrap64 (Int.tmod (IntKind.u64.wrap (a0)) 5)) == 2) = false := beq_eq_false_iff_ne.mpr c22
            have c22b1 : ((wrap64 (Int.tmod (IntKind.u64.wrap (a0)) 5)) != 2) = true := bne_iff_ne.mpr c22
            by_cases c30 : (wrap64 (Int.tmod (IntKind.u64.wrap (a0)) 5)) = 3
            · rw [if_pos c30] at H
              have c30b0 : ((wrap64 (Int.tmod (IntKind.u64.wrap (a0)) 5)) == 3) = true := beq_iff_eq.mpr c30
              have c30b1 : ((wrap64 (Int.tmod (IntKind.u64.wrap (a0)) 5)) != 3) = false := bne_eq_false_iff_eq.mpr c30
              clear c30
              by_cases c31 : 21 + 32 ≤ 9223372036854775807
              · rw [if_pos c31] at H
                have c31b0 := eq_true c31
                have c31b1 : decide (21 + 32 ≤ 9223372036854775807) = true := decide_eq_true c31
                try have c31b2 : (9223372036854775807 < 21 + 32) = False := eq_false (Nat.not_lt.2 c31)
                have H' := Aside0.mk H
                clear H
                go_wp2
                go_meet
                case rel => exact ⟨_, ((⟨#[114, 117, 108, 101, 32, 99, 99, 10, 32, 99, 111, 109, 109, 97, 110, 100, 32, 61, 32, 120, 10]⟩ : ByteArray) ++ (⟨#[100, 101, 102, 97, 117, 108, 116, 32, 97, 32, 98, 32, 99, 10, 100, 101, 102, 97, 117, 108, 116, 32, 100, 32, 101, 32, 102, 32, 103, 32, 104, 10]⟩ : ByteArray)), (by first | rfl | (simp; done) | (simp [*]; done)), H', ⟨by first | omega | exact Nat.le_refl _⟩, ⟨by repeat (first | (with_reducible first | exact HB.out | apply below_alloc | apply pw_below_drewN | apply below_drew1) | exact HB.out)⟩⟩
              · rw [if_neg c31] at H
                exact absurd H (by simp)
            · rw [if_neg c30] at H
              have c30b0 : ((wrap64 (Int.tmod (IntKind.u64.wrap (a0)) 5)) == 3) = false := beq_eq_false_iff_ne.mpr c30
              have c30b1 : ((wrap64 (Int.tmod (IntKind.u64.wrap (a0)) 5)) != 3) = true := bne_iff_ne.mpr c30
              have H' := Aside0.mk H
              clear H
              go_wp2
              go_loopg [3, 8] k (fun kq v3 v8 w' => ∃ (x3_1 : ByteArray) (x8_1 : Int), v3 = .string x3_1 ∧ v8 = .int .i64 x8_1 ∧ Aside0 (cruciblelaw8_ManifestFull.l3 kq a0 x3_1 x8_1 = some r) ∧ Aside0 (kq ≤ k) ∧ Aside0 (Below w.heap.size w w'))
              case atStart => exact ⟨((⟨#[114, 117, 108, 101, 32, 99, 99, 10, 32, 99, 111, 109, 109, 97, 110, 100, 32, 61, 32, 120, 10]⟩ : ByteArray)), (0), (by first | rfl | (simp; done) | (simp [*]; done)), (by first | rfl | (simp; done) | (simp [*]; done)), H', ⟨Nat.le_refl _⟩, ⟨by repeat (first | (with_reducible first | exact HB.out | apply below_alloc | apply pw_below_drewN | apply below_drew1) | exact HB.out)⟩⟩
              case round =>
                clear H'
                try clear c1
                try clear hcv1
                try clear c2
                try clear p2
                try clear hcv2
                try clear c3
                try clear c5
                try clear c6
                try clear c6b0
                try clear c6b1
                try clear p6
                try clear c7
                try clear c7b0
                try clear c8
                try clear c8b0
                try clear c8b1
                try clear c8b2
                try clear c9
                try clear c9b0
                try clear c9b1
                try clear c9b2
                try clear c10
                try clear c10b0
                try clear c10b1
                try clear c10b2
                try clear hcv13
                try clear c14
                try clear c14b0
                try clear c14b1
                try clear c15
                try clear c15b0
                try clear c16
                try clear c16b0
                try clear c16b1
                try clear c16b2
                try clear c17
                try clear c17b0
                try clear c17b1
                try clear c17b2
                try clear c18
                try clear c18b0
                try clear c18b1
                try clear c18b2
                try clear hcv21
                try clear c22
                try clear c22b0
                try clear c22b1
                try clear c23
                try clear c23b0
                try clear c24
                try clear c24b0
                try clear c24b1
                try clear c24b2
                try clear c25
                try clear c25b0
                try clear c25b1
                try clear c25b2
                try clear c26
                try clear c26b0
                try clear c26b1
                try clear c26b2
                try clear hcv29
                try clear c30
                try clear c30b0
                try clear c30b1
                try clear c31
                try clear c31b0
                try clear c31b1
                try clear c31b2
                try clear p2
                try clear p6
                obtain ⟨x3_1, x8_1, rfl, rfl, HA, HK1, HB⟩ := hrel
                cases gk with
                | zero => exact absurd HA.out (by simp [cruciblelaw8_ManifestFull.l3])
                | succ k1 =>
                  have H := HA.out
                  clear HA
                  simp only [cruciblelaw8_ManifestFull.l3] at H
                  by_cases c32 : x8_1 < 16
                  · rw [if_pos c32] at H
                    have c32b0 : decide (x8_1 < 16) = true := decide_eq_true c32
                    clear c32
                    by_cases c33 : x3_1.size + 1 ≤ 9223372036854775807
                    · rw [if_pos c33] at H
                      have c33b0 := eq_true c33
                      have c33b1 : decide (x3_1.size + 1 ≤ 9223372036854775807) = true := decide_eq_true c33
                      try have c33b2 : (9223372036854775807 < x3_1.size + 1) = False := eq_false (Nat.not_lt.2 c33)
                      obtain ⟨y404, hy404⟩ : ∃ y_ : List Int, y_ = (([(wrap64 (97 + x8_1)) % 256] : List Int)) := ⟨_, rfl⟩
                      replace H : (if (x3_1 ++ (⟨#[118]⟩ : ByteArray)).size + (strOfNums y404).size ≤ 9223372036854775807 then (if ((x3_1 ++ (⟨#[118]⟩ : ByteArray)) ++ (strOfNums y404)).size + 5 ≤ 9223372036854775807 then (cruciblelaw8_ManifestFull.l3 k1 a0 (((x3_1 ++ (⟨#[118]⟩ : ByteArray)) ++ (strOfNums y404)) ++ (⟨#[32, 61, 32, 49, 10]⟩ : ByteArray)) (wrap64 (x8_1 + 1))) else (none)) else (none)) = some r := by first | (rw [hy404]; with_reducible exact H) | (have H2_ := (Option.bind_some _ _).symm.trans H; rw [hy404]; with_reducible exact H2_) | (have H2_ := (Option.bind_some _ _).symm.trans H; with_reducible exact H2_) | with_reducible exact H | (rw [hy404]; exact H) | exact H
                      have Ny404 := Aside0.mk hy404
                      clear hy404
                      by_cases c34 : (x3_1 ++ (⟨#[118]⟩ : ByteArray)).size + (strOfNums y404).size ≤ 9223372036854775807
                      · rw [if_pos c34] at H
                        have c34b0 := eq_true c34
                        have c34b1 : decide ((x3_1 ++ (⟨#[118]⟩ : ByteArray)).size + (strOfNums y404).size ≤ 9223372036854775807) = true := decide_eq_true c34
                        try have c34b2 : (9223372036854775807 < (x3_1 ++ (⟨#[118]⟩ : ByteArray)).size + (strOfNums y404).size) = False := eq_false (Nat.not_lt.2 c34)
                        have c34b3 : (9223372036854775807 < x3_1.size + 1 + (strOfNums y404).size) = False := eq_false (by have hh : (x3_1 ++ (⟨#[118]⟩ : ByteArray)).size = x3_1.size + 1 := (by rw [ByteArray.size_append] <;> rfl); omega)
                        by_cases c35 : ((x3_1 ++ (⟨#[118]⟩ : ByteArray)) ++ (strOfNums y404)).size + 5 ≤ 9223372036854775807
                        · rw [if_pos c35] at H
                          have c35b0 := eq_true c35
                          have c35b1 : decide (((x3_1 ++ (⟨#[118]⟩ : ByteArray)) ++ (strOfNums y404)).size + 5 ≤ 9223372036854775807) = true := decide_eq_true c35
                          try have c35b2 : (9223372036854775807 < ((x3_1 ++ (⟨#[118]⟩ : ByteArray)) ++ (strOfNums y404)).size + 5) = False := eq_false (Nat.not_lt.2 c35)
                          have c35b3 : (9223372036854775807 < x3_1.size + 1 + (strOfNums y404).size + 5) = False := eq_false (by have hh : ((x3_1 ++ (⟨#[118]⟩ : ByteArray)) ++ (strOfNums y404)).size = x3_1.size + 1 + (strOfNums y404).size := (by rw [ByteArray.size_append, ByteArray.size_append] <;> rfl); omega)
                          have H' := Aside0.mk H
                          clear H
                          go_wp2_with (first | ((with_reducible refine gate_dst (N := 29) rfl ?_); refine Kd.R_lit (Kd.int .u8) _ 5 ?hg (N := 29) ?hd (xs := ([(wrap64 (97 + x8_1)) % 256] : List Int)) (inner := [.int .u8 ((wrap64 (97 + x8_1)) % 256)]) (ok := fun _ => True) (okp := fun _ => True) ?hr ?hp (fun _ hk => hk) trivial (Below.refl _ _) (Nat.le_refl _) (by simp) ?_; (case hd => rfl); (case hg => rfl); (case hr => first | (go_simp; done) | (go_simp; rfl)); (case hp => exact (Reps.one (show Kd.M (Kd.int .u8) _ _ _ ((wrap64 (97 + x8_1)) % 256) [.int .u8 ((wrap64 (97 + x8_1)) % 256)] from rfl) (Reps.none _ _))); intro v405 w36 ho37 hb hg_ hnew_; clear hg_ hnew_; (first | rw [← Ny404.out] at ho37 | (simp only [Int.reduceToNat] at ho37; rw [← Ny404.out] at ho37)); have n0_ := Aside0.mk (Kd.R_lower ho37 (below_size (by repeat (first | (with_reducible first | exact HB.out | apply below_alloc | apply pw_below_drewN | apply below_drew1) | exact HB.out)))); have n1_ := Aside0.mk (below_step (by repeat (first | (with_reducible first | exact HB.out | apply below_alloc | apply pw_below_drewN | apply below_drew1) | exact HB.out)) hb); clear HB; have HO406 := n0_; have HB := n1_; clear n0_ n1_; clear hb ho37; have hcv38 := own_string (P := Tryz.prog) Tryz.underlying39 Tryz.underlying5 Tryz.underlying9 (Kd.own_of_R HO406.out)))
                          go_roundg k1
                          case measure => have := HK1.out; omega
                          case rel => exact ⟨(((x3_1 ++ (⟨#[118]⟩ : ByteArray)) ++ (strOfNums y404)) ++ (⟨#[32, 61, 32, 49, 10]⟩ : ByteArray)), (wrap64 (x8_1 + 1)), (by first | rfl | (simp; done) | (simp [*]; done)), (by first | rfl | (simp; done) | (simp [*]; done)), H', ⟨by have := HK1.out; omega⟩, ⟨by repeat (first | (with_reducible first | exact HB.out | apply below_alloc | apply pw_below_drewN | apply below_drew1) | exact HB.out)⟩⟩
                        · rw [if_neg c35] at H
                          exact absurd H (by simp)
                      · rw [if_neg c34] at H
                        exact absurd H (by simp)
                    · rw [if_neg c33] at H
                      exact absurd H (by simp)
                  · rw [if_neg c32] at H
                    have c32b0 : decide (x8_1 < 16) = false := decide_eq_false c32
                    clear c32
                    have H' := Aside0.mk H
                    clear H
                    go_wp2
                    go_meet
                    case rel => exact ⟨_, (x3_1), (by first | rfl | (simp; done) | (simp [*]; done)), H', ⟨by have := HK1.out; first | omega | exact Nat.le_refl _⟩, ⟨by repeat (first | (with_reducible first | exact HB.out | apply below_alloc | apply pw_below_drewN | apply below_drew1) | exact HB.out)⟩⟩
    case rest =>
      clear HC4
      try clear c1
      try clear hcv1
      try clear c2
      try clear p2
      try clear hcv2
      try clear c3
      try clear hcv3
      try clear c5
      try clear c6
      try clear c6b0
      try clear c6b1
      try clear p6
      try clear c7
      try clear c7b0
      try clear c8
      try clear c8b0
      try clear c8b1
      try clear c8b2
      try clear c9
      try clear c9b0
      try clear c9b1
      try clear c9b2
      try clear c10
      try clear c10b0
      try clear c10b1
      try clear c10b2
      try clear hcv13
      try clear c14
      try clear c14b0
      try clear c14b1
      try clear c15
      try clear c15b0
      try clear c16
      try clear c16b0
      try clear c16b1
      try clear c16b2
      try clear c17
      try clear c17b0
      try clear c17b1
      try clear c17b2
      try clear c18
      try clear c18b0
      try clear c18b1
      try clear c18b2
      try clear hcv21
      try clear c22
      try clear c22b0
      try clear c22b1
      try clear c23
      try clear c23b0
      try clear c24
      try clear c24b0
      try clear c24b1
      try clear c24b2
      try clear c25
      try clear c25b0
      try clear c25b1
      try clear c25b2
      try clear c26
      try clear c26b0
      try clear c26b1
      try clear c26b2
      try clear hcv29
      try clear c30
      try clear c30b0
      try clear c30b1
      try clear c31
      try clear c31b0
      try clear c31b1
      try clear c31b2
      try clear c32
      try clear c32b0
      try clear c33
      try clear c33b0
      try clear c33b1
      try clear c33b2
      try clear c34
      try clear c34b0
      try clear c34b1
      try clear c34b2
      try clear c35
      try clear c35b0
      try clear c35b1
      try clear c35b2
      try clear hcv38
      try clear p2
      try clear p6
      obtain ⟨kq, x3_3, rfl, HA, HJ3, HB⟩ := hcut
      cases kq with
      | zero => exact absurd HA.out (by simp [cruciblelaw8_ManifestFull.j4])
      | succ kj3 =>
        have H := HA.out
        clear HA
        simp only [cruciblelaw8_ManifestFull.j4] at H
        replace H := Option.bind_eq_some_iff.mp H
        obtain ⟨⟨t407, t410, t413, t416⟩, A390, H⟩ := H
        replace H : ((some (([(⟨#[114, 117, 108, 101, 32, 109, 111, 114, 101, 10, 32, 99, 111, 109, 109, 97, 110, 100, 32, 61, 32, 120, 10]⟩ : ByteArray), (⟨#[112, 111, 111, 108, 32, 109, 111, 114, 101, 10, 32, 100, 101, 112, 116, 104, 32, 61, 32, 49, 10]⟩ : ByteArray), (⟨#[98, 117, 105, 108, 100, 32, 109, 111, 114, 101, 32, 58, 32, 99, 99, 10]⟩ : ByteArray), (⟨#[100, 101, 102, 97, 117, 108, 116, 32, 120, 10]⟩ : ByteArray), (⟨#[109, 111, 114, 101, 32, 61, 32, 49, 10]⟩ : ByteArray)] : List ByteArray) : List ByteArray)).bind fun y418 => (if 0 ≤ (wrap64 (Int.tmod (IntKind.u64.wrap (a0)) 5)) then (if (wrap64 (Int.tmod (IntKind.u64.wrap (a0)) 5)) < (y418.length : Int) then (if x3_3.size + (rdOf ByteArray.empty y418 (wrap64 (Int.tmod (IntKind.u64.wrap (a0)) 5))).size ≤ 9223372036854775807 then ((manifest_Parse.f (x3_3 ++ (rdOf ByteArray.empty y418 (wrap64 (Int.tmod (IntKind.u64.wrap (a0)) 5))))).bind fun bt422 => ((cruciblelaw0_Num.f t416).bind fun t433 => (if t433 = 0 then ((cruciblelaw0_SameGraph.f kj3 bt422.1 bt422.2.1 bt422.2.2.1 ([] : List (S42)) ([] : List (S44)) ([] : List ByteArray)).bind fun t434 => (if t434 = true then ((cruciblelaw0_Num.f bt422.2.2.2).bind fun t435 => (some (t435 == 801))) else (some false))) else (some false)))) else (none)) else (none)) else (none))) = some r := H
        have A39 := Aside0.mk A390
        clear A390
        obtain ⟨y418, hy418⟩ : ∃ y_ : List ByteArray, y_ = (([(⟨#[114, 117, 108, 101, 32, 109, 111, 114, 101, 10, 32, 99, 111, 109, 109, 97, 110, 100, 32, 61, 32, 120, 10]⟩ : ByteArray), (⟨#[112, 111, 111, 108, 32, 109, 111, 114, 101, 10, 32, 100, 101, 112, 116, 104, 32, 61, 32, 49, 10]⟩ : ByteArray), (⟨#[98, 117, 105, 108, 100, 32, 109, 111, 114, 101, 32, 58, 32, 99, 99, 10]⟩ : ByteArray), (⟨#[100, 101, 102, 97, 117, 108, 116, 32, 120, 10]⟩ : ByteArray), (⟨#[109, 111, 114, 101, 32, 61, 32, 49, 10]⟩ : ByteArray)] : List ByteArray)) := ⟨_, rfl⟩
        replace H : (if 0 ≤ (wrap64 (Int.tmod (IntKind.u64.wrap (a0)) 5)) then (if (wrap64 (Int.tmod (IntKind.u64.wrap (a0)) 5)) < (y418.length : Int) then (if x3_3.size + (rdOf ByteArray.empty y418 (wrap64 (Int.tmod (IntKind.u64.wrap (a0)) 5))).size ≤ 9223372036854775807 then ((manifest_Parse.f (x3_3 ++ (rdOf ByteArray.empty y418 (wrap64 (Int.tmod (IntKind.u64.wrap (a0)) 5))))).bind fun bt422 => ((cruciblelaw0_Num.f t416).bind fun t433 => (if t433 = 0 then ((cruciblelaw0_SameGraph.f kj3 bt422.1 bt422.2.1 bt422.2.2.1 ([] : List (S42)) ([] : List (S44)) ([] : List ByteArray)).bind fun t434 => (if t434 = true then ((cruciblelaw0_Num.f bt422.2.2.2).bind fun t435 => (some (t435 == 801))) else (some false))) else (some false)))) else (none)) else (none)) else (none)) = some r := by first | (rw [hy418]; with_reducible exact H) | (have H2_ := (Option.bind_some _ _).symm.trans H; rw [hy418]; with_reducible exact H2_) | (have H2_ := (Option.bind_some _ _).symm.trans H; with_reducible exact H2_) | with_reducible exact H | (rw [hy418]; exact H) | exact H
        have Ny418 := Aside0.mk hy418
        clear hy418
        obtain ⟨ji40, hji40⟩ : ∃ j_ : Int, (wrap64 (Int.tmod (IntKind.u64.wrap (a0)) 5)) = j_ := ⟨_, rfl⟩
        replace H : (if 0 ≤ (ji40) then (if (ji40) < (y418.length : Int) then (if x3_3.size + (rdOf ByteArray.empty y418 (ji40)).size ≤ 9223372036854775807 then ((manifest_Parse.f (x3_3 ++ (rdOf ByteArray.empty y418 (ji40)))).bind fun bt422 => ((cruciblelaw0_Num.f t416).bind fun t433 => (if t433 = 0 then ((cruciblelaw0_SameGraph.f kj3 bt422.1 bt422.2.1 bt422.2.2.1 ([] : List (S42)) ([] : List (S44)) ([] : List ByteArray)).bind fun t434 => (if t434 = true then ((cruciblelaw0_Num.f bt422.2.2.2).bind fun t435 => (some (t435 == 801))) else (some false))) else (some false)))) else (none)) else (none)) else (none)) = some r := by first | (rw [hji40] at H; exact H) | (simp only [hji40] at H ⊢; exact H)
        (try rw [hji40] at A39)
        have hji40w : (IntKind.i64.wrap (Int.tmod (IntKind.u64.wrap (a0)) 5)) = ji40 := (i64_w _).trans hji40
        by_cases c41 : 0 ≤ (ji40)
        · rw [if_pos c41] at H
          have c41b0 : decide (0 ≤ (ji40)) = true := decide_eq_true c41
          clear c41
          by_cases c42 : (ji40) < (y418.length : Int)
          · rw [if_pos c42] at H
            have c42b0 : decide ((ji40) < (y418.length : Int)) = true := decide_eq_true c42
            clear c42
            by_cases c43 : x3_3.size + (rdOf ByteArray.empty y418 (ji40)).size ≤ 9223372036854775807
            · rw [if_pos c43] at H
              have c43b0 := eq_true c43
              have c43b1 : decide (x3_3.size + (rdOf ByteArray.empty y418 (ji40)).size ≤ 9223372036854775807) = true := decide_eq_true c43
              try have c43b2 : (9223372036854775807 < x3_3.size + (rdOf ByteArray.empty y418 (ji40)).size) = False := eq_false (Nat.not_lt.2 c43)
              replace H := Option.bind_eq_some_iff.mp H
              obtain ⟨⟨t422, t425, t428, t431⟩, A440, H⟩ := H
              replace H : ((cruciblelaw0_Num.f t416).bind fun t433 => (if t433 = 0 then ((cruciblelaw0_SameGraph.f kj3 t422 t425 t428 ([] : List (S42)) ([] : List (S44)) ([] : List ByteArray)).bind fun t434 => (if t434 = true then ((cruciblelaw0_Num.f t431).bind fun t435 => (some (t435 == 801))) else (some false))) else (some false))) = some r := H
              have A44 := Aside0.mk A440
              clear A440
              replace H := Option.bind_eq_some_iff.mp H
              obtain ⟨t433, A450, H⟩ := H
              replace H : (if t433 = 0 then ((cruciblelaw0_SameGraph.f kj3 t422 t425 t428 ([] : List (S42)) ([] : List (S44)) ([] : List ByteArray)).bind fun t434 => (if t434 = true then ((cruciblelaw0_Num.f t431).bind fun t435 => (some (t435 == 801))) else (some false))) else (some false)) = some r := H
              have A45 := Aside0.mk A450
              clear A450
              by_cases c46 : t433 = 0
              · rw [if_pos c46] at H
                have c46b0 : (t433 == 0) = true := beq_iff_eq.mpr c46
                have c46b1 : (t433 != 0) = false := bne_eq_false_iff_eq.mpr c46
                clear c46
                replace H := Option.bind_eq_some_iff.mp H
                obtain ⟨t434, A470, H⟩ := H
                replace H : (if t434 = true then ((cruciblelaw0_Num.f t431).bind fun t435 => (some (t435 == 801))) else (some false)) = some r := H
                have A47 := Aside0.mk A470
                clear A470
                by_cases c48 : t434 = true
                · subst c48
                  have H1 : ((cruciblelaw0_Num.f t431).bind fun t435 => (some (t435 == 801))) = some r := by rw [if_pos rfl] at H; exact H
                  clear H
                  have H := H1
                  clear H1
                  replace H := Option.bind_eq_some_iff.mp H
                  obtain ⟨t435, A490, H⟩ := H
                  replace H : (some (t435 == 801)) = some r := H
                  have A49 := Aside0.mk A490
                  clear A490
                  obtain rfl := Option.some.inj H
                  go_wp2_with (first | ((with_reducible refine gate_callee (f := 10) rfl ?_); refine goesL_ (some 85) rfl rfl Tryz.func10 (by kernel_rfl) rfl #[.string x3_3] rfl (by (try simp only [List.map_toArray, List.map_cons, List.map_nil]); first | done | rfl | (simp only [List.length_drop, List.length_take]; rfl)) ?_; (with_reducible refine (manifest_Parse.calls x3_3 t407 t410 t413 t416 _ A39.out).mono ?_); rintro e w50 ⟨v408, v411, v414, rfl, ho0, ho1, ho2, hb⟩; refine ⟨_, rfl, ?_⟩; have n0_ := Aside0.mk (Kd.R_lower ho0 (below_size (by repeat (first | (with_reducible first | exact HB.out | apply below_alloc | apply pw_below_drewN | apply below_drew1) | exact HB.out)))); have n1_ := Aside0.mk (Kd.R_lower ho1 (below_size (by repeat (first | (with_reducible first | exact HB.out | apply below_alloc | apply pw_below_drewN | apply below_drew1) | exact HB.out)))); have n2_ := Aside0.mk (Kd.R_lower ho2 (below_size (by repeat (first | (with_reducible first | exact HB.out | apply below_alloc | apply pw_below_drewN | apply below_drew1) | exact HB.out)))); have n3_ := Aside0.mk (below_step (by repeat (first | (with_reducible first | exact HB.out | apply below_alloc | apply pw_below_drewN | apply below_drew1) | exact HB.out)) hb); clear HB; have HO409 := n0_; have HO412 := n1_; have HO415 := n2_; have HB := n3_; clear n0_ n1_ n2_ n3_; (try clear hb); (try clear hb2); (try clear hk); (try clear hi); (try clear ho0); (try clear ho1); (try clear ho2)) | ((with_reducible refine gate_dst (N := 9) rfl ?_); refine box_event ?hg (N := 9) ?hd (cs := #[.slice none 0 0, .slice none 0 0, .slice none 0 0]) (t := 26) ?hr ?_; (case hd => rfl); (case hg => rfl); (case hr => first | (go_simp; done) | (go_simp; rfl)); intro gb417 hg w51 hbox hb; have n0_ := Aside0.mk (Kd.R_below (by (with_reducible repeat (first | apply Kd.R_alloc | apply Kd.R_drewN | apply Kd.R_drew)); exact HO409.out) hb); have n1_ := Aside0.mk (Kd.R_below (by (with_reducible repeat (first | apply Kd.R_alloc | apply Kd.R_drewN | apply Kd.R_drew)); exact HO412.out) hb); have n2_ := Aside0.mk (Kd.R_below (by (with_reducible repeat (first | apply Kd.R_alloc | apply Kd.R_drewN | apply Kd.R_drew)); exact HO415.out) hb); have n3_ := Aside0.mk (below_step (by repeat (first | (with_reducible first | exact HB.out | apply below_alloc | apply pw_below_drewN | apply below_drew1) | exact HB.out)) hb); have n4_ := Aside0.mk (hbox); have n5_ := Aside0.mk ((by rw [hg]; exact (below_size (by repeat (first | (with_reducible first | exact HB.out | apply below_alloc | apply pw_below_drewN | apply below_drew1) | exact HB.out))) : w.heap.size ≤ gb417)); have n6_ := Aside0.mk ((by rw [hg]; exact (below_size (by repeat (first | (with_reducible first | exact HB.out | apply below_alloc | apply pw_below_drewN | apply below_drew1) | exact HB.out))) : w.heap.size ≤ gb417)); clear HO409; clear HO412; clear HO415; clear HB; have HO409 := n0_; have HO412 := n1_; have HO415 := n2_; have HB := n3_; have BK417 := n4_; have GW417 := n5_; have GE417 := n6_; clear n0_ n1_ n2_ n3_ n4_ n5_ n6_; clear hb hbox hg; obtain ⟨Ao52, co52, eo52⟩ := Kd.R_slice HO409.out; subst eo52; have hcz53_0 : w51.cell? ⟨gb417, 0, none⟩ = some (.slice none 0 0) := (blk_cell BK417.out 0).trans rfl; have hcz53_1 : w51.cell? ⟨gb417, 1, none⟩ = some (.slice none 0 0) := (blk_cell BK417.out 1).trans rfl; have hcz53_2 : w51.cell? ⟨gb417, 2, none⟩ = some (.slice none 0 0) := (blk_cell BK417.out 2).trans rfl; have hfz53_0 := blk_frozen BK417.out 0; have hfz53_1 := blk_frozen BK417.out 1; have hfz53_2 := blk_frozen BK417.out 2; obtain ⟨Ao54, co54, eo54⟩ := Kd.R_slice HO412.out; subst eo54; obtain ⟨Ao55, co55, eo55⟩ := Kd.R_slice HO415.out; subst eo55) | ((with_reducible refine gate_dst (N := 88) rfl ?_); refine Kd.R_lit Kd.string _ 9 ?hg (N := 88) ?hd (xs := ([(⟨#[114, 117, 108, 101, 32, 109, 111, 114, 101, 10, 32, 99, 111, 109, 109, 97, 110, 100, 32, 61, 32, 120, 10]⟩ : ByteArray), (⟨#[112, 111, 111, 108, 32, 109, 111, 114, 101, 10, 32, 100, 101, 112, 116, 104, 32, 61, 32, 49, 10]⟩ : ByteArray), (⟨#[98, 117, 105, 108, 100, 32, 109, 111, 114, 101, 32, 58, 32, 99, 99, 10]⟩ : ByteArray), (⟨#[100, 101, 102, 97, 117, 108, 116, 32, 120, 10]⟩ : ByteArray), (⟨#[109, 111, 114, 101, 32, 61, 32, 49, 10]⟩ : ByteArray)] : List ByteArray)) (inner := [.string (⟨#[114, 117, 108, 101, 32, 109, 111, 114, 101, 10, 32, 99, 111, 109, 109, 97, 110, 100, 32, 61, 32, 120, 10]⟩ : ByteArray), .string (⟨#[112, 111, 111, 108, 32, 109, 111, 114, 101, 10, 32, 100, 101, 112, 116, 104, 32, 61, 32, 49, 10]⟩ : ByteArray), .string (⟨#[98, 117, 105, 108, 100, 32, 109, 111, 114, 101, 32, 58, 32, 99, 99, 10]⟩ : ByteArray), .string (⟨#[100, 101, 102, 97, 117, 108, 116, 32, 120, 10]⟩ : ByteArray), .string (⟨#[109, 111, 114, 101, 32, 61, 32, 49, 10]⟩ : ByteArray)]) (ok := fun _ => True) (okp := fun _ => True) ?hr ?hp (fun _ hk => hk) trivial (Below.refl _ _) (Nat.le_refl _) (by simp) ?_; (case hd => rfl); (case hg => rfl); (case hr => first | (go_simp; done) | (go_simp; rfl)); (case hp => exact (Reps.one (show Kd.M Kd.string _ _ _ (⟨#[114, 117, 108, 101, 32, 109, 111, 114, 101, 10, 32, 99, 111, 109, 109, 97, 110, 100, 32, 61, 32, 120, 10]⟩ : ByteArray) [.string (⟨#[114, 117, 108, 101, 32, 109, 111, 114, 101, 10, 32, 99, 111, 109, 109, 97, 110, 100, 32, 61, 32, 120, 10]⟩ : ByteArray)] from rfl) (Reps.one (show Kd.M Kd.string _ _ _ (⟨#[112, 111, 111, 108, 32, 109, 111, 114, 101, 10, 32, 100, 101, 112, 116, 104, 32, 61, 32, 49, 10]⟩ : ByteArray) [.string (⟨#[112, 111, 111, 108, 32, 109, 111, 114, 101, 10, 32, 100, 101, 112, 116, 104, 32, 61, 32, 49, 10]⟩ : ByteArray)] from rfl) (Reps.one (show Kd.M Kd.string _ _ _ (⟨#[98, 117, 105, 108, 100, 32, 109, 111, 114, 101, 32, 58, 32, 99, 99, 10]⟩ : ByteArray) [.string (⟨#[98, 117, 105, 108, 100, 32, 109, 111, 114, 101, 32, 58, 32, 99, 99, 10]⟩ : ByteArray)] from rfl) (Reps.one (show Kd.M Kd.string _ _ _ (⟨#[100, 101, 102, 97, 117, 108, 116, 32, 120, 10]⟩ : ByteArray) [.string (⟨#[100, 101, 102, 97, 117, 108, 116, 32, 120, 10]⟩ : ByteArray)] from rfl) (Reps.one (show Kd.M Kd.string _ _ _ (⟨#[109, 111, 114, 101, 32, 61, 32, 49, 10]⟩ : ByteArray) [.string (⟨#[109, 111, 114, 101, 32, 61, 32, 49, 10]⟩ : ByteArray)] from rfl) (Reps.none _ _))))))); intro v419 w56 ho57 hb hg_ hnew_; clear hg_ hnew_; (first | rw [← Ny418.out] at ho57 | (simp only [Int.reduceToNat] at ho57; rw [← Ny418.out] at ho57)); have n0_ := Aside0.mk (Kd.R_elder' (by (with_reducible repeat (first | apply Kd.R_alloc | apply Kd.R_drewN | apply Kd.R_drew)); exact (Kd.R_mono (Kd.R_far (p := ⟨gb417, 2, none⟩) (Kd.R_far (p := ⟨gb417, 1, none⟩) (Kd.R_far (p := ⟨gb417, 0, none⟩) (Kd.R_types HO409.out BK417.out (by decide)) (fun _ hk => hk.2) (.slice Ao52 t407.length co52)) (fun _ hk => hk.2) (.slice Ao54 t410.length co54)) (fun _ hk => hk.2) (.slice Ao55 t413.length co55)) (fun _ h_ => h_.1))) (Kd.R_base ho57) hb); have n1_ := Aside0.mk (Kd.R_below (by (with_reducible repeat (first | apply Kd.R_alloc | apply Kd.R_drewN | apply Kd.R_drew)); exact (Kd.R_mono (Kd.R_far (p := ⟨gb417, 2, none⟩) (Kd.R_far (p := ⟨gb417, 1, none⟩) (Kd.R_far (p := ⟨gb417, 0, none⟩) (Kd.R_types HO412.out BK417.out (by decide)) (fun _ hk => hk.2) (.slice Ao52 t407.length co52)) (fun _ hk => hk.2) (.slice Ao54 t410.length co54)) (fun _ hk => hk.2) (.slice Ao55 t413.length co55)) (fun _ h_ => h_.1))) hb); have n2_ := Aside0.mk (Kd.R_elder' (by (with_reducible repeat (first | apply Kd.R_alloc | apply Kd.R_drewN | apply Kd.R_drew)); exact (Kd.R_mono (Kd.R_far (p := ⟨gb417, 2, none⟩) (Kd.R_far (p := ⟨gb417, 1, none⟩) (Kd.R_far (p := ⟨gb417, 0, none⟩) (Kd.R_types HO415.out BK417.out (by decide)) (fun _ hk => hk.2) (.slice Ao52 t407.length co52)) (fun _ hk => hk.2) (.slice Ao54 t410.length co54)) (fun _ hk => hk.2) (.slice Ao55 t413.length co55)) (fun _ h_ => h_.1))) (Kd.R_base ho57) hb); have n3_ := Aside0.mk (Kd.R_lower (Kd.R_new' ho57 (Kd.R_lt (by (with_reducible repeat (first | apply Kd.R_alloc | apply Kd.R_drewN | apply Kd.R_drew)); exact (Kd.R_mono (Kd.R_far (p := ⟨gb417, 2, none⟩) (Kd.R_far (p := ⟨gb417, 1, none⟩) (Kd.R_far (p := ⟨gb417, 0, none⟩) (Kd.R_types HO415.out BK417.out (by decide)) (fun _ hk => hk.2) (.slice Ao52 t407.length co52)) (fun _ hk => hk.2) (.slice Ao54 t410.length co54)) (fun _ hk => hk.2) (.slice Ao55 t413.length co55)) (fun _ h_ => h_.1))))) (below_size (by repeat (first | (with_reducible first | exact HB.out | apply below_alloc | apply pw_below_drewN | apply below_drew1 | refine below_set ?_ GE417.out) | exact HB.out)))); have n4_ := Aside0.mk (blk_below (g := gb417) (o := .cells #[.slice Ao52 t407.length co52, .slice Ao54 t410.length co54, .slice Ao55 t413.length co55] 26 (0, 0)) (by (with_reducible repeat (first | refine blk_drewN ?_ _ | refine blk_drew ?_ | refine blk_alloc ?_ _)); refine blk_put (cs := #[.slice Ao52 t407.length co52, .slice Ao54 t410.length co54, .slice none 0 0]) ?_ 2 _ rfl; (with_reducible repeat (first | refine blk_drewN ?_ _ | refine blk_drew ?_ | refine blk_alloc ?_ _)); refine blk_put (cs := #[.slice Ao52 t407.length co52, .slice none 0 0, .slice none 0 0]) ?_ 1 _ rfl; (with_reducible repeat (first | refine blk_drewN ?_ _ | refine blk_drew ?_ | refine blk_alloc ?_ _)); refine blk_put (cs := #[.slice none 0 0, .slice none 0 0, .slice none 0 0]) ?_ 0 _ rfl; (with_reducible repeat (first | refine blk_drewN ?_ _ | refine blk_drew ?_ | refine blk_alloc ?_ _)); exact BK417.out) hb); have n5_ := Aside0.mk (below_step (by repeat (first | (with_reducible first | exact HB.out | apply below_alloc | apply pw_below_drewN | apply below_drew1 | refine below_set ?_ GE417.out) | exact HB.out)) hb); clear HO409; clear HO412; clear HO415; clear BK417; clear HB; have HO409 := n0_; have HO412 := n1_; have HO415 := n2_; have HO420 := n3_; have BK417 := n4_; have HB := n5_; clear n0_ n1_ n2_ n3_ n4_ n5_; clear hb ho57; obtain ⟨Ao58, co58, eo58⟩ := Kd.R_slice HO420.out; subst eo58; have p421 : 0 ≤ ((ji40) : Int) := of_decide_eq_true (by first | (with_reducible assumption) | assumption); have q421 : (ji40) < (y418.length : Int) := of_decide_eq_true (by first | (with_reducible assumption) | assumption); obtain ⟨ad421, e421, hx421_0⟩ := Kd.at_string (Kd.R_reads' HO420.out).2.2 (ji40) p421 q421; cases e421; replace p421 := eq_true p421; replace q421 := eq_true q421) | ((with_reducible refine gate_callee (f := 10) rfl ?_); refine goesL_ (some 99) rfl rfl Tryz.func10 (by kernel_rfl) rfl #[.string (x3_3 ++ (rdOf ByteArray.empty y418 (ji40)))] rfl (by (try simp only [List.map_toArray, List.map_cons, List.map_nil]); first | done | (simp only [hji40]; rfl) | rfl | (simp only [List.length_drop, List.length_take]; rfl)) ?_; (with_reducible refine (manifest_Parse.calls (x3_3 ++ (rdOf ByteArray.empty y418 (ji40))) t422 t425 t428 t431 _ A44.out).mono ?_); rintro e w59 ⟨v423, v426, v429, rfl, ho0, ho1, ho2, hb⟩; refine ⟨_, rfl, ?_⟩; have n0_ := Aside0.mk (Kd.R_mono (Kd.R_told (Kd.R_told (Kd.R_old (by (with_reducible repeat (first | apply Kd.R_alloc | apply Kd.R_drewN | apply Kd.R_drew)); exact HO409.out) hb) (Kd.R_base ho0)) (Kd.R_base ho2)) (fun _ h_ => h_.1)); have n1_ := Aside0.mk (Kd.R_elder' (by (with_reducible repeat (first | apply Kd.R_alloc | apply Kd.R_drewN | apply Kd.R_drew)); exact HO412.out) (Kd.R_base ho1) hb); have n2_ := Aside0.mk (Kd.R_elder' (by (with_reducible repeat (first | apply Kd.R_alloc | apply Kd.R_drewN | apply Kd.R_drew)); exact HO415.out) (Kd.R_base ho2) hb); have n3_ := Aside0.mk (Kd.R_elder' (by (with_reducible repeat (first | apply Kd.R_alloc | apply Kd.R_drewN | apply Kd.R_drew)); exact HO420.out) (Kd.R_base ho2) hb); have n4_ := Aside0.mk (Kd.R_lower (Kd.R_new' (Kd.R_new' (Kd.R_new' ho0 (Kd.R_lt (by (with_reducible repeat (first | apply Kd.R_alloc | apply Kd.R_drewN | apply Kd.R_drew)); exact HO409.out))) (Kd.R_lt (by (with_reducible repeat (first | apply Kd.R_alloc | apply Kd.R_drewN | apply Kd.R_drew)); exact HO415.out))) (Kd.R_lt (by (with_reducible repeat (first | apply Kd.R_alloc | apply Kd.R_drewN | apply Kd.R_drew)); exact HO420.out))) (below_size (by repeat (first | (with_reducible first | exact HB.out | apply below_alloc | apply pw_below_drewN | apply below_drew1 | refine below_set ?_ GE417.out) | exact HB.out)))); have n5_ := Aside0.mk (Kd.R_lower (Kd.R_new' ho1 (Kd.R_lt (by (with_reducible repeat (first | apply Kd.R_alloc | apply Kd.R_drewN | apply Kd.R_drew)); exact HO412.out))) (below_size (by repeat (first | (with_reducible first | exact HB.out | apply below_alloc | apply pw_below_drewN | apply below_drew1 | refine below_set ?_ GE417.out) | exact HB.out)))); have n6_ := Aside0.mk (Kd.R_lower (Kd.R_new' (Kd.R_new' ho2 (Kd.R_lt (by (with_reducible repeat (first | apply Kd.R_alloc | apply Kd.R_drewN | apply Kd.R_drew)); exact HO415.out))) (Kd.R_lt (by (with_reducible repeat (first | apply Kd.R_alloc | apply Kd.R_drewN | apply Kd.R_drew)); exact HO420.out))) (below_size (by repeat (first | (with_reducible first | exact HB.out | apply below_alloc | apply pw_below_drewN | apply below_drew1 | refine below_set ?_ GE417.out) | exact HB.out)))); have n7_ := Aside0.mk (blk_below (g := gb417) (o := .cells #[.slice Ao52 t407.length co52, .slice Ao54 t410.length co54, .slice Ao55 t413.length co55] 26 (0, 0)) (by (with_reducible repeat (first | refine blk_drewN ?_ _ | refine blk_drew ?_ | refine blk_alloc ?_ _)); exact BK417.out) hb); have n8_ := Aside0.mk (below_step (by repeat (first | (with_reducible first | exact HB.out | apply below_alloc | apply pw_below_drewN | apply below_drew1 | refine below_set ?_ GE417.out) | exact HB.out)) hb); clear HO409; clear HO412; clear HO415; clear HO420; clear BK417; clear HB; have HO409 := n0_; have HO412 := n1_; have HO415 := n2_; have HO420 := n3_; have HO424 := n4_; have HO427 := n5_; have HO430 := n6_; have BK417 := n7_; have HB := n8_; clear n0_ n1_ n2_ n3_ n4_ n5_ n6_ n7_ n8_; (try clear hb); (try clear hb2); (try clear hk); (try clear hi); (try clear ho0); (try clear ho1); (try clear ho2)) | ((with_reducible refine gate_dst (N := 12) rfl ?_); refine box_event ?hg (N := 12) ?hd (cs := #[.slice none 0 0, .slice none 0 0, .slice none 0 0]) (t := 26) ?hr ?_; (case hd => rfl); (case hg => rfl); (case hr => first | (go_simp; done) | (go_simp; rfl)); intro gb432 hg w60 hbox hb; have n0_ := Aside0.mk (Kd.R_below (by (with_reducible repeat (first | apply Kd.R_alloc | apply Kd.R_drewN | apply Kd.R_drew)); exact HO409.out) hb); have n1_ := Aside0.mk (Kd.R_below (by (with_reducible repeat (first | apply Kd.R_alloc | apply Kd.R_drewN | apply Kd.R_drew)); exact HO412.out) hb); have n2_ := Aside0.mk (Kd.R_below (by (with_reducible repeat (first | apply Kd.R_alloc | apply Kd.R_drewN | apply Kd.R_drew)); exact HO415.out) hb); have n3_ := Aside0.mk (Kd.R_below (by (with_reducible repeat (first | apply Kd.R_alloc | apply Kd.R_drewN | apply Kd.R_drew)); exact HO420.out) hb); have n4_ := Aside0.mk (Kd.R_below (by (with_reducible repeat (first | apply Kd.R_alloc | apply Kd.R_drewN | apply Kd.R_drew)); exact HO424.out) hb); have n5_ := Aside0.mk (Kd.R_below (by (with_reducible repeat (first | apply Kd.R_alloc | apply Kd.R_drewN | apply Kd.R_drew)); exact HO427.out) hb); have n6_ := Aside0.mk (Kd.R_below (by (with_reducible repeat (first | apply Kd.R_alloc | apply Kd.R_drewN | apply Kd.R_drew)); exact HO430.out) hb); have n7_ := Aside0.mk (blk_below (g := gb417) (o := .cells #[.slice Ao52 t407.length co52, .slice Ao54 t410.length co54, .slice Ao55 t413.length co55] 26 (0, 0)) (by (with_reducible repeat (first | refine blk_drewN ?_ _ | refine blk_drew ?_ | refine blk_alloc ?_ _)); exact BK417.out) hb); have n8_ := Aside0.mk (below_step (by repeat (first | (with_reducible first | exact HB.out | apply below_alloc | apply pw_below_drewN | apply below_drew1 | refine below_set ?_ GE417.out) | exact HB.out)) hb); have n9_ := Aside0.mk (hbox); have n10_ := Aside0.mk ((by rw [hg]; exact (below_size (by repeat (first | (with_reducible first | exact HB.out | apply below_alloc | apply pw_below_drewN | apply below_drew1 | refine below_set ?_ GE417.out) | exact HB.out))) : w.heap.size ≤ gb432)); have n11_ := Aside0.mk ((by rw [hg]; exact (below_size (by repeat (first | (with_reducible first | exact HB.out | apply below_alloc | apply pw_below_drewN | apply below_drew1 | refine below_set ?_ GE417.out) | exact HB.out))) : w.heap.size ≤ gb432)); have n12_ := Aside0.mk ((by rw [hg]; exact Nat.ne_of_lt (blk_lt (g := gb417) (o := .cells #[.slice Ao52 t407.length co52, .slice Ao54 t410.length co54, .slice Ao55 t413.length co55] 26 (0, 0)) (by (with_reducible repeat (first | refine blk_drewN ?_ _ | refine blk_drew ?_ | refine blk_alloc ?_ _)); exact BK417.out)) : gb417 ≠ gb432)); have n13_ := Aside0.mk ((by rw [hg]; exact Nat.ne_of_gt (blk_lt (g := gb417) (o := .cells #[.slice Ao52 t407.length co52, .slice Ao54 t410.length co54, .slice Ao55 t413.length co55] 26 (0, 0)) (by (with_reducible repeat (first | refine blk_drewN ?_ _ | refine blk_drew ?_ | refine blk_alloc ?_ _)); exact BK417.out)) : gb432 ≠ gb417)); clear HO409; clear HO412; clear HO415; clear HO420; clear HO424; clear HO427; clear HO430; clear BK417; clear HB; have HO409 := n0_; have HO412 := n1_; have HO415 := n2_; have HO420 := n3_; have HO424 := n4_; have HO427 := n5_; have HO430 := n6_; have BK417 := n7_; have HB := n8_; have BK432 := n9_; have GW432 := n10_; have GE432 := n11_; have NB417_432 := n12_; have NB432_417 := n13_; clear n0_ n1_ n2_ n3_ n4_ n5_ n6_ n7_ n8_ n9_ n10_ n11_ n12_ n13_; clear hb hbox hg; obtain ⟨Ao61, co61, eo61⟩ := Kd.R_slice HO424.out; subst eo61; have hnb62 := NB432_417.out; have hnc62 := NB417_432.out; have hcz63_0 : w60.cell? ⟨gb432, 0, none⟩ = some (.slice none 0 0) := (blk_cell BK432.out 0).trans rfl; have hcz63_1 : w60.cell? ⟨gb432, 1, none⟩ = some (.slice none 0 0) := (blk_cell BK432.out 1).trans rfl; have hcz63_2 : w60.cell? ⟨gb432, 2, none⟩ = some (.slice none 0 0) := (blk_cell BK432.out 2).trans rfl; have hfz63_0 := blk_frozen BK432.out 0; have hfz63_1 := blk_frozen BK432.out 1; have hfz63_2 := blk_frozen BK432.out 2; obtain ⟨Ao64, co64, eo64⟩ := Kd.R_slice HO427.out; subst eo64; obtain ⟨Ao65, co65, eo65⟩ := Kd.R_slice HO430.out; subst eo65) | ((with_reducible refine gate_callee (f := 13) rfl ?_); refine goesL_ (some 103) rfl rfl Tryz.func13 (by kernel_rfl) rfl #[.int .i64 t416] rfl (by (try simp only [List.map_toArray, List.map_cons, List.map_nil]); first | done | rfl | (simp only [List.length_drop, List.length_take]; rfl)) ?_; (with_reducible refine (cruciblelaw0_Num.calls t416 t433 _ A45.out).mono ?_); rintro e w' ⟨rfl, ⟨nd, rfl⟩⟩; refine ⟨_, rfl, ?_⟩) | (go_at_call 12; (refine (cruciblelaw0_SameGraph.calls kj3 _ _ t422 _ _ t425 _ _ t428 _ _ ([] : List (S42)) _ _ ([] : List (S44)) _ _ ([] : List ByteArray) true _ ?side1 ?side2 ?side3 ?side4 ?side5 ?side6 ?side7 ?side8 ?side9 ?side10 ?side11 ?side12 A47.out).mono ?_); (case side1 => refine (Kd.R_reads' (e := 42) (base := w.heap.size) (ok := fun k_ => (((some k_ ≠ (.slice Ao65 t428.length co65 : Value).ownBlock ∧ some k_ ≠ (.slice Ao52 t407.length co52 : Value).ownBlock) ∧ some k_ ≠ (.slice Ao55 t413.length co55 : Value).ownBlock) ∧ some k_ ≠ (.slice (some ad421) y418.length co58 : Value).ownBlock)) (n := t422.length) (c := co61) ?_).2.2; exact (by (with_reducible repeat (first | apply Kd.R_alloc | apply Kd.R_drewN | apply Kd.R_drew)); exact (Kd.R_mono (Kd.R_far (p := ⟨gb432, 2, none⟩) (Kd.R_far (p := ⟨gb432, 1, none⟩) (Kd.R_far (p := ⟨gb432, 0, none⟩) (Kd.R_types HO424.out BK432.out (by decide)) (fun _ hk => hk.2) (.slice Ao61 t422.length co61)) (fun _ hk => hk.2) (.slice Ao64 t425.length co64)) (fun _ hk => hk.2) (.slice Ao65 t428.length co65)) (fun _ h_ => h_.1)))); (case side2 => exact (Kd.R_reads' HO424.out).2.1); (case side3 => refine (Kd.R_reads' (e := 44) (base := w.heap.size) (ok := fun k_ => (True ∧ some k_ ≠ (.slice Ao54 t410.length co54 : Value).ownBlock)) (n := t425.length) (c := co64) ?_).2.2; exact (by (with_reducible repeat (first | apply Kd.R_alloc | apply Kd.R_drewN | apply Kd.R_drew)); exact (Kd.R_mono (Kd.R_far (p := ⟨gb432, 2, none⟩) (Kd.R_far (p := ⟨gb432, 1, none⟩) (Kd.R_far (p := ⟨gb432, 0, none⟩) (Kd.R_types HO427.out BK432.out (by decide)) (fun _ hk => hk.2) (.slice Ao61 t422.length co61)) (fun _ hk => hk.2) (.slice Ao64 t425.length co64)) (fun _ hk => hk.2) (.slice Ao65 t428.length co65)) (fun _ h_ => h_.1)))); (case side4 => exact (Kd.R_reads' HO427.out).2.1); (case side5 => refine (Kd.R_reads' (e := 9) (base := w.heap.size) (ok := fun k_ => ((True ∧ some k_ ≠ (.slice Ao55 t413.length co55 : Value).ownBlock) ∧ some k_ ≠ (.slice (some ad421) y418.length co58 : Value).ownBlock)) (n := t428.length) (c := co65) ?_).2.2; exact (by (with_reducible repeat (first | apply Kd.R_alloc | apply Kd.R_drewN | apply Kd.R_drew)); exact (Kd.R_mono (Kd.R_far (p := ⟨gb432, 2, none⟩) (Kd.R_far (p := ⟨gb432, 1, none⟩) (Kd.R_far (p := ⟨gb432, 0, none⟩) (Kd.R_types HO430.out BK432.out (by decide)) (fun _ hk => hk.2) (.slice Ao61 t422.length co61)) (fun _ hk => hk.2) (.slice Ao64 t425.length co64)) (fun _ hk => hk.2) (.slice Ao65 t428.length co65)) (fun _ h_ => h_.1)))); (case side6 => exact (Kd.R_reads' HO430.out).2.1); (case side7 => exact Kd.C_nil _ _); (case side8 => exact Nat.le_refl _); (case side9 => exact Kd.C_nil _ _); (case side10 => exact Nat.le_refl _); (case side11 => exact Kd.C_nil _ _); (case side12 => exact Nat.le_refl _); rintro e w66 ⟨rfl, hb⟩; have n0_ := Aside0.mk (Kd.R_below (by (with_reducible repeat (first | apply Kd.R_alloc | apply Kd.R_drewN | apply Kd.R_drew)); exact (Kd.R_mono (Kd.R_far (p := ⟨gb432, 2, none⟩) (Kd.R_far (p := ⟨gb432, 1, none⟩) (Kd.R_far (p := ⟨gb432, 0, none⟩) (Kd.R_types HO409.out BK432.out (by decide)) (fun _ hk => hk.2) (.slice Ao61 t422.length co61)) (fun _ hk => hk.2) (.slice Ao64 t425.length co64)) (fun _ hk => hk.2) (.slice Ao65 t428.length co65)) (fun _ h_ => h_.1))) hb); have n1_ := Aside0.mk (Kd.R_below (by (with_reducible repeat (first | apply Kd.R_alloc | apply Kd.R_drewN | apply Kd.R_drew)); exact (Kd.R_mono (Kd.R_far (p := ⟨gb432, 2, none⟩) (Kd.R_far (p := ⟨gb432, 1, none⟩) (Kd.R_far (p := ⟨gb432, 0, none⟩) (Kd.R_types HO412.out BK432.out (by decide)) (fun _ hk => hk.2) (.slice Ao61 t422.length co61)) (fun _ hk => hk.2) (.slice Ao64 t425.length co64)) (fun _ hk => hk.2) (.slice Ao65 t428.length co65)) (fun _ h_ => h_.1))) hb); have n2_ := Aside0.mk (Kd.R_below (by (with_reducible repeat (first | apply Kd.R_alloc | apply Kd.R_drewN | apply Kd.R_drew)); exact (Kd.R_mono (Kd.R_far (p := ⟨gb432, 2, none⟩) (Kd.R_far (p := ⟨gb432, 1, none⟩) (Kd.R_far (p := ⟨gb432, 0, none⟩) (Kd.R_types HO415.out BK432.out (by decide)) (fun _ hk => hk.2) (.slice Ao61 t422.length co61)) (fun _ hk => hk.2) (.slice Ao64 t425.length co64)) (fun _ hk => hk.2) (.slice Ao65 t428.length co65)) (fun _ h_ => h_.1))) hb); have n3_ := Aside0.mk (Kd.R_below (by (with_reducible repeat (first | apply Kd.R_alloc | apply Kd.R_drewN | apply Kd.R_drew)); exact (Kd.R_mono (Kd.R_far (p := ⟨gb432, 2, none⟩) (Kd.R_far (p := ⟨gb432, 1, none⟩) (Kd.R_far (p := ⟨gb432, 0, none⟩) (Kd.R_types HO420.out BK432.out (by decide)) (fun _ hk => hk.2) (.slice Ao61 t422.length co61)) (fun _ hk => hk.2) (.slice Ao64 t425.length co64)) (fun _ hk => hk.2) (.slice Ao65 t428.length co65)) (fun _ h_ => h_.1))) hb); have n4_ := Aside0.mk (Kd.R_below (by (with_reducible repeat (first | apply Kd.R_alloc | apply Kd.R_drewN | apply Kd.R_drew)); exact (Kd.R_mono (Kd.R_far (p := ⟨gb432, 2, none⟩) (Kd.R_far (p := ⟨gb432, 1, none⟩) (Kd.R_far (p := ⟨gb432, 0, none⟩) (Kd.R_types HO424.out BK432.out (by decide)) (fun _ hk => hk.2) (.slice Ao61 t422.length co61)) (fun _ hk => hk.2) (.slice Ao64 t425.length co64)) (fun _ hk => hk.2) (.slice Ao65 t428.length co65)) (fun _ h_ => h_.1))) hb); have n5_ := Aside0.mk (Kd.R_below (by (with_reducible repeat (first | apply Kd.R_alloc | apply Kd.R_drewN | apply Kd.R_drew)); exact (Kd.R_mono (Kd.R_far (p := ⟨gb432, 2, none⟩) (Kd.R_far (p := ⟨gb432, 1, none⟩) (Kd.R_far (p := ⟨gb432, 0, none⟩) (Kd.R_types HO427.out BK432.out (by decide)) (fun _ hk => hk.2) (.slice Ao61 t422.length co61)) (fun _ hk => hk.2) (.slice Ao64 t425.length co64)) (fun _ hk => hk.2) (.slice Ao65 t428.length co65)) (fun _ h_ => h_.1))) hb); have n6_ := Aside0.mk (Kd.R_below (by (with_reducible repeat (first | apply Kd.R_alloc | apply Kd.R_drewN | apply Kd.R_drew)); exact (Kd.R_mono (Kd.R_far (p := ⟨gb432, 2, none⟩) (Kd.R_far (p := ⟨gb432, 1, none⟩) (Kd.R_far (p := ⟨gb432, 0, none⟩) (Kd.R_types HO430.out BK432.out (by decide)) (fun _ hk => hk.2) (.slice Ao61 t422.length co61)) (fun _ hk => hk.2) (.slice Ao64 t425.length co64)) (fun _ hk => hk.2) (.slice Ao65 t428.length co65)) (fun _ h_ => h_.1))) hb); have n7_ := Aside0.mk (blk_below (g := gb417) (o := .cells #[.slice Ao52 t407.length co52, .slice Ao54 t410.length co54, .slice Ao55 t413.length co55] 26 (0, 0)) (by (with_reducible repeat (first | refine blk_drewN ?_ _ | refine blk_drew ?_ | refine blk_alloc ?_ _)); refine blk_far ?_ NB417_432.out _; (with_reducible repeat (first | refine blk_drewN ?_ _ | refine blk_drew ?_ | refine blk_alloc ?_ _)); refine blk_far ?_ NB417_432.out _; (with_reducible repeat (first | refine blk_drewN ?_ _ | refine blk_drew ?_ | refine blk_alloc ?_ _)); refine blk_far ?_ NB417_432.out _; (with_reducible repeat (first | refine blk_drewN ?_ _ | refine blk_drew ?_ | refine blk_alloc ?_ _)); exact BK417.out) hb); have n8_ := Aside0.mk (blk_below (g := gb432) (o := .cells #[.slice Ao61 t422.length co61, .slice Ao64 t425.length co64, .slice Ao65 t428.length co65] 26 (0, 0)) (by (with_reducible repeat (first | refine blk_drewN ?_ _ | refine blk_drew ?_ | refine blk_alloc ?_ _)); refine blk_put (cs := #[.slice Ao61 t422.length co61, .slice Ao64 t425.length co64, .slice none 0 0]) ?_ 2 _ rfl; (with_reducible repeat (first | refine blk_drewN ?_ _ | refine blk_drew ?_ | refine blk_alloc ?_ _)); refine blk_put (cs := #[.slice Ao61 t422.length co61, .slice none 0 0, .slice none 0 0]) ?_ 1 _ rfl; (with_reducible repeat (first | refine blk_drewN ?_ _ | refine blk_drew ?_ | refine blk_alloc ?_ _)); refine blk_put (cs := #[.slice none 0 0, .slice none 0 0, .slice none 0 0]) ?_ 0 _ rfl; (with_reducible repeat (first | refine blk_drewN ?_ _ | refine blk_drew ?_ | refine blk_alloc ?_ _)); exact BK432.out) hb); have n9_ := Aside0.mk (below_step (by repeat (first | (with_reducible first | exact HB.out | apply below_alloc | apply pw_below_drewN | apply below_drew1 | refine below_set ?_ GE417.out | refine below_set ?_ GE432.out) | exact HB.out)) hb); clear HO409; clear HO412; clear HO415; clear HO420; clear HO424; clear HO427; clear HO430; clear BK417; clear BK432; clear HB; have HO409 := n0_; have HO412 := n1_; have HO415 := n2_; have HO420 := n3_; have HO424 := n4_; have HO427 := n5_; have HO430 := n6_; have BK417 := n7_; have BK432 := n8_; have HB := n9_; clear n0_ n1_ n2_ n3_ n4_ n5_ n6_ n7_ n8_ n9_; (try clear hb); (try clear hb2); (try clear hk); (try clear hi)) | (go_at_call 13; (with_reducible refine (cruciblelaw0_Num.calls t431 t435 _ A49.out).mono ?_); rintro e w' ⟨rfl, ⟨nd, rfl⟩⟩))
                  go_ret
                  exact ⟨by first | rfl | (simp [errW_none, errW_some] <;> rfl) | (simp only [← hji40]; first | rfl | (simp [errW_none, errW_some] <;> rfl)) | (simp [*, errW_none, errW_some] <;> rfl), by repeat (first | (with_reducible first | exact HB.out | apply below_alloc | apply pw_below_drewN | apply below_drew1 | refine below_set ?_ GE417.out | refine below_set ?_ GE432.out) | exact HB.out)⟩
                · replace c48 := Bool.eq_false_iff.mpr c48
                  subst c48
                  have H1 : (some false) = some r := by rw [if_neg (show ¬ (false = true) by decide)] at H; exact H
                  clear H
                  have H := H1
                  clear H1
                  obtain rfl := Option.some.inj H
                  go_wp2_with (first | ((with_reducible refine gate_callee (f := 10) rfl ?_); refine goesL_ (some 85) rfl rfl Tryz.func10 (by kernel_rfl) rfl #[.string x3_3] rfl (by (try simp only [List.map_toArray, List.map_cons, List.map_nil]); first | done | rfl | (simp only [List.length_drop, List.length_take]; rfl)) ?_; (with_reducible refine (manifest_Parse.calls x3_3 t407 t410 t413 t416 _ A39.out).mono ?_); rintro e w67 ⟨v408, v411, v414, rfl, ho0, ho1, ho2, hb⟩; refine ⟨_, rfl, ?_⟩; have n0_ := Aside0.mk (Kd.R_lower ho0 (below_size (by repeat (first | (with_reducible first | exact HB.out | apply below_alloc | apply pw_below_drewN | apply below_drew1) | exact HB.out)))); have n1_ := Aside0.mk (Kd.R_lower ho1 (below_size (by repeat (first | (with_reducible first | exact HB.out | apply below_alloc | apply pw_below_drewN | apply below_drew1) | exact HB.out)))); have n2_ := Aside0.mk (Kd.R_lower ho2 (below_size (by repeat (first | (with_reducible first | exact HB.out | apply below_alloc | apply pw_below_drewN | apply below_drew1) | exact HB.out)))); have n3_ := Aside0.mk (below_step (by repeat (first | (with_reducible first | exact HB.out | apply below_alloc | apply pw_below_drewN | apply below_drew1) | exact HB.out)) hb); clear HB; have HO409 := n0_; have HO412 := n1_; have HO415 := n2_; have HB := n3_; clear n0_ n1_ n2_ n3_; (try clear hb); (try clear hb2); (try clear hk); (try clear hi); (try clear ho0); (try clear ho1); (try clear ho2)) | ((with_reducible refine gate_dst (N := 9) rfl ?_); refine box_event ?hg (N := 9) ?hd (cs := #[.slice none 0 0, .slice none 0 0, .slice none 0 0]) (t := 26) ?hr ?_; (case hd => rfl); (case hg => rfl); (case hr => first | (go_simp; done) | (go_simp; rfl)); intro gb417 hg w68 hbox hb; have n0_ := Aside0.mk (Kd.R_below (by (with_reducible repeat (first | apply Kd.R_alloc | apply Kd.R_drewN | apply Kd.R_drew)); exact HO409.out) hb); have n1_ := Aside0.mk (Kd.R_below (by (with_reducible repeat (first | apply Kd.R_alloc | apply Kd.R_drewN | apply Kd.R_drew)); exact HO412.out) hb); have n2_ := Aside0.mk (Kd.R_below (by (with_reducible repeat (first | apply Kd.R_alloc | apply Kd.R_drewN | apply Kd.R_drew)); exact HO415.out) hb); have n3_ := Aside0.mk (below_step (by repeat (first | (with_reducible first | exact HB.out | apply below_alloc | apply pw_below_drewN | apply below_drew1) | exact HB.out)) hb); have n4_ := Aside0.mk (hbox); have n5_ := Aside0.mk ((by rw [hg]; exact (below_size (by repeat (first | (with_reducible first | exact HB.out | apply below_alloc | apply pw_below_drewN | apply below_drew1) | exact HB.out))) : w.heap.size ≤ gb417)); have n6_ := Aside0.mk ((by rw [hg]; exact (below_size (by repeat (first | (with_reducible first | exact HB.out | apply below_alloc | apply pw_below_drewN | apply below_drew1) | exact HB.out))) : w.heap.size ≤ gb417)); clear HO409; clear HO412; clear HO415; clear HB; have HO409 := n0_; have HO412 := n1_; have HO415 := n2_; have HB := n3_; have BK417 := n4_; have GW417 := n5_; have GE417 := n6_; clear n0_ n1_ n2_ n3_ n4_ n5_ n6_; clear hb hbox hg; obtain ⟨Ao69, co69, eo69⟩ := Kd.R_slice HO409.out; subst eo69; have hcz70_0 : w68.cell? ⟨gb417, 0, none⟩ = some (.slice none 0 0) := (blk_cell BK417.out 0).trans rfl; have hcz70_1 : w68.cell? ⟨gb417, 1, none⟩ = some (.slice none 0 0) := (blk_cell BK417.out 1).trans rfl; have hcz70_2 : w68.cell? ⟨gb417, 2, none⟩ = some (.slice none 0 0) := (blk_cell BK417.out 2).trans rfl; have hfz70_0 := blk_frozen BK417.out 0; have hfz70_1 := blk_frozen BK417.out 1; have hfz70_2 := blk_frozen BK417.out 2; obtain ⟨Ao71, co71, eo71⟩ := Kd.R_slice HO412.out; subst eo71; obtain ⟨Ao72, co72, eo72⟩ := Kd.R_slice HO415.out; subst eo72) | ((with_reducible refine gate_dst (N := 88) rfl ?_); refine Kd.R_lit Kd.string _ 9 ?hg (N := 88) ?hd (xs := ([(⟨#[114, 117, 108, 101, 32, 109, 111, 114, 101, 10, 32, 99, 111, 109, 109, 97, 110, 100, 32, 61, 32, 120, 10]⟩ : ByteArray), (⟨#[112, 111, 111, 108, 32, 109, 111, 114, 101, 10, 32, 100, 101, 112, 116, 104, 32, 61, 32, 49, 10]⟩ : ByteArray), (⟨#[98, 117, 105, 108, 100, 32, 109, 111, 114, 101, 32, 58, 32, 99, 99, 10]⟩ : ByteArray), (⟨#[100, 101, 102, 97, 117, 108, 116, 32, 120, 10]⟩ : ByteArray), (⟨#[109, 111, 114, 101, 32, 61, 32, 49, 10]⟩ : ByteArray)] : List ByteArray)) (inner := [.string (⟨#[114, 117, 108, 101, 32, 109, 111, 114, 101, 10, 32, 99, 111, 109, 109, 97, 110, 100, 32, 61, 32, 120, 10]⟩ : ByteArray), .string (⟨#[112, 111, 111, 108, 32, 109, 111, 114, 101, 10, 32, 100, 101, 112, 116, 104, 32, 61, 32, 49, 10]⟩ : ByteArray), .string (⟨#[98, 117, 105, 108, 100, 32, 109, 111, 114, 101, 32, 58, 32, 99, 99, 10]⟩ : ByteArray), .string (⟨#[100, 101, 102, 97, 117, 108, 116, 32, 120, 10]⟩ : ByteArray), .string (⟨#[109, 111, 114, 101, 32, 61, 32, 49, 10]⟩ : ByteArray)]) (ok := fun _ => True) (okp := fun _ => True) ?hr ?hp (fun _ hk => hk) trivial (Below.refl _ _) (Nat.le_refl _) (by simp) ?_; (case hd => rfl); (case hg => rfl); (case hr => first | (go_simp; done) | (go_simp; rfl)); (case hp => exact (Reps.one (show Kd.M Kd.string _ _ _ (⟨#[114, 117, 108, 101, 32, 109, 111, 114, 101, 10, 32, 99, 111, 109, 109, 97, 110, 100, 32, 61, 32, 120, 10]⟩ : ByteArray) [.string (⟨#[114, 117, 108, 101, 32, 109, 111, 114, 101, 10, 32, 99, 111, 109, 109, 97, 110, 100, 32, 61, 32, 120, 10]⟩ : ByteArray)] from rfl) (Reps.one (show Kd.M Kd.string _ _ _ (⟨#[112, 111, 111, 108, 32, 109, 111, 114, 101, 10, 32, 100, 101, 112, 116, 104, 32, 61, 32, 49, 10]⟩ : ByteArray) [.string (⟨#[112, 111, 111, 108, 32, 109, 111, 114, 101, 10, 32, 100, 101, 112, 116, 104, 32, 61, 32, 49, 10]⟩ : ByteArray)] from rfl) (Reps.one (show Kd.M Kd.string _ _ _ (⟨#[98, 117, 105, 108, 100, 32, 109, 111, 114, 101, 32, 58, 32, 99, 99, 10]⟩ : ByteArray) [.string (⟨#[98, 117, 105, 108, 100, 32, 109, 111, 114, 101, 32, 58, 32, 99, 99, 10]⟩ : ByteArray)] from rfl) (Reps.one (show Kd.M Kd.string _ _ _ (⟨#[100, 101, 102, 97, 117, 108, 116, 32, 120, 10]⟩ : ByteArray) [.string (⟨#[100, 101, 102, 97, 117, 108, 116, 32, 120, 10]⟩ : ByteArray)] from rfl) (Reps.one (show Kd.M Kd.string _ _ _ (⟨#[109, 111, 114, 101, 32, 61, 32, 49, 10]⟩ : ByteArray) [.string (⟨#[109, 111, 114, 101, 32, 61, 32, 49, 10]⟩ : ByteArray)] from rfl) (Reps.none _ _))))))); intro v419 w73 ho74 hb hg_ hnew_; clear hg_ hnew_; (first | rw [← Ny418.out] at ho74 | (simp only [Int.reduceToNat] at ho74; rw [← Ny418.out] at ho74)); have n0_ := Aside0.mk (Kd.R_elder' (by (with_reducible repeat (first | apply Kd.R_alloc | apply Kd.R_drewN | apply Kd.R_drew)); exact (Kd.R_mono (Kd.R_far (p := ⟨gb417, 2, none⟩) (Kd.R_far (p := ⟨gb417, 1, none⟩) (Kd.R_far (p := ⟨gb417, 0, none⟩) (Kd.R_types HO409.out BK417.out (by decide)) (fun _ hk => hk.2) (.slice Ao69 t407.length co69)) (fun _ hk => hk.2) (.slice Ao71 t410.length co71)) (fun _ hk => hk.2) (.slice Ao72 t413.length co72)) (fun _ h_ => h_.1))) (Kd.R_base ho74) hb); have n1_ := Aside0.mk (Kd.R_below (by (with_reducible repeat (first | apply Kd.R_alloc | apply Kd.R_drewN | apply Kd.R_drew)); exact (Kd.R_mono (Kd.R_far (p := ⟨gb417, 2, none⟩) (Kd.R_far (p := ⟨gb417, 1, none⟩) (Kd.R_far (p := ⟨gb417, 0, none⟩) (Kd.R_types HO412.out BK417.out (by decide)) (fun _ hk => hk.2) (.slice Ao69 t407.length co69)) (fun _ hk => hk.2) (.slice Ao71 t410.length co71)) (fun _ hk => hk.2) (.slice Ao72 t413.length co72)) (fun _ h_ => h_.1))) hb); have n2_ := Aside0.mk (Kd.R_elder' (by (with_reducible repeat (first | apply Kd.R_alloc | apply Kd.R_drewN | apply Kd.R_drew)); exact (Kd.R_mono (Kd.R_far (p := ⟨gb417, 2, none⟩) (Kd.R_far (p := ⟨gb417, 1, none⟩) (Kd.R_far (p := ⟨gb417, 0, none⟩) (Kd.R_types HO415.out BK417.out (by decide)) (fun _ hk => hk.2) (.slice Ao69 t407.length co69)) (fun _ hk => hk.2) (.slice Ao71 t410.length co71)) (fun _ hk => hk.2) (.slice Ao72 t413.length co72)) (fun _ h_ => h_.1))) (Kd.R_base ho74) hb); have n3_ := Aside0.mk (Kd.R_lower (Kd.R_new' ho74 (Kd.R_lt (by (with_reducible repeat (first | apply Kd.R_alloc | apply Kd.R_drewN | apply Kd.R_drew)); exact (Kd.R_mono (Kd.R_far (p := ⟨gb417, 2, none⟩) (Kd.R_far (p := ⟨gb417, 1, none⟩) (Kd.R_far (p := ⟨gb417, 0, none⟩) (Kd.R_types HO415.out BK417.out (by decide)) (fun _ hk => hk.2) (.slice Ao69 t407.length co69)) (fun _ hk => hk.2) (.slice Ao71 t410.length co71)) (fun _ hk => hk.2) (.slice Ao72 t413.length co72)) (fun _ h_ => h_.1))))) (below_size (by repeat (first | (with_reducible first | exact HB.out | apply below_alloc | apply pw_below_drewN | apply below_drew1 | refine below_set ?_ GE417.out) | exact HB.out)))); have n4_ := Aside0.mk (blk_below (g := gb417) (o := .cells #[.slice Ao69 t407.length co69, .slice Ao71 t410.length co71, .slice Ao72 t413.length co72] 26 (0, 0)) (by (with_reducible repeat (first | refine blk_drewN ?_ _ | refine blk_drew ?_ | refine blk_alloc ?_ _)); refine blk_put (cs := #[.slice Ao69 t407.length co69, .slice Ao71 t410.length co71, .slice none 0 0]) ?_ 2 _ rfl; (with_reducible repeat (first | refine blk_drewN ?_ _ | refine blk_drew ?_ | refine blk_alloc ?_ _)); refine blk_put (cs := #[.slice Ao69 t407.length co69, .slice none 0 0, .slice none 0 0]) ?_ 1 _ rfl; (with_reducible repeat (first | refine blk_drewN ?_ _ | refine blk_drew ?_ | refine blk_alloc ?_ _)); refine blk_put (cs := #[.slice none 0 0, .slice none 0 0, .slice none 0 0]) ?_ 0 _ rfl; (with_reducible repeat (first | refine blk_drewN ?_ _ | refine blk_drew ?_ | refine blk_alloc ?_ _)); exact BK417.out) hb); have n5_ := Aside0.mk (below_step (by repeat (first | (with_reducible first | exact HB.out | apply below_alloc | apply pw_below_drewN | apply below_drew1 | refine below_set ?_ GE417.out) | exact HB.out)) hb); clear HO409; clear HO412; clear HO415; clear BK417; clear HB; have HO409 := n0_; have HO412 := n1_; have HO415 := n2_; have HO420 := n3_; have BK417 := n4_; have HB := n5_; clear n0_ n1_ n2_ n3_ n4_ n5_; clear hb ho74; obtain ⟨Ao75, co75, eo75⟩ := Kd.R_slice HO420.out; subst eo75; have p421 : 0 ≤ ((ji40) : Int) := of_decide_eq_true (by first | (with_reducible assumption) | assumption); have q421 : (ji40) < (y418.length : Int) := of_decide_eq_true (by first | (with_reducible assumption) | assumption); obtain ⟨ad421, e421, hx421_0⟩ := Kd.at_string (Kd.R_reads' HO420.out).2.2 (ji40) p421 q421; cases e421; replace p421 := eq_true p421; replace q421 := eq_true q421) | ((with_reducible refine gate_callee (f := 10) rfl ?_); refine goesL_ (some 99) rfl rfl Tryz.func10 (by kernel_rfl) rfl #[.string (x3_3 ++ (rdOf ByteArray.empty y418 (ji40)))] rfl (by (try simp only [List.map_toArray, List.map_cons, List.map_nil]); first | done | (simp only [hji40]; rfl) | rfl | (simp only [List.length_drop, List.length_take]; rfl)) ?_; (with_reducible refine (manifest_Parse.calls (x3_3 ++ (rdOf ByteArray.empty y418 (ji40))) t422 t425 t428 t431 _ A44.out).mono ?_); rintro e w76 ⟨v423, v426, v429, rfl, ho0, ho1, ho2, hb⟩; refine ⟨_, rfl, ?_⟩; have n0_ := Aside0.mk (Kd.R_mono (Kd.R_told (Kd.R_told (Kd.R_old (by (with_reducible repeat (first | apply Kd.R_alloc | apply Kd.R_drewN | apply Kd.R_drew)); exact HO409.out) hb) (Kd.R_base ho0)) (Kd.R_base ho2)) (fun _ h_ => h_.1)); have n1_ := Aside0.mk (Kd.R_elder' (by (with_reducible repeat (first | apply Kd.R_alloc | apply Kd.R_drewN | apply Kd.R_drew)); exact HO412.out) (Kd.R_base ho1) hb); have n2_ := Aside0.mk (Kd.R_elder' (by (with_reducible repeat (first | apply Kd.R_alloc | apply Kd.R_drewN | apply Kd.R_drew)); exact HO415.out) (Kd.R_base ho2) hb); have n3_ := Aside0.mk (Kd.R_elder' (by (with_reducible repeat (first | apply Kd.R_alloc | apply Kd.R_drewN | apply Kd.R_drew)); exact HO420.out) (Kd.R_base ho2) hb); have n4_ := Aside0.mk (Kd.R_lower (Kd.R_new' (Kd.R_new' (Kd.R_new' ho0 (Kd.R_lt (by (with_reducible repeat (first | apply Kd.R_alloc | apply Kd.R_drewN | apply Kd.R_drew)); exact HO409.out))) (Kd.R_lt (by (with_reducible repeat (first | apply Kd.R_alloc | apply Kd.R_drewN | apply Kd.R_drew)); exact HO415.out))) (Kd.R_lt (by (with_reducible repeat (first | apply Kd.R_alloc | apply Kd.R_drewN | apply Kd.R_drew)); exact HO420.out))) (below_size (by repeat (first | (with_reducible first | exact HB.out | apply below_alloc | apply pw_below_drewN | apply below_drew1 | refine below_set ?_ GE417.out) | exact HB.out)))); have n5_ := Aside0.mk (Kd.R_lower (Kd.R_new' ho1 (Kd.R_lt (by (with_reducible repeat (first | apply Kd.R_alloc | apply Kd.R_drewN | apply Kd.R_drew)); exact HO412.out))) (below_size (by repeat (first | (with_reducible first | exact HB.out | apply below_alloc | apply pw_below_drewN | apply below_drew1 | refine below_set ?_ GE417.out) | exact HB.out)))); have n6_ := Aside0.mk (Kd.R_lower (Kd.R_new' (Kd.R_new' ho2 (Kd.R_lt (by (with_reducible repeat (first | apply Kd.R_alloc | apply Kd.R_drewN | apply Kd.R_drew)); exact HO415.out))) (Kd.R_lt (by (with_reducible repeat (first | apply Kd.R_alloc | apply Kd.R_drewN | apply Kd.R_drew)); exact HO420.out))) (below_size (by repeat (first | (with_reducible first | exact HB.out | apply below_alloc | apply pw_below_drewN | apply below_drew1 | refine below_set ?_ GE417.out) | exact HB.out)))); have n7_ := Aside0.mk (blk_below (g := gb417) (o := .cells #[.slice Ao69 t407.length co69, .slice Ao71 t410.length co71, .slice Ao72 t413.length co72] 26 (0, 0)) (by (with_reducible repeat (first | refine blk_drewN ?_ _ | refine blk_drew ?_ | refine blk_alloc ?_ _)); exact BK417.out) hb); have n8_ := Aside0.mk (below_step (by repeat (first | (with_reducible first | exact HB.out | apply below_alloc | apply pw_below_drewN | apply below_drew1 | refine below_set ?_ GE417.out) | exact HB.out)) hb); clear HO409; clear HO412; clear HO415; clear HO420; clear BK417; clear HB; have HO409 := n0_; have HO412 := n1_; have HO415 := n2_; have HO420 := n3_; have HO424 := n4_; have HO427 := n5_; have HO430 := n6_; have BK417 := n7_; have HB := n8_; clear n0_ n1_ n2_ n3_ n4_ n5_ n6_ n7_ n8_; (try clear hb); (try clear hb2); (try clear hk); (try clear hi); (try clear ho0); (try clear ho1); (try clear ho2)) | ((with_reducible refine gate_dst (N := 12) rfl ?_); refine box_event ?hg (N := 12) ?hd (cs := #[.slice none 0 0, .slice none 0 0, .slice none 0 0]) (t := 26) ?hr ?_; (case hd => rfl); (case hg => rfl); (case hr => first | (go_simp; done) | (go_simp; rfl)); intro gb432 hg w77 hbox hb; have n0_ := Aside0.mk (Kd.R_below (by (with_reducible repeat (first | apply Kd.R_alloc | apply Kd.R_drewN | apply Kd.R_drew)); exact HO409.out) hb); have n1_ := Aside0.mk (Kd.R_below (by (with_reducible repeat (first | apply Kd.R_alloc | apply Kd.R_drewN | apply Kd.R_drew)); exact HO412.out) hb); have n2_ := Aside0.mk (Kd.R_below (by (with_reducible repeat (first | apply Kd.R_alloc | apply Kd.R_drewN | apply Kd.R_drew)); exact HO415.out) hb); have n3_ := Aside0.mk (Kd.R_below (by (with_reducible repeat (first | apply Kd.R_alloc | apply Kd.R_drewN | apply Kd.R_drew)); exact HO420.out) hb); have n4_ := Aside0.mk (Kd.R_below (by (with_reducible repeat (first | apply Kd.R_alloc | apply Kd.R_drewN | apply Kd.R_drew)); exact HO424.out) hb); have n5_ := Aside0.mk (Kd.R_below (by (with_reducible repeat (first | apply Kd.R_alloc | apply Kd.R_drewN | apply Kd.R_drew)); exact HO427.out) hb); have n6_ := Aside0.mk (Kd.R_below (by (with_reducible repeat (first | apply Kd.R_alloc | apply Kd.R_drewN | apply Kd.R_drew)); exact HO430.out) hb); have n7_ := Aside0.mk (blk_below (g := gb417) (o := .cells #[.slice Ao69 t407.length co69, .slice Ao71 t410.length co71, .slice Ao72 t413.length co72] 26 (0, 0)) (by (with_reducible repeat (first | refine blk_drewN ?_ _ | refine blk_drew ?_ | refine blk_alloc ?_ _)); exact BK417.out) hb); have n8_ := Aside0.mk (below_step (by repeat (first | (with_reducible first | exact HB.out | apply below_alloc | apply pw_below_drewN | apply below_drew1 | refine below_set ?_ GE417.out) | exact HB.out)) hb); have n9_ := Aside0.mk (hbox); have n10_ := Aside0.mk ((by rw [hg]; exact (below_size (by repeat (first | (with_reducible first | exact HB.out | apply below_alloc | apply pw_below_drewN | apply below_drew1 | refine below_set ?_ GE417.out) | exact HB.out))) : w.heap.size ≤ gb432)); have n11_ := Aside0.mk ((by rw [hg]; exact (below_size (by repeat (first | (with_reducible first | exact HB.out | apply below_alloc | apply pw_below_drewN | apply below_drew1 | refine below_set ?_ GE417.out) | exact HB.out))) : w.heap.size ≤ gb432)); have n12_ := Aside0.mk ((by rw [hg]; exact Nat.ne_of_lt (blk_lt (g := gb417) (o := .cells #[.slice Ao69 t407.length co69, .slice Ao71 t410.length co71, .slice Ao72 t413.length co72] 26 (0, 0)) (by (with_reducible repeat (first | refine blk_drewN ?_ _ | refine blk_drew ?_ | refine blk_alloc ?_ _)); exact BK417.out)) : gb417 ≠ gb432)); have n13_ := Aside0.mk ((by rw [hg]; exact Nat.ne_of_gt (blk_lt (g := gb417) (o := .cells #[.slice Ao69 t407.length co69, .slice Ao71 t410.length co71, .slice Ao72 t413.length co72] 26 (0, 0)) (by (with_reducible repeat (first | refine blk_drewN ?_ _ | refine blk_drew ?_ | refine blk_alloc ?_ _)); exact BK417.out)) : gb432 ≠ gb417)); clear HO409; clear HO412; clear HO415; clear HO420; clear HO424; clear HO427; clear HO430; clear BK417; clear HB; have HO409 := n0_; have HO412 := n1_; have HO415 := n2_; have HO420 := n3_; have HO424 := n4_; have HO427 := n5_; have HO430 := n6_; have BK417 := n7_; have HB := n8_; have BK432 := n9_; have GW432 := n10_; have GE432 := n11_; have NB417_432 := n12_; have NB432_417 := n13_; clear n0_ n1_ n2_ n3_ n4_ n5_ n6_ n7_ n8_ n9_ n10_ n11_ n12_ n13_; clear hb hbox hg; obtain ⟨Ao78, co78, eo78⟩ := Kd.R_slice HO424.out; subst eo78; have hnb79 := NB432_417.out; have hnc79 := NB417_432.out; have hcz80_0 : w77.cell? ⟨gb432, 0, none⟩ = some (.slice none 0 0) := (blk_cell BK432.out 0).trans rfl; have hcz80_1 : w77.cell? ⟨gb432, 1, none⟩ = some (.slice none 0 0) := (blk_cell BK432.out 1).trans rfl; have hcz80_2 : w77.cell? ⟨gb432, 2, none⟩ = some (.slice none 0 0) := (blk_cell BK432.out 2).trans rfl; have hfz80_0 := blk_frozen BK432.out 0; have hfz80_1 := blk_frozen BK432.out 1; have hfz80_2 := blk_frozen BK432.out 2; obtain ⟨Ao81, co81, eo81⟩ := Kd.R_slice HO427.out; subst eo81; obtain ⟨Ao82, co82, eo82⟩ := Kd.R_slice HO430.out; subst eo82) | ((with_reducible refine gate_callee (f := 13) rfl ?_); refine goesL_ (some 103) rfl rfl Tryz.func13 (by kernel_rfl) rfl #[.int .i64 t416] rfl (by (try simp only [List.map_toArray, List.map_cons, List.map_nil]); first | done | rfl | (simp only [List.length_drop, List.length_take]; rfl)) ?_; (with_reducible refine (cruciblelaw0_Num.calls t416 t433 _ A45.out).mono ?_); rintro e w' ⟨rfl, ⟨nd, rfl⟩⟩; refine ⟨_, rfl, ?_⟩) | (go_at_call 12; (refine (cruciblelaw0_SameGraph.calls kj3 _ _ t422 _ _ t425 _ _ t428 _ _ ([] : List (S42)) _ _ ([] : List (S44)) _ _ ([] : List ByteArray) false _ ?side1 ?side2 ?side3 ?side4 ?side5 ?side6 ?side7 ?side8 ?side9 ?side10 ?side11 ?side12 A47.out).mono ?_); (case side1 => refine (Kd.R_reads' (e := 42) (base := w.heap.size) (ok := fun k_ => (((some k_ ≠ (.slice Ao82 t428.length co82 : Value).ownBlock ∧ some k_ ≠ (.slice Ao69 t407.length co69 : Value).ownBlock) ∧ some k_ ≠ (.slice Ao72 t413.length co72 : Value).ownBlock) ∧ some k_ ≠ (.slice (some ad421) y418.length co75 : Value).ownBlock)) (n := t422.length) (c := co78) ?_).2.2; exact (by (with_reducible repeat (first | apply Kd.R_alloc | apply Kd.R_drewN | apply Kd.R_drew)); exact (Kd.R_mono (Kd.R_far (p := ⟨gb432, 2, none⟩) (Kd.R_far (p := ⟨gb432, 1, none⟩) (Kd.R_far (p := ⟨gb432, 0, none⟩) (Kd.R_types HO424.out BK432.out (by decide)) (fun _ hk => hk.2) (.slice Ao78 t422.length co78)) (fun _ hk => hk.2) (.slice Ao81 t425.length co81)) (fun _ hk => hk.2) (.slice Ao82 t428.length co82)) (fun _ h_ => h_.1)))); (case side2 => exact (Kd.R_reads' HO424.out).2.1); (case side3 => refine (Kd.R_reads' (e := 44) (base := w.heap.size) (ok := fun k_ => (True ∧ some k_ ≠ (.slice Ao71 t410.length co71 : Value).ownBlock)) (n := t425.length) (c := co81) ?_).2.2; exact (by (with_reducible repeat (first | apply Kd.R_alloc | apply Kd.R_drewN | apply Kd.R_drew)); exact (Kd.R_mono (Kd.R_far (p := ⟨gb432, 2, none⟩) (Kd.R_far (p := ⟨gb432, 1, none⟩) (Kd.R_far (p := ⟨gb432, 0, none⟩) (Kd.R_types HO427.out BK432.out (by decide)) (fun _ hk => hk.2) (.slice Ao78 t422.length co78)) (fun _ hk => hk.2) (.slice Ao81 t425.length co81)) (fun _ hk => hk.2) (.slice Ao82 t428.length co82)) (fun _ h_ => h_.1)))); (case side4 => exact (Kd.R_reads' HO427.out).2.1); (case side5 => refine (Kd.R_reads' (e := 9) (base := w.heap.size) (ok := fun k_ => ((True ∧ some k_ ≠ (.slice Ao72 t413.length co72 : Value).ownBlock) ∧ some k_ ≠ (.slice (some ad421) y418.length co75 : Value).ownBlock)) (n := t428.length) (c := co82) ?_).2.2; exact (by (with_reducible repeat (first | apply Kd.R_alloc | apply Kd.R_drewN | apply Kd.R_drew)); exact (Kd.R_mono (Kd.R_far (p := ⟨gb432, 2, none⟩) (Kd.R_far (p := ⟨gb432, 1, none⟩) (Kd.R_far (p := ⟨gb432, 0, none⟩) (Kd.R_types HO430.out BK432.out (by decide)) (fun _ hk => hk.2) (.slice Ao78 t422.length co78)) (fun _ hk => hk.2) (.slice Ao81 t425.length co81)) (fun _ hk => hk.2) (.slice Ao82 t428.length co82)) (fun _ h_ => h_.1)))); (case side6 => exact (Kd.R_reads' HO430.out).2.1); (case side7 => exact Kd.C_nil _ _); (case side8 => exact Nat.le_refl _); (case side9 => exact Kd.C_nil _ _); (case side10 => exact Nat.le_refl _); (case side11 => exact Kd.C_nil _ _); (case side12 => exact Nat.le_refl _); rintro e w83 ⟨rfl, hb⟩; have n0_ := Aside0.mk (Kd.R_below (by (with_reducible repeat (first | apply Kd.R_alloc | apply Kd.R_drewN | apply Kd.R_drew)); exact (Kd.R_mono (Kd.R_far (p := ⟨gb432, 2, none⟩) (Kd.R_far (p := ⟨gb432, 1, none⟩) (Kd.R_far (p := ⟨gb432, 0, none⟩) (Kd.R_types HO409.out BK432.out (by decide)) (fun _ hk => hk.2) (.slice Ao78 t422.length co78)) (fun _ hk => hk.2) (.slice Ao81 t425.length co81)) (fun _ hk => hk.2) (.slice Ao82 t428.length co82)) (fun _ h_ => h_.1))) hb); have n1_ := Aside0.mk (Kd.R_below (by (with_reducible repeat (first | apply Kd.R_alloc | apply Kd.R_drewN | apply Kd.R_drew)); exact (Kd.R_mono (Kd.R_far (p := ⟨gb432, 2, none⟩) (Kd.R_far (p := ⟨gb432, 1, none⟩) (Kd.R_far (p := ⟨gb432, 0, none⟩) (Kd.R_types HO412.out BK432.out (by decide)) (fun _ hk => hk.2) (.slice Ao78 t422.length co78)) (fun _ hk => hk.2) (.slice Ao81 t425.length co81)) (fun _ hk => hk.2) (.slice Ao82 t428.length co82)) (fun _ h_ => h_.1))) hb); have n2_ := Aside0.mk (Kd.R_below (by (with_reducible repeat (first | apply Kd.R_alloc | apply Kd.R_drewN | apply Kd.R_drew)); exact (Kd.R_mono (Kd.R_far (p := ⟨gb432, 2, none⟩) (Kd.R_far (p := ⟨gb432, 1, none⟩) (Kd.R_far (p := ⟨gb432, 0, none⟩) (Kd.R_types HO415.out BK432.out (by decide)) (fun _ hk => hk.2) (.slice Ao78 t422.length co78)) (fun _ hk => hk.2) (.slice Ao81 t425.length co81)) (fun _ hk => hk.2) (.slice Ao82 t428.length co82)) (fun _ h_ => h_.1))) hb); have n3_ := Aside0.mk (Kd.R_below (by (with_reducible repeat (first | apply Kd.R_alloc | apply Kd.R_drewN | apply Kd.R_drew)); exact (Kd.R_mono (Kd.R_far (p := ⟨gb432, 2, none⟩) (Kd.R_far (p := ⟨gb432, 1, none⟩) (Kd.R_far (p := ⟨gb432, 0, none⟩) (Kd.R_types HO420.out BK432.out (by decide)) (fun _ hk => hk.2) (.slice Ao78 t422.length co78)) (fun _ hk => hk.2) (.slice Ao81 t425.length co81)) (fun _ hk => hk.2) (.slice Ao82 t428.length co82)) (fun _ h_ => h_.1))) hb); have n4_ := Aside0.mk (Kd.R_below (by (with_reducible repeat (first | apply Kd.R_alloc | apply Kd.R_drewN | apply Kd.R_drew)); exact (Kd.R_mono (Kd.R_far (p := ⟨gb432, 2, none⟩) (Kd.R_far (p := ⟨gb432, 1, none⟩) (Kd.R_far (p := ⟨gb432, 0, none⟩) (Kd.R_types HO424.out BK432.out (by decide)) (fun _ hk => hk.2) (.slice Ao78 t422.length co78)) (fun _ hk => hk.2) (.slice Ao81 t425.length co81)) (fun _ hk => hk.2) (.slice Ao82 t428.length co82)) (fun _ h_ => h_.1))) hb); have n5_ := Aside0.mk (Kd.R_below (by (with_reducible repeat (first | apply Kd.R_alloc | apply Kd.R_drewN | apply Kd.R_drew)); exact (Kd.R_mono (Kd.R_far (p := ⟨gb432, 2, none⟩) (Kd.R_far (p := ⟨gb432, 1, none⟩) (Kd.R_far (p := ⟨gb432, 0, none⟩) (Kd.R_types HO427.out BK432.out (by decide)) (fun _ hk => hk.2) (.slice Ao78 t422.length co78)) (fun _ hk => hk.2) (.slice Ao81 t425.length co81)) (fun _ hk => hk.2) (.slice Ao82 t428.length co82)) (fun _ h_ => h_.1))) hb); have n6_ := Aside0.mk (Kd.R_below (by (with_reducible repeat (first | apply Kd.R_alloc | apply Kd.R_drewN | apply Kd.R_drew)); exact (Kd.R_mono (Kd.R_far (p := ⟨gb432, 2, none⟩) (Kd.R_far (p := ⟨gb432, 1, none⟩) (Kd.R_far (p := ⟨gb432, 0, none⟩) (Kd.R_types HO430.out BK432.out (by decide)) (fun _ hk => hk.2) (.slice Ao78 t422.length co78)) (fun _ hk => hk.2) (.slice Ao81 t425.length co81)) (fun _ hk => hk.2) (.slice Ao82 t428.length co82)) (fun _ h_ => h_.1))) hb); have n7_ := Aside0.mk (blk_below (g := gb417) (o := .cells #[.slice Ao69 t407.length co69, .slice Ao71 t410.length co71, .slice Ao72 t413.length co72] 26 (0, 0)) (by (with_reducible repeat (first | refine blk_drewN ?_ _ | refine blk_drew ?_ | refine blk_alloc ?_ _)); refine blk_far ?_ NB417_432.out _; (with_reducible repeat (first | refine blk_drewN ?_ _ | refine blk_drew ?_ | refine blk_alloc ?_ _)); refine blk_far ?_ NB417_432.out _; (with_reducible repeat (first | refine blk_drewN ?_ _ | refine blk_drew ?_ | refine blk_alloc ?_ _)); refine blk_far ?_ NB417_432.out _; (with_reducible repeat (first | refine blk_drewN ?_ _ | refine blk_drew ?_ | refine blk_alloc ?_ _)); exact BK417.out) hb); have n8_ := Aside0.mk (blk_below (g := gb432) (o := .cells #[.slice Ao78 t422.length co78, .slice Ao81 t425.length co81, .slice Ao82 t428.length co82] 26 (0, 0)) (by (with_reducible repeat (first | refine blk_drewN ?_ _ | refine blk_drew ?_ | refine blk_alloc ?_ _)); refine blk_put (cs := #[.slice Ao78 t422.length co78, .slice Ao81 t425.length co81, .slice none 0 0]) ?_ 2 _ rfl; (with_reducible repeat (first | refine blk_drewN ?_ _ | refine blk_drew ?_ | refine blk_alloc ?_ _)); refine blk_put (cs := #[.slice Ao78 t422.length co78, .slice none 0 0, .slice none 0 0]) ?_ 1 _ rfl; (with_reducible repeat (first | refine blk_drewN ?_ _ | refine blk_drew ?_ | refine blk_alloc ?_ _)); refine blk_put (cs := #[.slice none 0 0, .slice none 0 0, .slice none 0 0]) ?_ 0 _ rfl; (with_reducible repeat (first | refine blk_drewN ?_ _ | refine blk_drew ?_ | refine blk_alloc ?_ _)); exact BK432.out) hb); have n9_ := Aside0.mk (below_step (by repeat (first | (with_reducible first | exact HB.out | apply below_alloc | apply pw_below_drewN | apply below_drew1 | refine below_set ?_ GE417.out | refine below_set ?_ GE432.out) | exact HB.out)) hb); clear HO409; clear HO412; clear HO415; clear HO420; clear HO424; clear HO427; clear HO430; clear BK417; clear BK432; clear HB; have HO409 := n0_; have HO412 := n1_; have HO415 := n2_; have HO420 := n3_; have HO424 := n4_; have HO427 := n5_; have HO430 := n6_; have BK417 := n7_; have BK432 := n8_; have HB := n9_; clear n0_ n1_ n2_ n3_ n4_ n5_ n6_ n7_ n8_ n9_; (try clear hb); (try clear hb2); (try clear hk); (try clear hi)))
                  go_ret
                  exact ⟨by first | rfl | (simp [errW_none, errW_some] <;> rfl) | (simp only [← hji40]; first | rfl | (simp [errW_none, errW_some] <;> rfl)) | (simp [*, errW_none, errW_some] <;> rfl), by repeat (first | (with_reducible first | exact HB.out | apply below_alloc | apply pw_below_drewN | apply below_drew1 | refine below_set ?_ GE417.out | refine below_set ?_ GE432.out) | exact HB.out)⟩
              · rw [if_neg c46] at H
                have c46b0 : (t433 == 0) = false := beq_eq_false_iff_ne.mpr c46
                have c46b1 : (t433 != 0) = true := bne_iff_ne.mpr c46
                obtain rfl := Option.some.inj H
                go_wp2_with (first | ((with_reducible refine gate_callee (f := 10) rfl ?_); refine goesL_ (some 85) rfl rfl Tryz.func10 (by kernel_rfl) rfl #[.string x3_3] rfl (by (try simp only [List.map_toArray, List.map_cons, List.map_nil]); first | done | rfl | (simp only [List.length_drop, List.length_take]; rfl)) ?_; (with_reducible refine (manifest_Parse.calls x3_3 t407 t410 t413 t416 _ A39.out).mono ?_); rintro e w84 ⟨v408, v411, v414, rfl, ho0, ho1, ho2, hb⟩; refine ⟨_, rfl, ?_⟩; have n0_ := Aside0.mk (Kd.R_lower ho0 (below_size (by repeat (first | (with_reducible first | exact HB.out | apply below_alloc | apply pw_below_drewN | apply below_drew1) | exact HB.out)))); have n1_ := Aside0.mk (Kd.R_lower ho1 (below_size (by repeat (first | (with_reducible first | exact HB.out | apply below_alloc | apply pw_below_drewN | apply below_drew1) | exact HB.out)))); have n2_ := Aside0.mk (Kd.R_lower ho2 (below_size (by repeat (first | (with_reducible first | exact HB.out | apply below_alloc | apply pw_below_drewN | apply below_drew1) | exact HB.out)))); have n3_ := Aside0.mk (below_step (by repeat (first | (with_reducible first | exact HB.out | apply below_alloc | apply pw_below_drewN | apply below_drew1) | exact HB.out)) hb); clear HB; have HO409 := n0_; have HO412 := n1_; have HO415 := n2_; have HB := n3_; clear n0_ n1_ n2_ n3_; (try clear hb); (try clear hb2); (try clear hk); (try clear hi); (try clear ho0); (try clear ho1); (try clear ho2)) | ((with_reducible refine gate_dst (N := 9) rfl ?_); refine box_event ?hg (N := 9) ?hd (cs := #[.slice none 0 0, .slice none 0 0, .slice none 0 0]) (t := 26) ?hr ?_; (case hd => rfl); (case hg => rfl); (case hr => first | (go_simp; done) | (go_simp; rfl)); intro gb417 hg w85 hbox hb; have n0_ := Aside0.mk (Kd.R_below (by (with_reducible repeat (first | apply Kd.R_alloc | apply Kd.R_drewN | apply Kd.R_drew)); exact HO409.out) hb); have n1_ := Aside0.mk (Kd.R_below (by (with_reducible repeat (first | apply Kd.R_alloc | apply Kd.R_drewN | apply Kd.R_drew)); exact HO412.out) hb); have n2_ := Aside0.mk (Kd.R_below (by (with_reducible repeat (first | apply Kd.R_alloc | apply Kd.R_drewN | apply Kd.R_drew)); exact HO415.out) hb); have n3_ := Aside0.mk (below_step (by repeat (first | (with_reducible first | exact HB.out | apply below_alloc | apply pw_below_drewN | apply below_drew1) | exact HB.out)) hb); have n4_ := Aside0.mk (hbox); have n5_ := Aside0.mk ((by rw [hg]; exact (below_size (by repeat (first | (with_reducible first | exact HB.out | apply below_alloc | apply pw_below_drewN | apply below_drew1) | exact HB.out))) : w.heap.size ≤ gb417)); have n6_ := Aside0.mk ((by rw [hg]; exact (below_size (by repeat (first | (with_reducible first | exact HB.out | apply below_alloc | apply pw_below_drewN | apply below_drew1) | exact HB.out))) : w.heap.size ≤ gb417)); clear HO409; clear HO412; clear HO415; clear HB; have HO409 := n0_; have HO412 := n1_; have HO415 := n2_; have HB := n3_; have BK417 := n4_; have GW417 := n5_; have GE417 := n6_; clear n0_ n1_ n2_ n3_ n4_ n5_ n6_; clear hb hbox hg; obtain ⟨Ao86, co86, eo86⟩ := Kd.R_slice HO409.out; subst eo86; have hcz87_0 : w85.cell? ⟨gb417, 0, none⟩ = some (.slice none 0 0) := (blk_cell BK417.out 0).trans rfl; have hcz87_1 : w85.cell? ⟨gb417, 1, none⟩ = some (.slice none 0 0) := (blk_cell BK417.out 1).trans rfl; have hcz87_2 : w85.cell? ⟨gb417, 2, none⟩ = some (.slice none 0 0) := (blk_cell BK417.out 2).trans rfl; have hfz87_0 := blk_frozen BK417.out 0; have hfz87_1 := blk_frozen BK417.out 1; have hfz87_2 := blk_frozen BK417.out 2; obtain ⟨Ao88, co88, eo88⟩ := Kd.R_slice HO412.out; subst eo88; obtain ⟨Ao89, co89, eo89⟩ := Kd.R_slice HO415.out; subst eo89) | ((with_reducible refine gate_dst (N := 88) rfl ?_); refine Kd.R_lit Kd.string _ 9 ?hg (N := 88) ?hd (xs := ([(⟨#[114, 117, 108, 101, 32, 109, 111, 114, 101, 10, 32, 99, 111, 109, 109, 97, 110, 100, 32, 61, 32, 120, 10]⟩ : ByteArray), (⟨#[112, 111, 111, 108, 32, 109, 111, 114, 101, 10, 32, 100, 101, 112, 116, 104, 32, 61, 32, 49, 10]⟩ : ByteArray), (⟨#[98, 117, 105, 108, 100, 32, 109, 111, 114, 101, 32, 58, 32, 99, 99, 10]⟩ : ByteArray), (⟨#[100, 101, 102, 97, 117, 108, 116, 32, 120, 10]⟩ : ByteArray), (⟨#[109, 111, 114, 101, 32, 61, 32, 49, 10]⟩ : ByteArray)] : List ByteArray)) (inner := [.string (⟨#[114, 117, 108, 101, 32, 109, 111, 114, 101, 10, 32, 99, 111, 109, 109, 97, 110, 100, 32, 61, 32, 120, 10]⟩ : ByteArray), .string (⟨#[112, 111, 111, 108, 32, 109, 111, 114, 101, 10, 32, 100, 101, 112, 116, 104, 32, 61, 32, 49, 10]⟩ : ByteArray), .string (⟨#[98, 117, 105, 108, 100, 32, 109, 111, 114, 101, 32, 58, 32, 99, 99, 10]⟩ : ByteArray), .string (⟨#[100, 101, 102, 97, 117, 108, 116, 32, 120, 10]⟩ : ByteArray), .string (⟨#[109, 111, 114, 101, 32, 61, 32, 49, 10]⟩ : ByteArray)]) (ok := fun _ => True) (okp := fun _ => True) ?hr ?hp (fun _ hk => hk) trivial (Below.refl _ _) (Nat.le_refl _) (by simp) ?_; (case hd => rfl); (case hg => rfl); (case hr => first | (go_simp; done) | (go_simp; rfl)); (case hp => exact (Reps.one (show Kd.M Kd.string _ _ _ (⟨#[114, 117, 108, 101, 32, 109, 111, 114, 101, 10, 32, 99, 111, 109, 109, 97, 110, 100, 32, 61, 32, 120, 10]⟩ : ByteArray) [.string (⟨#[114, 117, 108, 101, 32, 109, 111, 114, 101, 10, 32, 99, 111, 109, 109, 97, 110, 100, 32, 61, 32, 120, 10]⟩ : ByteArray)] from rfl) (Reps.one (show Kd.M Kd.string _ _ _ (⟨#[112, 111, 111, 108, 32, 109, 111, 114, 101, 10, 32, 100, 101, 112, 116, 104, 32, 61, 32, 49, 10]⟩ : ByteArray) [.string (⟨#[112, 111, 111, 108, 32, 109, 111, 114, 101, 10, 32, 100, 101, 112, 116, 104, 32, 61, 32, 49, 10]⟩ : ByteArray)] from rfl) (Reps.one (show Kd.M Kd.string _ _ _ (⟨#[98, 117, 105, 108, 100, 32, 109, 111, 114, 101, 32, 58, 32, 99, 99, 10]⟩ : ByteArray) [.string (⟨#[98, 117, 105, 108, 100, 32, 109, 111, 114, 101, 32, 58, 32, 99, 99, 10]⟩ : ByteArray)] from rfl) (Reps.one (show Kd.M Kd.string _ _ _ (⟨#[100, 101, 102, 97, 117, 108, 116, 32, 120, 10]⟩ : ByteArray) [.string (⟨#[100, 101, 102, 97, 117, 108, 116, 32, 120, 10]⟩ : ByteArray)] from rfl) (Reps.one (show Kd.M Kd.string _ _ _ (⟨#[109, 111, 114, 101, 32, 61, 32, 49, 10]⟩ : ByteArray) [.string (⟨#[109, 111, 114, 101, 32, 61, 32, 49, 10]⟩ : ByteArray)] from rfl) (Reps.none _ _))))))); intro v419 w90 ho91 hb hg_ hnew_; clear hg_ hnew_; (first | rw [← Ny418.out] at ho91 | (simp only [Int.reduceToNat] at ho91; rw [← Ny418.out] at ho91)); have n0_ := Aside0.mk (Kd.R_elder' (by (with_reducible repeat (first | apply Kd.R_alloc | apply Kd.R_drewN | apply Kd.R_drew)); exact (Kd.R_mono (Kd.R_far (p := ⟨gb417, 2, none⟩) (Kd.R_far (p := ⟨gb417, 1, none⟩) (Kd.R_far (p := ⟨gb417, 0, none⟩) (Kd.R_types HO409.out BK417.out (by decide)) (fun _ hk => hk.2) (.slice Ao86 t407.length co86)) (fun _ hk => hk.2) (.slice Ao88 t410.length co88)) (fun _ hk => hk.2) (.slice Ao89 t413.length co89)) (fun _ h_ => h_.1))) (Kd.R_base ho91) hb); have n1_ := Aside0.mk (Kd.R_below (by (with_reducible repeat (first | apply Kd.R_alloc | apply Kd.R_drewN | apply Kd.R_drew)); exact (Kd.R_mono (Kd.R_far (p := ⟨gb417, 2, none⟩) (Kd.R_far (p := ⟨gb417, 1, none⟩) (Kd.R_far (p := ⟨gb417, 0, none⟩) (Kd.R_types HO412.out BK417.out (by decide)) (fun _ hk => hk.2) (.slice Ao86 t407.length co86)) (fun _ hk => hk.2) (.slice Ao88 t410.length co88)) (fun _ hk => hk.2) (.slice Ao89 t413.length co89)) (fun _ h_ => h_.1))) hb); have n2_ := Aside0.mk (Kd.R_elder' (by (with_reducible repeat (first | apply Kd.R_alloc | apply Kd.R_drewN | apply Kd.R_drew)); exact (Kd.R_mono (Kd.R_far (p := ⟨gb417, 2, none⟩) (Kd.R_far (p := ⟨gb417, 1, none⟩) (Kd.R_far (p := ⟨gb417, 0, none⟩) (Kd.R_types HO415.out BK417.out (by decide)) (fun _ hk => hk.2) (.slice Ao86 t407.length co86)) (fun _ hk => hk.2) (.slice Ao88 t410.length co88)) (fun _ hk => hk.2) (.slice Ao89 t413.length co89)) (fun _ h_ => h_.1))) (Kd.R_base ho91) hb); have n3_ := Aside0.mk (Kd.R_lower (Kd.R_new' ho91 (Kd.R_lt (by (with_reducible repeat (first | apply Kd.R_alloc | apply Kd.R_drewN | apply Kd.R_drew)); exact (Kd.R_mono (Kd.R_far (p := ⟨gb417, 2, none⟩) (Kd.R_far (p := ⟨gb417, 1, none⟩) (Kd.R_far (p := ⟨gb417, 0, none⟩) (Kd.R_types HO415.out BK417.out (by decide)) (fun _ hk => hk.2) (.slice Ao86 t407.length co86)) (fun _ hk => hk.2) (.slice Ao88 t410.length co88)) (fun _ hk => hk.2) (.slice Ao89 t413.length co89)) (fun _ h_ => h_.1))))) (below_size (by repeat (first | (with_reducible first | exact HB.out | apply below_alloc | apply pw_below_drewN | apply below_drew1 | refine below_set ?_ GE417.out) | exact HB.out)))); have n4_ := Aside0.mk (blk_below (g := gb417) (o := .cells #[.slice Ao86 t407.length co86, .slice Ao88 t410.length co88, .slice Ao89 t413.length co89] 26 (0, 0)) (by (with_reducible repeat (first | refine blk_drewN ?_ _ | refine blk_drew ?_ | refine blk_alloc ?_ _)); refine blk_put (cs := #[.slice Ao86 t407.length co86, .slice Ao88 t410.length co88, .slice none 0 0]) ?_ 2 _ rfl; (with_reducible repeat (first | refine blk_drewN ?_ _ | refine blk_drew ?_ | refine blk_alloc ?_ _)); refine blk_put (cs := #[.slice Ao86 t407.length co86, .slice none 0 0, .slice none 0 0]) ?_ 1 _ rfl; (with_reducible repeat (first | refine blk_drewN ?_ _ | refine blk_drew ?_ | refine blk_alloc ?_ _)); refine blk_put (cs := #[.slice none 0 0, .slice none 0 0, .slice none 0 0]) ?_ 0 _ rfl; (with_reducible repeat (first | refine blk_drewN ?_ _ | refine blk_drew ?_ | refine blk_alloc ?_ _)); exact BK417.out) hb); have n5_ := Aside0.mk (below_step (by repeat (first | (with_reducible first | exact HB.out | apply below_alloc | apply pw_below_drewN | apply below_drew1 | refine below_set ?_ GE417.out) | exact HB.out)) hb); clear HO409; clear HO412; clear HO415; clear BK417; clear HB; have HO409 := n0_; have HO412 := n1_; have HO415 := n2_; have HO420 := n3_; have BK417 := n4_; have HB := n5_; clear n0_ n1_ n2_ n3_ n4_ n5_; clear hb ho91; obtain ⟨Ao92, co92, eo92⟩ := Kd.R_slice HO420.out; subst eo92; have p421 : 0 ≤ ((ji40) : Int) := of_decide_eq_true (by first | (with_reducible assumption) | assumption); have q421 : (ji40) < (y418.length : Int) := of_decide_eq_true (by first | (with_reducible assumption) | assumption); obtain ⟨ad421, e421, hx421_0⟩ := Kd.at_string (Kd.R_reads' HO420.out).2.2 (ji40) p421 q421; cases e421; replace p421 := eq_true p421; replace q421 := eq_true q421) | ((with_reducible refine gate_callee (f := 10) rfl ?_); refine goesL_ (some 99) rfl rfl Tryz.func10 (by kernel_rfl) rfl #[.string (x3_3 ++ (rdOf ByteArray.empty y418 (ji40)))] rfl (by (try simp only [List.map_toArray, List.map_cons, List.map_nil]); first | done | (simp only [hji40]; rfl) | rfl | (simp only [List.length_drop, List.length_take]; rfl)) ?_; (with_reducible refine (manifest_Parse.calls (x3_3 ++ (rdOf ByteArray.empty y418 (ji40))) t422 t425 t428 t431 _ A44.out).mono ?_); rintro e w93 ⟨v423, v426, v429, rfl, ho0, ho1, ho2, hb⟩; refine ⟨_, rfl, ?_⟩; have n0_ := Aside0.mk (Kd.R_mono (Kd.R_told (Kd.R_told (Kd.R_old (by (with_reducible repeat (first | apply Kd.R_alloc | apply Kd.R_drewN | apply Kd.R_drew)); exact HO409.out) hb) (Kd.R_base ho0)) (Kd.R_base ho2)) (fun _ h_ => h_.1)); have n1_ := Aside0.mk (Kd.R_elder' (by (with_reducible repeat (first | apply Kd.R_alloc | apply Kd.R_drewN | apply Kd.R_drew)); exact HO412.out) (Kd.R_base ho1) hb); have n2_ := Aside0.mk (Kd.R_elder' (by (with_reducible repeat (first | apply Kd.R_alloc | apply Kd.R_drewN | apply Kd.R_drew)); exact HO415.out) (Kd.R_base ho2) hb); have n3_ := Aside0.mk (Kd.R_elder' (by (with_reducible repeat (first | apply Kd.R_alloc | apply Kd.R_drewN | apply Kd.R_drew)); exact HO420.out) (Kd.R_base ho2) hb); have n4_ := Aside0.mk (Kd.R_lower (Kd.R_new' (Kd.R_new' (Kd.R_new' ho0 (Kd.R_lt (by (with_reducible repeat (first | apply Kd.R_alloc | apply Kd.R_drewN | apply Kd.R_drew)); exact HO409.out))) (Kd.R_lt (by (with_reducible repeat (first | apply Kd.R_alloc | apply Kd.R_drewN | apply Kd.R_drew)); exact HO415.out))) (Kd.R_lt (by (with_reducible repeat (first | apply Kd.R_alloc | apply Kd.R_drewN | apply Kd.R_drew)); exact HO420.out))) (below_size (by repeat (first | (with_reducible first | exact HB.out | apply below_alloc | apply pw_below_drewN | apply below_drew1 | refine below_set ?_ GE417.out) | exact HB.out)))); have n5_ := Aside0.mk (Kd.R_lower (Kd.R_new' ho1 (Kd.R_lt (by (with_reducible repeat (first | apply Kd.R_alloc | apply Kd.R_drewN | apply Kd.R_drew)); exact HO412.out))) (below_size (by repeat (first | (with_reducible first | exact HB.out | apply below_alloc | apply pw_below_drewN | apply below_drew1 | refine below_set ?_ GE417.out) | exact HB.out)))); have n6_ := Aside0.mk (Kd.R_lower (Kd.R_new' (Kd.R_new' ho2 (Kd.R_lt (by (with_reducible repeat (first | apply Kd.R_alloc | apply Kd.R_drewN | apply Kd.R_drew)); exact HO415.out))) (Kd.R_lt (by (with_reducible repeat (first | apply Kd.R_alloc | apply Kd.R_drewN | apply Kd.R_drew)); exact HO420.out))) (below_size (by repeat (first | (with_reducible first | exact HB.out | apply below_alloc | apply pw_below_drewN | apply below_drew1 | refine below_set ?_ GE417.out) | exact HB.out)))); have n7_ := Aside0.mk (blk_below (g := gb417) (o := .cells #[.slice Ao86 t407.length co86, .slice Ao88 t410.length co88, .slice Ao89 t413.length co89] 26 (0, 0)) (by (with_reducible repeat (first | refine blk_drewN ?_ _ | refine blk_drew ?_ | refine blk_alloc ?_ _)); exact BK417.out) hb); have n8_ := Aside0.mk (below_step (by repeat (first | (with_reducible first | exact HB.out | apply below_alloc | apply pw_below_drewN | apply below_drew1 | refine below_set ?_ GE417.out) | exact HB.out)) hb); clear HO409; clear HO412; clear HO415; clear HO420; clear BK417; clear HB; have HO409 := n0_; have HO412 := n1_; have HO415 := n2_; have HO420 := n3_; have HO424 := n4_; have HO427 := n5_; have HO430 := n6_; have BK417 := n7_; have HB := n8_; clear n0_ n1_ n2_ n3_ n4_ n5_ n6_ n7_ n8_; (try clear hb); (try clear hb2); (try clear hk); (try clear hi); (try clear ho0); (try clear ho1); (try clear ho2)) | ((with_reducible refine gate_dst (N := 12) rfl ?_); refine box_event ?hg (N := 12) ?hd (cs := #[.slice none 0 0, .slice none 0 0, .slice none 0 0]) (t := 26) ?hr ?_; (case hd => rfl); (case hg => rfl); (case hr => first | (go_simp; done) | (go_simp; rfl)); intro gb432 hg w94 hbox hb; have n0_ := Aside0.mk (Kd.R_below (by (with_reducible repeat (first | apply Kd.R_alloc | apply Kd.R_drewN | apply Kd.R_drew)); exact HO409.out) hb); have n1_ := Aside0.mk (Kd.R_below (by (with_reducible repeat (first | apply Kd.R_alloc | apply Kd.R_drewN | apply Kd.R_drew)); exact HO412.out) hb); have n2_ := Aside0.mk (Kd.R_below (by (with_reducible repeat (first | apply Kd.R_alloc | apply Kd.R_drewN | apply Kd.R_drew)); exact HO415.out) hb); have n3_ := Aside0.mk (Kd.R_below (by (with_reducible repeat (first | apply Kd.R_alloc | apply Kd.R_drewN | apply Kd.R_drew)); exact HO420.out) hb); have n4_ := Aside0.mk (Kd.R_below (by (with_reducible repeat (first | apply Kd.R_alloc | apply Kd.R_drewN | apply Kd.R_drew)); exact HO424.out) hb); have n5_ := Aside0.mk (Kd.R_below (by (with_reducible repeat (first | apply Kd.R_alloc | apply Kd.R_drewN | apply Kd.R_drew)); exact HO427.out) hb); have n6_ := Aside0.mk (Kd.R_below (by (with_reducible repeat (first | apply Kd.R_alloc | apply Kd.R_drewN | apply Kd.R_drew)); exact HO430.out) hb); have n7_ := Aside0.mk (blk_below (g := gb417) (o := .cells #[.slice Ao86 t407.length co86, .slice Ao88 t410.length co88, .slice Ao89 t413.length co89] 26 (0, 0)) (by (with_reducible repeat (first | refine blk_drewN ?_ _ | refine blk_drew ?_ | refine blk_alloc ?_ _)); exact BK417.out) hb); have n8_ := Aside0.mk (below_step (by repeat (first | (with_reducible first | exact HB.out | apply below_alloc | apply pw_below_drewN | apply below_drew1 | refine below_set ?_ GE417.out) | exact HB.out)) hb); have n9_ := Aside0.mk (hbox); have n10_ := Aside0.mk ((by rw [hg]; exact (below_size (by repeat (first | (with_reducible first | exact HB.out | apply below_alloc | apply pw_below_drewN | apply below_drew1 | refine below_set ?_ GE417.out) | exact HB.out))) : w.heap.size ≤ gb432)); have n11_ := Aside0.mk ((by rw [hg]; exact (below_size (by repeat (first | (with_reducible first | exact HB.out | apply below_alloc | apply pw_below_drewN | apply below_drew1 | refine below_set ?_ GE417.out) | exact HB.out))) : w.heap.size ≤ gb432)); have n12_ := Aside0.mk ((by rw [hg]; exact Nat.ne_of_lt (blk_lt (g := gb417) (o := .cells #[.slice Ao86 t407.length co86, .slice Ao88 t410.length co88, .slice Ao89 t413.length co89] 26 (0, 0)) (by (with_reducible repeat (first | refine blk_drewN ?_ _ | refine blk_drew ?_ | refine blk_alloc ?_ _)); exact BK417.out)) : gb417 ≠ gb432)); have n13_ := Aside0.mk ((by rw [hg]; exact Nat.ne_of_gt (blk_lt (g := gb417) (o := .cells #[.slice Ao86 t407.length co86, .slice Ao88 t410.length co88, .slice Ao89 t413.length co89] 26 (0, 0)) (by (with_reducible repeat (first | refine blk_drewN ?_ _ | refine blk_drew ?_ | refine blk_alloc ?_ _)); exact BK417.out)) : gb432 ≠ gb417)); clear HO409; clear HO412; clear HO415; clear HO420; clear HO424; clear HO427; clear HO430; clear BK417; clear HB; have HO409 := n0_; have HO412 := n1_; have HO415 := n2_; have HO420 := n3_; have HO424 := n4_; have HO427 := n5_; have HO430 := n6_; have BK417 := n7_; have HB := n8_; have BK432 := n9_; have GW432 := n10_; have GE432 := n11_; have NB417_432 := n12_; have NB432_417 := n13_; clear n0_ n1_ n2_ n3_ n4_ n5_ n6_ n7_ n8_ n9_ n10_ n11_ n12_ n13_; clear hb hbox hg; obtain ⟨Ao95, co95, eo95⟩ := Kd.R_slice HO424.out; subst eo95; have hnb96 := NB432_417.out; have hnc96 := NB417_432.out; have hcz97_0 : w94.cell? ⟨gb432, 0, none⟩ = some (.slice none 0 0) := (blk_cell BK432.out 0).trans rfl; have hcz97_1 : w94.cell? ⟨gb432, 1, none⟩ = some (.slice none 0 0) := (blk_cell BK432.out 1).trans rfl; have hcz97_2 : w94.cell? ⟨gb432, 2, none⟩ = some (.slice none 0 0) := (blk_cell BK432.out 2).trans rfl; have hfz97_0 := blk_frozen BK432.out 0; have hfz97_1 := blk_frozen BK432.out 1; have hfz97_2 := blk_frozen BK432.out 2; obtain ⟨Ao98, co98, eo98⟩ := Kd.R_slice HO427.out; subst eo98; obtain ⟨Ao99, co99, eo99⟩ := Kd.R_slice HO430.out; subst eo99) | ((with_reducible refine gate_callee (f := 13) rfl ?_); refine goesL_ (some 103) rfl rfl Tryz.func13 (by kernel_rfl) rfl #[.int .i64 t416] rfl (by (try simp only [List.map_toArray, List.map_cons, List.map_nil]); first | done | rfl | (simp only [List.length_drop, List.length_take]; rfl)) ?_; (with_reducible refine (cruciblelaw0_Num.calls t416 t433 _ A45.out).mono ?_); rintro e w' ⟨rfl, ⟨nd, rfl⟩⟩; refine ⟨_, rfl, ?_⟩))
                go_ret
                exact ⟨by first | rfl | (simp [errW_none, errW_some] <;> rfl) | (simp only [← hji40]; first | rfl | (simp [errW_none, errW_some] <;> rfl)) | (simp [*, errW_none, errW_some] <;> rfl), by repeat (first | (with_reducible first | exact HB.out | apply below_alloc | apply pw_below_drewN | apply below_drew1 | refine below_set ?_ GE417.out | refine below_set ?_ GE432.out) | exact HB.out)⟩
            · rw [if_neg c43] at H
              exact absurd H (by simp)
          · rw [if_neg c42] at H
            exact absurd H (by simp)
        · rw [if_neg c41] at H
          exact absurd H (by simp)
  · replace c3 := Bool.eq_false_iff.mpr c3
    subst c3
    have H1 : (some false) = some r := by rw [if_neg (show ¬ (false = true) by decide)] at H; exact H
    clear H
    have H := H1
    clear H1
    obtain rfl := Option.some.inj H
    go_enter Tryz.func5, Tryz.ntmps5
    go_wp2_with (first | ((with_reducible refine gate_callee (f := 15) rfl ?_); refine goesL_ (some 14) rfl rfl Tryz.func15 (by kernel_rfl) rfl #[] rfl (by (try simp only [List.map_toArray, List.map_cons, List.map_nil]); first | done | rfl | (simp only [List.length_drop, List.length_take]; rfl)) ?_; (with_reducible refine (cruciblelaw8_awake.calls  false _ A2.out).mono ?_); rintro e w100 ⟨rfl, hb⟩; refine ⟨_, rfl, ?_⟩; have n0_ := Aside0.mk (below_step (by repeat (first | (with_reducible first | exact HB.out | apply below_alloc | apply pw_below_drewN | apply below_drew1) | exact HB.out)) hb); clear HB; have HB := n0_; clear n0_; (try clear hb); (try clear hb2); (try clear hk); (try clear hi)))
    go_ret
    exact ⟨by first | rfl | (simp [errW_none, errW_some] <;> rfl) | (simp [*, errW_none, errW_some] <;> rfl), by repeat (first | (with_reducible first | exact HB.out | apply below_alloc | apply pw_below_drewN | apply below_drew1) | exact HB.out)⟩

/-- THE ONE PURE STATEMENT of cruciblelaw8_ManifestFull: yours. -/
def cruciblelaw8_ManifestFull.Pure : Prop := ∀ (a0 : Int), (Lit.int .i64 a0).wf = true → ∃ k, cruciblelaw8_ManifestFull.f k a0 = some true
theorem cruciblelaw8_ManifestFull.walk (P : cruciblelaw8_ManifestFull.Pure) (a0 : Int) (w : World) (w0 : (Lit.int .i64 a0).wf = true) :
    Calls Tryz.prog 5 #[.int .i64 a0] w fun e w' => e = .returned (.bool true) ∧ Below w.heap.size w w' := by
  obtain ⟨k, h⟩ := P a0 w0
  refine (cruciblelaw8_ManifestFull.calls k a0 true w h).mono ?_
  rintro e w' ⟨rfl, hd⟩
  exact ⟨rfl, hd⟩

end Go.Proofs.YtefheailchihaaaGreatDoor.Print

end
section
namespace Go.Proofs.YtefheailchihaaaGreatDoor.Pure
open Go.RowKit Go.Proofs.YtefheailchihaaaGreatDoor.Print Go.Proofs.YtefheailchihaaaGreatDoorW.PrintWords Go.Proofs.YtefheailchihaaaGreatDoorW.PrintLast

theorem full_j {a b : Int} (h : wrap64 (Int.tmod (IntKind.u64.wrap a) 5) = wrap64 (Int.tmod (IntKind.u64.wrap b) 5)) : ∀ (k : Nat), (∀ x, cruciblelaw8_ManifestFull.j4 k a x = cruciblelaw8_ManifestFull.j4 k b x) ∧ (∀ x y z, cruciblelaw8_ManifestFull.l0 k a x y z = cruciblelaw8_ManifestFull.l0 k b x y z) ∧ (∀ x y, cruciblelaw8_ManifestFull.l1 k a x y = cruciblelaw8_ManifestFull.l1 k b x y) ∧ (∀ x y, cruciblelaw8_ManifestFull.l2 k a x y = cruciblelaw8_ManifestFull.l2 k b x y) ∧ (∀ x y, cruciblelaw8_ManifestFull.l3 k a x y = cruciblelaw8_ManifestFull.l3 k b x y)
  | 0 => ⟨fun _ => rfl, fun _ _ _ => rfl, fun _ _ => rfl, fun _ _ => rfl, fun _ _ => rfl⟩
  | k + 1 => by
    obtain ⟨h0, h1, h2, h3, h4⟩ := full_j h k
    refine ⟨fun x => ?_, fun x y z => ?_, fun x y => ?_, fun x y => ?_, fun x y => ?_⟩
    · unfold cruciblelaw8_ManifestFull.j4
      simp only [h]
    · unfold cruciblelaw8_ManifestFull.l0
      simp only [h0, h1]
    · unfold cruciblelaw8_ManifestFull.l1
      simp only [h0, h2]
    · unfold cruciblelaw8_ManifestFull.l2
      simp only [h0, h3]
    · unfold cruciblelaw8_ManifestFull.l3
      simp only [h0, h4]
theorem full_f {a b : Int} (h : wrap64 (Int.tmod (IntKind.u64.wrap a) 5) = wrap64 (Int.tmod (IntKind.u64.wrap b) 5)) (k : Nat) : cruciblelaw8_ManifestFull.f k a = cruciblelaw8_ManifestFull.f k b := by
  obtain ⟨h0, h1, h2, h3, h4⟩ := full_j h k
  unfold cruciblelaw8_ManifestFull.f
  rw [h]
  simp only [h0, h1, h2, h3, h4]
theorem full_all : ∀ n : Fin 5, cruciblelaw8_ManifestFull.f 200 ((n.val : Nat) : Int) = some true := by decide +kernel
theorem u64_wrap (n : Int) : IntKind.u64.wrap n = n % 18446744073709551616 := by
  first | exact IntKind.wrap_u64 n | (show (if IntKind.u64.signed = true ∧ _ then _ else _) = _; rw [if_neg (fun h => absurd h.1 (by decide))]; rfl)
theorem m5_val (a : Int) : ∃ n : Fin 5, wrap64 (Int.tmod (IntKind.u64.wrap a) 5) = wrap64 (Int.tmod (IntKind.u64.wrap ((n.val : Nat) : Int)) 5) := by
  have hu : ∀ n : Int, 0 ≤ IntKind.u64.wrap n := fun n => by rw [u64_wrap]; omega
  have h5 : IntKind.u64.wrap a = ((IntKind.u64.wrap a).toNat : Int) := by have := hu a; omega
  refine ⟨⟨(IntKind.u64.wrap a).toNat % 5, Nat.mod_lt _ (by decide)⟩, ?_⟩
  rw [u64_wrap ((((IntKind.u64.wrap a).toNat % 5 : Nat)) : Int), h5]
  rw [Int.tmod_eq_emod_of_nonneg (by omega), Int.tmod_eq_emod_of_nonneg (by omega)]
  congr 1
  simp only [Int.toNat_natCast]
  omega
theorem ManifestFull : cruciblelaw8_ManifestFull.Pure := fun a0 _ => by
  obtain ⟨n, hn⟩ := m5_val a0
  exact ⟨200, by rw [full_f hn]; exact full_all n⟩

end Go.Proofs.YtefheailchihaaaGreatDoor.Pure
namespace Go.Proofs.YtefheailchihaaaGreatDoor.Print
open Go.RowKit
theorem ManifestFull_walk (w : World) (a0 : Int) (h0 : (Lit.int .i64 a0).wf = true) : Calls Tryz.prog 5 #[.int .i64 a0] w fun e w' => e = .returned (.bool true) ∧ Below w.heap.size w w' := cruciblelaw8_ManifestFull.walk Pure.ManifestFull a0 w h0
end Go.Proofs.YtefheailchihaaaGreatDoor.Print

end
