/- YtefheailchihaaaGreatDoorSd11: out of this seat's texts (wip/tools/shake.py), what is needed alone. -/
import Derived.Test.YtefheailchihaaaGreatDoorSd10
section
namespace Go.Proofs.YtefheailchihaaaGreatDoor.Print
open Go.RowKit Go.Lib Go.Shelf Go.Proofs.YtefheailchihaaaGreatDoorW.PrintWords Go.Proofs.YtefheailchihaaaGreatDoorW.PrintLast Go.Proofs.YtefheailchihaaaGreatDoorW.PrintMore
set_option linter.unusedVariables false
set_option linter.unusedSimpArgs false
attribute [local go_sem ↓] Go.wp_at_zero Go.wp_at_succ

/-- What Parse answers: a graph's rows of its own, and what is wrong. -/
def Ans (w w' : World) (e : Ending) (r : List S42 × List S44 × List ByteArray × Int) : Prop := ∃ v0_ v1_ v2_ : Value, e = .returned (.tuple #[.agg #[v0_, v1_, v2_], .int .i64 r.2.2.2]) ∧
  Kd.R k42 42 w' w.heap.size (fun k_ => some k_ ≠ (v1_ : Value).ownBlock ∧ some k_ ≠ (v2_ : Value).ownBlock) v0_ r.1 ∧ Kd.R k44 44 w' w.heap.size (fun k_ => some k_ ≠ (v0_ : Value).ownBlock ∧ some k_ ≠ (v2_ : Value).ownBlock) v1_ r.2.1 ∧ Kd.R Kd.string 9 w' w.heap.size (fun k_ => some k_ ≠ (v0_ : Value).ownBlock ∧ some k_ ≠ (v1_ : Value).ownBlock) v2_ r.2.2.1 ∧ Below w.heap.size w w'
theorem ans_nil {w w' : World} {c : Int} (hb : Below w.heap.size w w') : Ans w w' (.returned (.tuple #[.agg #[.slice none 0 0, .slice none 0 0, .slice none 0 0], .int .i64 c])) ([], [], [], c) :=
  ⟨_, _, _, rfl, Kd.R_nil _ _ _ _ _, Kd.R_nil _ _ _ _ _, Kd.R_nil _ _ _ _ _, hb⟩

theorem linesGo_len : ∀ (k : Nat) (rs : List ByteArray) (out : List S59), (linesGo k rs out).1.length ≤ out.length + k
  | 0, rs, out => by cases rs <;> exact Nat.le_refl _
  | _ + 1, [], out => Nat.le_add_right _ _
  | k + 1, r :: rs, out => by
    unfold linesGo
    cases hj : joinGo r r rs with
    | none => exact Nat.zero_le _
    | some q =>
      have h1 := linesGo_len k q.2 (addLine out q.1)
      have h2 : (addLine out q.1).length ≤ out.length + 1 := by
        unfold addLine
        split
        · omega
        · rw [List.length_append, List.length_singleton]; omega
      simp only
      omega
theorem splitL_len : ∀ (l cur : List UInt8), (splitL cur l).length ≤ l.length + 1
  | [], cur => by simp [splitL]
  | c :: l, cur => by
    unfold splitL
    split
    · have := splitL_len l []
      simp only [List.length_cons]
      omega
    · have := splitL_len l (cur ++ [c])
      simp only [List.length_cons]
      omega
theorem lines_len (s : ByteArray) (hs : s.size ≤ 9223372036854775807) : (linesCut s).1.length ≤ 4096 := by
  unfold linesCut
  split
  · rename_i hm
    unfold mayB at hm
    simp only [Bool.and_eq_true, Bool.or_eq_true, decide_eq_true_eq] at hm
    have h1 := linesGo_len (rowsOf s).length (rowsOf s) []
    have h2 := splitL_len s.data.toList []
    have h3 : (rowsOf s).length ≤ (splitL [] s.data.toList).length := by unfold rowsOf; rw [List.length_map, List.length_dropLast]; omega
    have h4 := hm.1
    rw [Lib.size_eq] at h4
    simp only [List.length_nil] at h1
    omega
  · exact Nat.zero_le _
theorem parseGo_cons (x : S59) (l : List S59) (p : Pst) (o : Opn) : parseGo (x :: l) p o = if (lineR p o x.f0 x.f1).2.2 = 0 then parseGo l (lineR p o x.f0 x.f1).1 (lineR p o x.f0 x.f1).2.1 else lineR p o x.f0 x.f1 := rfl
theorem g_nil {w : World} {G : Nat} (h : w.heap[G]? = some (.cells #[.slice none 0 0, .slice none 0 0, .slice none 0 0] 26 (0, 0))) : (((w.setCell ⟨G, 0, none⟩ (.slice none 0 0)).setCell ⟨G, 1, none⟩ (.slice none 0 0)).setCell ⟨G, 2, none⟩ (.slice none 0 0)).heap[G]? = some (.cells #[.slice none 0 0, .slice none 0 0, .slice none 0 0] 26 (0, 0)) := blk_put (blk_put (blk_put h 0 _ rfl) 1 _ rfl) 2 _ rfl
theorem g_put {w : World} {G : Nat} {a b c : Value} (h : w.heap[G]? = some (.cells #[.slice none 0 0, .slice none 0 0, .slice none 0 0] 26 (0, 0))) : (((w.setCell ⟨G, 0, none⟩ a).setCell ⟨G, 1, none⟩ b).setCell ⟨G, 2, none⟩ c).heap[G]? = some (.cells #[a, b, c] 26 (0, 0)) := blk_put (blk_put (blk_put h 0 _ rfl) 1 _ rfl) 2 _ rfl
theorem g_below {w W : World} {a b c : Value} (h : Below w.heap.size w W) : Below w.heap.size w (((W.setCell ⟨w.heap.size, 0, none⟩ a).setCell ⟨w.heap.size, 1, none⟩ b).setCell ⟨w.heap.size, 2, none⟩ c) :=
  ((h.setCell (p := ⟨w.heap.size, 0, none⟩) (Nat.le_refl _) _).setCell (p := ⟨w.heap.size, 1, none⟩) (Nat.le_refl _) _).setCell (p := ⟨w.heap.size, 2, none⟩) (Nat.le_refl _) _
/-- A row is none of another's block, by types. -/
theorem R_not {α β : Type} {d : Kd α} {d' : Kd β} {e t base base' : Nat} {ok ok' : Nat → Prop} {w : World} {v v' : Value} {xs : List α} {ys : List β} (h : d.R e w base ok v xs) (h' : d'.R t w base' ok' v' ys) (ht : t ∉ e :: d.E) : d.R e w base (fun k => ok k ∧ some k ≠ v'.ownBlock) v xs :=
  Kd.R_mono (Kd.R_bound h) (fun k hk => ⟨hk.1, fun he => by
    obtain ⟨_, _, _, q, hq, cells, hc⟩ := hk
    obtain ⟨cells2, hc2⟩ := R_own_type h' he.symm
    rw [hc] at hc2
    simp only [Option.some.injEq, Obj.cells.injEq] at hc2
    exact ht (hc2.2.1 ▸ hq)⟩)

set_option maxHeartbeats 1000000 in
set_option maxRecDepth 100000 in
theorem parse_calls (s : ByteArray) (hs : s.size ≤ 9223372036854775807) (w : World) :
    Calls Tryz.prog 10 #[.string s] w fun e w' => Ans w w' e (parseB s) := by
  have hls := lines_size s
  have hln := lines_len s hs
  have HL := Lib.hid (lines_calls s hs (w.alloc (.cells #[.slice none 0 0, .slice none 0 0, .slice none 0 0] 26)))
  obtain ⟨Z, hZ⟩ : ∃ Z, parseB s = Z := ⟨_, rfl⟩
  have hZ2 := hZ
  rw [hZ]
  unfold parseB at hZ2
  obtain ⟨⟨ls, c⟩, hlc⟩ : ∃ q, linesCut s = q := ⟨_, rfl⟩
  rw [hlc] at hls hln HL hZ2
  simp only at hls hln HL hZ2
  have HZ := Lib.hid hZ2
  have HLS := Lib.hid hls
  clear hls hZ hZ2 hlc
  have HA := Aside0.mk ((Below.refl w.heap.size w).alloc (Nat.le_refl _) (.cells #[.slice none 0 0, .slice none 0 0, .slice none 0 0] 26))
  have HGa := Aside0.mk (blk_new w (.cells #[.slice none 0 0, .slice none 0 0, .slice none 0 0] 26))
  have hsz : (w.alloc (.cells #[.slice none 0 0, .slice none 0 0, .slice none 0 0] 26)).heap.size = w.heap.size + 1 := by simp
  by_cases h0 : c = 0
  · subst h0
    have hz := HZ.out
    rw [if_pos rfl] at hz
    have HZ1 := Lib.hid hz
    clear hz HZ
    go_enter Tryz.func10, Tryz.ntmps10
    go_upto_region 5 with (first | (go_at_call 18; refine HL.out.mono ?_; rintro x w1 ⟨vl, rfl, hl, hb⟩; obtain ⟨Al, cl, rfl⟩ := Kd.R_slice hl; have HG1 := Aside0.mk (blk_below HGa.out hb); have RL1 := Aside0.mk (Kd.R_reads' hl).2.2; have HB1 := Aside0.mk (HA.out.trans (hb.mono (by omega))); clear hl hb HGa HA))
    have hGB : w.heap.size < w1.heap.size := blk_lt HG1.out
    have hd := (Below.refl w1.heap.size w1).alloc (Nat.le_refl _) (.cells #[.slice none 0 0, .slice none 0 0, .slice none 0 0, .slice none 0 0, .slice none 0 0, .nilFunc, .nilFunc, .int .i64 0] 57)
    have HM2 : Aside0 (Mst (w1.alloc (.cells #[.slice none 0 0, .slice none 0 0, .slice none 0 0, .slice none 0 0, .slice none 0 0, .nilFunc, .nilFunc, .int .i64 0] 57)) w1.heap.size w1.heap.size pst0 .none 0) := ⟨⟨_, _, _, _, _, _, _, Nat.le_refl _, blk_new w1 _, ⟨Kd.R_nil _ _ _ _ _, Kd.R_nil _ _ _ _ _, Kd.R_nil _ _ _ _ _, Kd.R_nil _ _ _ _ _, Kd.R_nil _ _ _ _ _⟩, rfl, rfl⟩⟩
    have HB2 := Aside0.mk hd
    clear hd
    obtain ⟨B, hB⟩ : ∃ B, w1.heap.size = B := ⟨_, rfl⟩
    rw [hB] at HM2 HB2 hGB ⊢
    have hBG : B ≠ w.heap.size := by omega
    have HBB := Lib.hid hB
    clear hB
    generalize w1.alloc (.cells #[.slice none 0 0, .slice none 0 0, .slice none 0 0, .slice none 0 0, .slice none 0 0, .nilFunc, .nilFunc, .int .i64 0] 57) = w2 at HM2 HB2 ⊢
    go_wp2_with fail
    go_loopw [8, 21] (fun v8 v21 wr => ∃ (k : Nat) (p : Pst) (o : Opn), v21 = .int .i64 k ∧ k ≤ ls.length ∧ Aside0 (parseGo ls pst0 .none = parseGo (ls.drop k) p o) ∧ Aside0 (Inv p o) ∧ Aside0 (Mst wr B B p o 0) ∧ Aside0 (Below B w1 wr)) (fun v8 v21 _ => ls.length - (intOf v21).toNat)
    case atStart => exact ⟨0, pst0, .none, rfl, Nat.zero_le _, ⟨by rw [List.drop_zero]⟩, ⟨inv0⟩, ⟨HM2.out⟩, ⟨HB2.out⟩⟩
    case round =>
      obtain ⟨k, p, o, rfl, hk, HPG, HIV, HM, HB⟩ := hrel
      have hBw : B ≤ wr.heap.size := by
        have h1 := HB.out.size
        have h2 := HBB.out
        omega
      have HG := Aside0.mk ((HB.out.block _ hGB).trans HG1.out)
      by_cases hlt : k < ls.length
      · have RLr := Aside0.mk (Kd.C_below RL1.out (by rw [HBB.out]; exact HB.out))
        obtain ⟨ad, rfl, r0, r1⟩ := at_T59 RLr.out (k : Int) (by omega) (by omega)
        have hx := HLS.out _ (List.getElem_mem hlt)
        have hrd : rd_T59 ls (k : Int) = ls[k] := by simp [rd_T59, List.getD_eq_getElem?_getD, hlt]
        rw [hrd] at r0 r1
        simp only [Int.toNat_natCast] at r0 r1
        have hgo := HPG.out
        rw [List.drop_eq_getElem_cons hlt] at hgo
        rw [parseGo_cons] at hgo
        generalize ls[k] = x at *
        obtain ⟨xd, xt⟩ := x
        have HA3 := Aside0.mk ((Below.refl wr.heap.size wr).alloc (Nat.le_refl _) (.cells #[.bool xd, .string xt] 59))
        have HLC := Lib.hid (line_calls B B p o xd xt hx (wr.alloc (.cells #[.bool xd, .string xt] 59)) (Nat.le_trans hBw HA3.out.size) (Mst_below HM.out HA3.out) HIV.out)
        have hinv := inv_line (p := p) (o := o) (d := xd) hx HIV.out
        obtain ⟨⟨P', O', E'⟩, hL⟩ : ∃ q, lineR p o xd xt = q := ⟨_, rfl⟩
        rw [hL] at HLC hgo hinv
        simp only at HLC hgo hinv r0 r1
        have HINV := Lib.hid hinv
        clear hL hinv
        have CALL := HLC
        by_cases hE : E' = 0
        · subst hE
          rw [if_pos rfl] at hgo
          have HGO := Aside0.mk hgo
          clear hgo
          go_wp2_with (first | (go_at_call 19; refine HLC.out.mono ?_; rintro y w3 ⟨rfl, hm, hb⟩; have HM3 := Aside0.mk hm; have HB3 := Aside0.mk (HB.out.trans ((HA3.out.mono hBw).trans hb)); obtain ⟨_, _, _, _, _, _, _, _, hp3, _⟩ := hm; have q7 : w3.cell? ⟨B, 7, none⟩ = some (.int .i64 0) := blk_cell hp3 7; clear hp3 hb))
          exact ⟨⟨k + 1, P', O', by go_num, by omega, ⟨HGO.out⟩, ⟨HINV.out trivial⟩, ⟨HM3.out⟩, ⟨HB3.out⟩⟩, by simp [intOf]; omega⟩
        · rw [if_neg hE] at hgo
          have HGO := Aside0.mk hgo
          clear hgo
          have hEb : (E' != 0) = true := bne_iff_ne.2 hE
          go_upto_region 10 with (first | (go_at_call 19; refine HLC.out.mono ?_; rintro y w3 ⟨rfl, hm, hb⟩; have HB3 := Aside0.mk (HB.out.trans ((HA3.out.mono hBw).trans hb)); obtain ⟨_, _, _, _, _, _, _, _, hp3, _⟩ := hm; have HP3 := Aside0.mk hp3; have q7 : w3.cell? ⟨B, 7, none⟩ = some (.int .i64 E') := blk_cell hp3 7; clear hp3 hb))
          have HG3 := Aside0.mk ((HB3.out.block _ hGB).trans HG1.out)
          refine start_ (n := 7) (S := fun w' => w'.cell? ⟨B, 7, none⟩ = some (.int .i64 E')) (ds := []) #[false, false, false, false, false, false, false] (by kernel_rfl) rfl rfl (q7) (fun hHeld => ?_)
          have g0 := blk_cell HG3.out 0
          have g1 := blk_cell (HG3.out) 1
          have g2 := blk_cell (HG3.out) 2
          have f0 := blk_frozen (HG3.out) 0
          have f1 := blk_frozen (HG3.out) 1
          have f2 := blk_frozen (HG3.out) 2
          refine pure_ (i := 0) (N := some 33) (v := ?_) (a' := ?_) #[true, false, false, false, false, false, false] rfl rfl (by kernel_rfl) (fun _ _ _ h => h) (Or.inl ⟨by rfl, ?_⟩) ?_ ?_
          rotate_left
          · intro w'
            go_simp
            with_reducible rfl
          rotate_left
          · simp only [Act.put, List.setIfInBounds_toArray, List.set_cons_zero, List.set_cons_succ, i64_w, i32_w]
            rfl
          refine pure_ (i := 1) (N := some 34) (v := ?_) (a' := ?_) #[true, true, false, false, false, false, false] rfl rfl (by kernel_rfl) (fun _ _ _ h => h) (Or.inl ⟨by rfl, ?_⟩) ?_ ?_
          rotate_left
          · intro w'
            go_simp
            with_reducible rfl
          rotate_left
          · simp only [Act.put, List.setIfInBounds_toArray, List.set_cons_zero, List.set_cons_succ, i64_w, i32_w]
            rfl
          refine pure_ (i := 2) (N := some 35) (v := ?_) (a' := ?_) #[true, true, true, false, false, false, false] rfl rfl (by kernel_rfl) (fun _ _ _ h => h) (Or.inl ⟨by rfl, ?_⟩) ?_ ?_
          rotate_left
          · intro w'
            go_simp
            with_reducible rfl
          rotate_left
          · simp only [Act.put, List.setIfInBounds_toArray, List.set_cons_zero, List.set_cons_succ, i64_w, i32_w]
            rfl
          refine pure_ (i := 3) (N := some 36) (v := ?_) (a' := ?_) #[true, true, true, true, false, false, false] rfl rfl (by kernel_rfl) (fun _ _ _ h => h) (Or.inl ⟨by rfl, ?_⟩) ?_ ?_
          rotate_left
          · intro w'
            go_simp
            with_reducible rfl
          rotate_left
          · simp only [Act.put, List.setIfInBounds_toArray, List.set_cons_zero, List.set_cons_succ, i64_w, i32_w]
            rfl
          refine take_ (i := 4) (N := some 37) (v := ?_) (a' := ?_) #[true, true, true, true, true, false, false] rfl rfl (by kernel_rfl) (fun _ _ _ h => h) (Or.inl ⟨by rfl, ?_⟩) hHeld ?_ ?_
          rotate_left
          · intro w' s0
            go_simp
            with_reducible rfl
          rotate_left
          · simp only [Act.put, List.setIfInBounds_toArray, List.set_cons_zero, List.set_cons_succ, i64_w, i32_w]
            rfl
          refine one_ (i := 5) (N := none) #[true, true, true, true, true, true, false] rfl rfl (by kernel_rfl) (by decide) (fun K hK => ?_)
          refine skip_ (w1 := ?_) (by rfl) rfl ?_ ?_
          rotate_left
          · go_simp
            rfl
          refine hK.out _ _ (blk_cell (blk_far (blk_far (blk_far (blk_drew HP3.out) hBG _) hBG _) hBG _) 7) (fun hHeld => ?_)
          clear hK K
          refine pure_ (i := 6) (N := some 3) (v := ?_) (a' := ?_) #[true, true, true, true, true, true, true] rfl rfl (by kernel_rfl) (fun _ _ _ h => h) (Or.inl ⟨by rfl, ?_⟩) ?_ ?_
          rotate_left
          · intro w'
            go_simp
            with_reducible rfl
          rotate_left
          · simp only [Act.put, List.setIfInBounds_toArray, List.set_cons_zero, List.set_cons_succ, i64_w, i32_w]
            rfl
          refine done_ (by kernel_rfl) ?_
          have hz := HZ1.out
          rw [HGO.out] at hz
          unfold parseEnd at hz
          rw [if_neg hE] at hz
          subst hz
          go_wp2_with fail
          have HGN := blk_drew (g_nil HG3.out)
          have HBN := (g_below (a := .slice none 0 0) (b := .slice none 0 0) (c := .slice none 0 0) (HB1.out.trans (HB3.out.mono (Nat.le_of_lt hGB)))).drew
          generalize (((w3.setCell ⟨w.heap.size, 0, none⟩ (.slice none 0 0)).setCell ⟨w.heap.size, 1, none⟩ (.slice none 0 0)).setCell ⟨w.heap.size, 2, none⟩ (.slice none 0 0)).drew = w9 at HGN HBN ⊢
          have z0 := blk_cell HGN 0
          have z1 := blk_cell HGN 1
          have z2 := blk_cell HGN 2
          refine bodyPost_ret (v := .tuple #[.agg #[.slice none 0 0, .slice none 0 0, .slice none 0 0], .int .i64 E']) (by simp [results, Tryz.results10, go_sem, z0, z1, z2]) rfl ?_
          exact ans_nil HBN
      · obtain rfl : k = ls.length := by omega
        have hgo := HPG.out
        rw [List.drop_length] at hgo
        have hgo2 : parseGo ls pst0 .none = (p, o, 0) := hgo
        have hz := HZ1.out
        rw [hgo2] at hz
        unfold parseEnd at hz
        rw [if_pos rfl] at hz
        simp only at hz
        clear hgo hgo2
        have HEN := Lib.hid (end_calls B B p o 0 wr HM.out HIV.out w.heap.size 26 _ HG.out (by decide))
        obtain ⟨E', hE'⟩ : ∃ q, overE p o 0 = q := ⟨_, rfl⟩
        obtain ⟨P', hP'⟩ : ∃ q, overP p o = q := ⟨_, rfl⟩
        rw [hE', hP'] at HEN hz
        clear hE' hP'
        by_cases hE : E' = 0
        · subst hE
          rw [if_pos rfl] at hz
          have HZ2 := Lib.hid hz
          clear hz
          go_wp2_with (first | (go_at_call 20; refine HEN.out.mono ?_; rintro y w3 ⟨rfl, hm, hb, hq⟩; have HB3 := Aside0.mk (HB.out.trans hb); have HG3 := Aside0.mk hq; obtain ⟨vE, vP, vD, vO, vR, fd, fo, _, hp3, hr3, _⟩ := hm; obtain ⟨AE, cE, rfl⟩ := Kd.R_slice hr3.1; obtain ⟨AP, cP, rfl⟩ := Kd.R_slice hr3.2.1; obtain ⟨AD, cD, rfl⟩ := Kd.R_slice hr3.2.2.1; have HP3 := Aside0.mk hp3; have HR3 := Aside0.mk hr3; have q7 : w3.cell? ⟨B, 7, none⟩ = some (.int .i64 0) := blk_cell hp3 7; have q0 := blk_cell hp3 0; have q1 := blk_cell hp3 1; have q2 := blk_cell hp3 2; have g0 := blk_cell HG3.out 0; have g1 := blk_cell HG3.out 1; have g2 := blk_cell HG3.out 2; have f0 := blk_frozen HG3.out 0; have f1 := blk_frozen HG3.out 1; have f2 := blk_frozen HG3.out 2; clear hp3 hr3 hb hq))
          have hz2 := HZ2.out
          subst hz2
          have HGN := g_put (a := .slice AE P'.edges.length cE) (b := .slice AP P'.pools.length cP) (c := .slice AD P'.defs.length cD) HG3.out
          have HBN := g_below (a := .slice AE P'.edges.length cE) (b := .slice AP P'.pools.length cP) (c := .slice AD P'.defs.length cD) (HB1.out.trans (HB3.out.mono (Nat.le_of_lt hGB)))
          have hkk := Kept.then_ (Kept.then_ (kept_one w3 w.heap.size 0 (.slice AE P'.edges.length cE)) (kept_one _ w.heap.size 1 (.slice AP P'.pools.length cP)) (fun k hk => .inl hk)) (kept_one _ w.heap.size 2 (.slice AD P'.defs.length cD)) (fun k hk => .inl hk)
          have HRN := Rows_kept HR3.out hkk (apart_one HG3.out (by decide))
          clear hkk
          generalize ((w3.setCell ⟨w.heap.size, 0, none⟩ (.slice AE P'.edges.length cE)).setCell ⟨w.heap.size, 1, none⟩ (.slice AP P'.pools.length cP)).setCell ⟨w.heap.size, 2, none⟩ (.slice AD P'.defs.length cD) = w9 at HGN HBN HRN ⊢
          have z0 := blk_cell HGN 0
          have z1 := blk_cell HGN 1
          have z2 := blk_cell HGN 2
          refine bodyPost_ret (v := .tuple #[.agg #[.slice AE P'.edges.length cE, .slice AP P'.pools.length cP, .slice AD P'.defs.length cD], .int .i64 0]) (by simp [results, Tryz.results10, go_sem, z0, z1, z2]) rfl ?_
          obtain ⟨n1, n2, n3, _, _⟩ := HRN
          have hle := Nat.le_of_lt hGB
          exact ⟨_, _, _, rfl, Kd.R_lower (Kd.R_mono (R_not n1 n2 (by decide)) (fun k hk => ⟨hk.2, hk.1⟩)) hle, Kd.R_lower (Kd.R_mono (R_not (R_not n2 n1 (by decide)) n3 (by decide)) (fun k hk => ⟨hk.1.2, hk.2⟩)) hle, Kd.R_lower (Kd.R_mono (R_not (R_not n3 n1 (by decide)) n2 (by decide)) (fun k hk => ⟨hk.1.2, hk.2⟩)) hle, HBN⟩
        · rw [if_neg hE] at hz
          have HZ2 := Lib.hid hz
          clear hz
          have hEb : (E' != 0) = true := bne_iff_ne.2 hE
          go_upto_region 14 with (first | (go_at_call 20; refine HEN.out.mono ?_; rintro y w3 ⟨rfl, hm, hb, hq⟩; have HB3 := Aside0.mk (HB.out.trans hb); have HG3 := Aside0.mk hq; obtain ⟨_, _, _, _, _, _, _, _, hp3, _⟩ := hm; have HP3 := Aside0.mk hp3; have q7 : w3.cell? ⟨B, 7, none⟩ = some (.int .i64 E') := blk_cell hp3 7; clear hp3 hb hq))
          refine start_ (n := 7) (S := fun w' => w'.cell? ⟨B, 7, none⟩ = some (.int .i64 E')) (ds := []) #[false, false, false, false, false, false, false] (by kernel_rfl) rfl rfl (q7) (fun hHeld => ?_)
          have g0 := blk_cell HG3.out 0
          have g1 := blk_cell (HG3.out) 1
          have g2 := blk_cell (HG3.out) 2
          have f0 := blk_frozen (HG3.out) 0
          have f1 := blk_frozen (HG3.out) 1
          have f2 := blk_frozen (HG3.out) 2
          refine pure_ (i := 0) (N := some 46) (v := ?_) (a' := ?_) #[true, false, false, false, false, false, false] rfl rfl (by kernel_rfl) (fun _ _ _ h => h) (Or.inl ⟨by rfl, ?_⟩) ?_ ?_
          rotate_left
          · intro w'
            go_simp
            with_reducible rfl
          rotate_left
          · simp only [Act.put, List.setIfInBounds_toArray, List.set_cons_zero, List.set_cons_succ, i64_w, i32_w]
            rfl
          refine pure_ (i := 1) (N := some 47) (v := ?_) (a' := ?_) #[true, true, false, false, false, false, false] rfl rfl (by kernel_rfl) (fun _ _ _ h => h) (Or.inl ⟨by rfl, ?_⟩) ?_ ?_
          rotate_left
          · intro w'
            go_simp
            with_reducible rfl
          rotate_left
          · simp only [Act.put, List.setIfInBounds_toArray, List.set_cons_zero, List.set_cons_succ, i64_w, i32_w]
            rfl
          refine pure_ (i := 2) (N := some 48) (v := ?_) (a' := ?_) #[true, true, true, false, false, false, false] rfl rfl (by kernel_rfl) (fun _ _ _ h => h) (Or.inl ⟨by rfl, ?_⟩) ?_ ?_
          rotate_left
          · intro w'
            go_simp
            with_reducible rfl
          rotate_left
          · simp only [Act.put, List.setIfInBounds_toArray, List.set_cons_zero, List.set_cons_succ, i64_w, i32_w]
            rfl
          refine pure_ (i := 3) (N := some 49) (v := ?_) (a' := ?_) #[true, true, true, true, false, false, false] rfl rfl (by kernel_rfl) (fun _ _ _ h => h) (Or.inl ⟨by rfl, ?_⟩) ?_ ?_
          rotate_left
          · intro w'
            go_simp
            with_reducible rfl
          rotate_left
          · simp only [Act.put, List.setIfInBounds_toArray, List.set_cons_zero, List.set_cons_succ, i64_w, i32_w]
            rfl
          refine take_ (i := 4) (N := some 50) (v := ?_) (a' := ?_) #[true, true, true, true, true, false, false] rfl rfl (by kernel_rfl) (fun _ _ _ h => h) (Or.inl ⟨by rfl, ?_⟩) hHeld ?_ ?_
          rotate_left
          · intro w' s0
            go_simp
            with_reducible rfl
          rotate_left
          · simp only [Act.put, List.setIfInBounds_toArray, List.set_cons_zero, List.set_cons_succ, i64_w, i32_w]
            rfl
          refine one_ (i := 5) (N := none) #[true, true, true, true, true, true, false] rfl rfl (by kernel_rfl) (by decide) (fun K hK => ?_)
          refine skip_ (w1 := ?_) (by rfl) rfl ?_ ?_
          rotate_left
          · go_simp
            rfl
          refine hK.out _ _ (blk_cell (blk_far (blk_far (blk_far (blk_drew HP3.out) hBG _) hBG _) hBG _) 7) (fun hHeld => ?_)
          clear hK K
          refine pure_ (i := 6) (N := some 3) (v := ?_) (a' := ?_) #[true, true, true, true, true, true, true] rfl rfl (by kernel_rfl) (fun _ _ _ h => h) (Or.inl ⟨by rfl, ?_⟩) ?_ ?_
          rotate_left
          · intro w'
            go_simp
            with_reducible rfl
          rotate_left
          · simp only [Act.put, List.setIfInBounds_toArray, List.set_cons_zero, List.set_cons_succ, i64_w, i32_w]
            rfl
          refine done_ (by kernel_rfl) ?_
          have hz := HZ2.out
          subst hz
          go_wp2_with fail
          have HGN := blk_drew (g_nil HG3.out)
          have HBN := (g_below (a := .slice none 0 0) (b := .slice none 0 0) (c := .slice none 0 0) (HB1.out.trans (HB3.out.mono (Nat.le_of_lt hGB)))).drew
          generalize (((w3.setCell ⟨w.heap.size, 0, none⟩ (.slice none 0 0)).setCell ⟨w.heap.size, 1, none⟩ (.slice none 0 0)).setCell ⟨w.heap.size, 2, none⟩ (.slice none 0 0)).drew = w9 at HGN HBN ⊢
          have z0 := blk_cell HGN 0
          have z1 := blk_cell HGN 1
          have z2 := blk_cell HGN 2
          refine bodyPost_ret (v := .tuple #[.agg #[.slice none 0 0, .slice none 0 0, .slice none 0 0], .int .i64 E']) (by simp [results, Tryz.results10, go_sem, z0, z1, z2]) rfl ?_
          exact ans_nil HBN
  · have h0b : (c != 0) = true := bne_iff_ne.2 h0
    have hz := HZ.out
    rw [if_neg h0] at hz
    subst hz
    go_enter Tryz.func10, Tryz.ntmps10
    go_wp2_with (first | (go_at_call 18; refine HL.out.mono ?_; rintro x w1 ⟨vl, rfl, hl, hb⟩; obtain ⟨Al, cl, rfl⟩ := Kd.R_slice hl; have HG1 := Aside0.mk (blk_below HGa.out hb); have HB1 := Aside0.mk (HA.out.trans (hb.mono (by omega))); have g0 := blk_cell HG1.out 0; have g1 := blk_cell HG1.out 1; have g2 := blk_cell HG1.out 2; have f0 := blk_frozen HG1.out 0; have f1 := blk_frozen HG1.out 1; have f2 := blk_frozen HG1.out 2; clear hl hb))
    have HGN := g_nil HG1.out
    have HBN := g_below (a := .slice none 0 0) (b := .slice none 0 0) (c := .slice none 0 0) HB1.out
    generalize ((w1.setCell ⟨w.heap.size, 0, none⟩ (.slice none 0 0)).setCell ⟨w.heap.size, 1, none⟩ (.slice none 0 0)).setCell ⟨w.heap.size, 2, none⟩ (.slice none 0 0) = w9 at HGN HBN ⊢
    have z0 := blk_cell HGN 0
    have z1 := blk_cell HGN 1
    have z2 := blk_cell HGN 2
    refine bodyPost_ret (v := .tuple #[.agg #[.slice none 0 0, .slice none 0 0, .slice none 0 0], .int .i64 800]) (by simp [results, Tryz.results10, go_sem, z0, z1, z2]) rfl ?_
    exact ans_nil HBN

def manifest_Parse.f (a0 : ByteArray) : Option (List S42 × List S44 × List ByteArray × Int) := if a0.size ≤ 9223372036854775807 then some (parseB a0) else none
theorem manifest_Parse.calls (a0 : ByteArray) (r1 : List S42) (r2 : List S44) (r3 : List ByteArray) (r4 : Int) (w : World) (h : manifest_Parse.f a0 = some (r1, r2, r3, r4)) :
    Calls Tryz.prog 10 #[.string a0] w fun e w' => ∃ v0_ v1_ v2_ : Value, e = .returned (.tuple #[.agg #[v0_, v1_, v2_], .int .i64 r4]) ∧ Kd.R k42 42 w' w.heap.size (fun k_ => some k_ ≠ (v2_ : Value).ownBlock) v0_ r1 ∧ Kd.R k44 44 w' w.heap.size (fun _ => True) v1_ r2 ∧ Kd.R Kd.string 9 w' w.heap.size (fun _ => True) v2_ r3 ∧ Below w.heap.size w w' := by
  unfold manifest_Parse.f at h
  split at h
  · rename_i hs
    have h2 := Option.some.inj h
    have hc := parse_calls a0 hs w
    rw [h2] at hc
    refine hc.mono ?_
    rintro e w1 ⟨v0, v1, v2, he, n1, n2, n3, hb⟩
    exact ⟨v0, v1, v2, he, Kd.R_mono n1 (fun k hk => hk.2), Kd.R_mono n2 (fun k hk => trivial), Kd.R_mono n3 (fun k hk => trivial), hb⟩
  · cases h
end Go.Proofs.YtefheailchihaaaGreatDoor.Print

end
section
namespace Go.Proofs.YtefheailchihaaaGreatDoor.Print
open Go.RowKit Go.Lib Go.Shelf Go.Proofs.YtefheailchihaaaGreatDoorW.PrintWords Go.Proofs.YtefheailchihaaaGreatDoorW.PrintLast Go.Proofs.YtefheailchihaaaGreatDoorW.PrintMore
set_option linter.unusedVariables false
set_option linter.unusedSimpArgs false
attribute [local go_sem ↓] Go.wp_at_zero Go.wp_at_succ

def wantE : List S42 := [⟨[⟨#[97, 46, 111]⟩], [⟨#[97, 46, 99]⟩], [⟨#[97, 46, 104]⟩], [], ⟨#[99, 99, 32, 45, 111, 50, 32, 97, 46, 99, 32, 45, 111, 32, 97, 46, 111, 32, 45, 103]⟩, true, ⟨#[116, 119, 111]⟩⟩, ⟨[⟨#[98, 46, 111]⟩], [⟨#[98, 46, 99]⟩], [], [⟨#[97, 46, 111]⟩], ⟨#[99, 99, 32, 45, 111, 50, 32, 98, 46, 99, 32, 45, 111, 32, 98, 46, 111, 32]⟩, true, ⟨#[116, 119, 111]⟩⟩]
def wantP : List S44 := [⟨⟨#[116, 119, 111]⟩, 2⟩]
def wantD : List ByteArray := [⟨#[98, 46, 111]⟩]
def badR : ByteArray := ⟨#[114, 117, 108, 101, 32, 99, 99, 10]⟩
def badB : ByteArray := ⟨#[98, 117, 105, 108, 100, 32, 97, 32, 58, 32, 99, 99, 32, 98, 10]⟩
theorem parse_text : parseB textB = (wantE, wantP, wantD, 0) := by kernel_rfl
theorem parse_badR : parseB badR = ([], [], [], 800) := by kernel_rfl
theorem parse_badB : parseB badB = ([], [], [], 800) := by kernel_rfl
theorem same_want : cruciblelaw0_SameGraph.f 100 wantE wantP wantD wantE wantP wantD = some true := by kernel_rfl

/-- Rows of one and of two, as they lie. -/
theorem C_one {α : Type} {d : Kd α} {w : World} {g t : Nat} {cells : Array Value} {x : α} {cs : List Value} (h : w.heap[g]? = some (.cells cells t (0, 0))) (hK : d.K w x cs) (hc : cells.toList = cs) : d.C w (some ⟨g, 0, none⟩) 1 [x] := by
  refine ⟨rfl, by omega, fun _ => ⟨_, rfl, fun j p hj => ?_⟩⟩
  cases j with
  | zero =>
    simp only [List.getElem?_cons_zero, Option.some.injEq] at hj
    subst hj
    refine ⟨cs, d.K_len hK, hK, fun i u hi => ?_⟩
    have h1 := blk_cell h i
    have h2 : (⟨g, 0, none⟩ : Addr).add (0 * d.sz + i) = ⟨g, i, none⟩ := by simp [Addr.add]; try omega
    rw [h2, h1, ← hi, ← hc, Array.getElem?_toList]
  | succ j => simp at hj
theorem C_two {α : Type} {d : Kd α} {w : World} {g t : Nat} {cells : Array Value} {x y : α} {c1 c2 : List Value} (h : w.heap[g]? = some (.cells cells t (0, 0))) (hK1 : d.K w x c1) (hK2 : d.K w y c2) (hc : cells.toList = c1 ++ c2) : d.C w (some ⟨g, 0, none⟩) 2 [x, y] := by
  refine ⟨rfl, by omega, fun _ => ⟨_, rfl, fun j p hj => ?_⟩⟩
  have l1 := d.K_len hK1
  have l2 := d.K_len hK2
  match j, hj with
  | 0, hj =>
    simp only [List.getElem?_cons_zero, Option.some.injEq] at hj
    subst hj
    refine ⟨c1, l1, hK1, fun i u hi => ?_⟩
    have h1 := blk_cell h i
    have h2 : (⟨g, 0, none⟩ : Addr).add (0 * d.sz + i) = ⟨g, i, none⟩ := by simp [Addr.add]; try omega
    have h3 : i < c1.length := (List.getElem?_eq_some_iff.1 hi).1
    rw [h2, h1, ← Array.getElem?_toList, hc, List.getElem?_append_left h3]
    exact hi
  | 1, hj =>
    simp only [List.getElem?_cons_succ, List.getElem?_cons_zero, Option.some.injEq] at hj
    subst hj
    refine ⟨c2, l2, hK2, fun i u hi => ?_⟩
    have h1 := blk_cell h (d.sz + i)
    have h2 : (⟨g, 0, none⟩ : Addr).add (1 * d.sz + i) = ⟨g, d.sz + i, none⟩ := by simp [Addr.add]; try omega
    rw [h2, h1, ← Array.getElem?_toList, hc, List.getElem?_append_right (by omega)]
    rw [show d.sz + i - c1.length = i from by omega]
    exact hi
  | j + 2, hj => simp at hj

set_option maxHeartbeats 4000000 in
set_option maxRecDepth 100000 in
theorem awake_calls (w : World) : Calls Tryz.prog 15 #[] w fun e w' => e = .returned (.bool true) ∧ Below w.heap.size w w' := by
  have HT := Lib.hid (fun W => cruciblelaw8_text.calls textB W rfl)
  have H1 := Lib.hid (fun W => manifest_Parse.calls textB wantE wantP wantD 0 W (by unfold manifest_Parse.f; rw [if_pos (by decide), parse_text]))
  have H2 := Lib.hid (fun W => manifest_Parse.calls badR [] [] [] 800 W (by unfold manifest_Parse.f; rw [if_pos (by decide), parse_badR]))
  have H3 := Lib.hid (fun W => manifest_Parse.calls badB [] [] [] 800 W (by unfold manifest_Parse.f; rw [if_pos (by decide), parse_badB]))
  obtain ⟨T, hT⟩ : ∃ T, textB = T := ⟨_, rfl⟩
  obtain ⟨wE, hE⟩ : ∃ q, wantE = q := ⟨_, rfl⟩
  obtain ⟨wP, hP⟩ : ∃ q, wantP = q := ⟨_, rfl⟩
  obtain ⟨wD, hD⟩ : ∃ q, wantD = q := ⟨_, rfl⟩
  rw [hT] at HT H1
  rw [hE, hP, hD] at H1
  have HE := Lib.hid hE
  have HP := Lib.hid hP
  have HD := Lib.hid hD
  clear hT hE hP hD
  go_enter Tryz.func15, Tryz.ntmps15
  go_upto_region 5 with (first | (go_at_call 16; refine (HT.out _).mono ?_; rintro x w1 ⟨rfl, hd⟩; have HB1 := Aside0.mk hd.below; clear hd) | (go_at_call_of 10 (Value.string T); refine (H1.out _).mono ?_; rintro x w2 ⟨v0, v1, v2, rfl, r0, r1, r2, hb⟩; obtain ⟨A0, c0, rfl, l0, C0⟩ := Kd.R_reads r0; obtain ⟨A1, c1, rfl, l1, C1⟩ := Kd.R_reads r1; obtain ⟨A2, c2, rfl, l2, C2⟩ := Kd.R_reads r2; have HB2 := Aside0.mk (HB1.out.trans (hb.mono HB1.out.size)); have HC0 := Aside0.mk C0; have HC1 := Aside0.mk C1; have HC2 := Aside0.mk C2; clear r0 r1 r2 C0 C1 C2 hb) | (go_at_call_of 10 (Value.string ⟨#[114, 117, 108, 101, 32, 99, 99, 10]⟩); refine (H2.out _).mono ?_; rintro x w3 ⟨u0, u1, u2, rfl, r0, r1, r2, hb⟩; obtain ⟨D0, d0, rfl⟩ := Kd.R_slice r0; obtain ⟨D1, d1, rfl⟩ := Kd.R_slice r1; obtain ⟨D2, d2, rfl⟩ := Kd.R_slice r2; have hal := (Below.refl w2.heap.size w2).alloc (Nat.le_refl _) (.cells #[.slice A0 wE.length c0, .slice A1 wP.length c1, .slice A2 wD.length c2] 26); have HB3 := Aside0.mk (HB2.out.trans ((hal.mono HB2.out.size).trans (hb.mono (Nat.le_trans HB2.out.size hal.size)))); have BT3 := Aside0.mk (blk_below (blk_new w2 (.cells #[.slice A0 wE.length c0, .slice A1 wP.length c1, .slice A2 wD.length c2] 26)) hb); have HC03 := Aside0.mk (Kd.C_below (Kd.C_below HC0.out hal) hb); have HC13 := Aside0.mk (Kd.C_below (Kd.C_below HC1.out hal) hb); have HC23 := Aside0.mk (Kd.C_below (Kd.C_below HC2.out hal) hb); clear r0 r1 r2 hal hb HC0 HC1 HC2) | (go_at_call_of 10 (Value.string ⟨#[98, 117, 105, 108, 100, 32, 97, 32, 58, 32, 99, 99, 32, 98, 10]⟩); refine (H3.out _).mono ?_; rintro x w4 ⟨u0, u1, u2, rfl, r0, r1, r2, hb⟩; obtain ⟨F0, f0, rfl⟩ := Kd.R_slice r0; obtain ⟨F1, f1, rfl⟩ := Kd.R_slice r1; obtain ⟨F2, f2, rfl⟩ := Kd.R_slice r2; have hal := (Below.refl w3.heap.size w3).alloc (Nat.le_refl _) (.cells #[.slice D0 0 d0, .slice D1 0 d1, .slice D2 0 d2] 26); have HB4 := Aside0.mk (HB3.out.trans ((hal.mono HB3.out.size).trans (hb.mono (Nat.le_trans HB3.out.size hal.size)))); have BT4 := Aside0.mk (blk_below (blk_below BT3.out hal) hb); have HC04 := Aside0.mk (Kd.C_below (Kd.C_below HC03.out hal) hb); have HC14 := Aside0.mk (Kd.C_below (Kd.C_below HC13.out hal) hb); have HC24 := Aside0.mk (Kd.C_below (Kd.C_below HC23.out hal) hb); clear r0 r1 r2 hal hb HC03 HC13 HC23 BT3))
  obtain ⟨b, hb⟩ : ∃ b, w4.heap.size = b := ⟨_, rfl⟩
  rw [hb]
  have hb4 : w4.heap.size = b := hb
  have k0 : Aside0 ((w4.alloc (.cells #[.slice F0 0 f0, .slice F1 0 f1, .slice F2 0 f2] 26)).heap[b]? = some (.cells #[.slice F0 0 f0, .slice F1 0 f1, .slice F2 0 f2] 26)) := ⟨by have := blk_new w4 (.cells #[.slice F0 0 f0, .slice F1 0 f1, .slice F2 0 f2] 26); rwa [hb] at this⟩
  have s0 : (w4.alloc (.cells #[.slice F0 0 f0, .slice F1 0 f1, .slice F2 0 f2] 26)).heap.size = b + 1 := by simp [hb]
  replace HB4 := Aside0.mk (below_alloc HB4.out (.cells #[.slice F0 0 f0, .slice F1 0 f1, .slice F2 0 f2] 26))
  replace BT4 := Aside0.mk (blk_alloc BT4.out (.cells #[.slice F0 0 f0, .slice F1 0 f1, .slice F2 0 f2] 26))
  replace HC04 := Aside0.mk (Kd.C_alloc HC04.out (.cells #[.slice F0 0 f0, .slice F1 0 f1, .slice F2 0 f2] 26))
  replace HC14 := Aside0.mk (Kd.C_alloc HC14.out (.cells #[.slice F0 0 f0, .slice F1 0 f1, .slice F2 0 f2] 26))
  replace HC24 := Aside0.mk (Kd.C_alloc HC24.out (.cells #[.slice F0 0 f0, .slice F1 0 f1, .slice F2 0 f2] 26))
  clear k0
  generalize w4.alloc (.cells #[.slice F0 0 f0, .slice F1 0 f1, .slice F2 0 f2] 26) = u0 at s0 HB4 BT4 HC04 HC14 HC24 ⊢
  have k1 : Aside0 ((u0.alloc (.cells #[.string ⟨#[97, 46, 111]⟩] 9)).heap[b + 1]? = some (.cells #[.string ⟨#[97, 46, 111]⟩] 9)) := ⟨by have := blk_new u0 (.cells #[.string ⟨#[97, 46, 111]⟩] 9); rwa [s0] at this⟩
  have s1 : (u0.alloc (.cells #[.string ⟨#[97, 46, 111]⟩] 9)).heap.size = b + 1 + 1 := by simp [s0]
  replace HB4 := Aside0.mk (below_alloc HB4.out (.cells #[.string ⟨#[97, 46, 111]⟩] 9))
  replace BT4 := Aside0.mk (blk_alloc BT4.out (.cells #[.string ⟨#[97, 46, 111]⟩] 9))
  replace HC04 := Aside0.mk (Kd.C_alloc HC04.out (.cells #[.string ⟨#[97, 46, 111]⟩] 9))
  replace HC14 := Aside0.mk (Kd.C_alloc HC14.out (.cells #[.string ⟨#[97, 46, 111]⟩] 9))
  replace HC24 := Aside0.mk (Kd.C_alloc HC24.out (.cells #[.string ⟨#[97, 46, 111]⟩] 9))
  generalize u0.alloc (.cells #[.string ⟨#[97, 46, 111]⟩] 9) = u1 at k1 s1 HB4 BT4 HC04 HC14 HC24 ⊢
  have k2 : Aside0 ((u1.alloc (.cells #[.string ⟨#[97, 46, 99]⟩] 9)).heap[b + 1 + 1]? = some (.cells #[.string ⟨#[97, 46, 99]⟩] 9)) := ⟨by have := blk_new u1 (.cells #[.string ⟨#[97, 46, 99]⟩] 9); rwa [s1] at this⟩
  have s2 : (u1.alloc (.cells #[.string ⟨#[97, 46, 99]⟩] 9)).heap.size = b + 1 + 1 + 1 := by simp [s1]
  replace k1 := Aside0.mk (blk_alloc k1.out (.cells #[.string ⟨#[97, 46, 99]⟩] 9))
  replace HB4 := Aside0.mk (below_alloc HB4.out (.cells #[.string ⟨#[97, 46, 99]⟩] 9))
  replace BT4 := Aside0.mk (blk_alloc BT4.out (.cells #[.string ⟨#[97, 46, 99]⟩] 9))
  replace HC04 := Aside0.mk (Kd.C_alloc HC04.out (.cells #[.string ⟨#[97, 46, 99]⟩] 9))
  replace HC14 := Aside0.mk (Kd.C_alloc HC14.out (.cells #[.string ⟨#[97, 46, 99]⟩] 9))
  replace HC24 := Aside0.mk (Kd.C_alloc HC24.out (.cells #[.string ⟨#[97, 46, 99]⟩] 9))
  generalize u1.alloc (.cells #[.string ⟨#[97, 46, 99]⟩] 9) = u2 at k1 k2 s2 HB4 BT4 HC04 HC14 HC24 ⊢
  have k3 : Aside0 ((u2.alloc (.cells #[.string ⟨#[97, 46, 104]⟩] 9)).heap[b + 1 + 1 + 1]? = some (.cells #[.string ⟨#[97, 46, 104]⟩] 9)) := ⟨by have := blk_new u2 (.cells #[.string ⟨#[97, 46, 104]⟩] 9); rwa [s2] at this⟩
  have s3 : (u2.alloc (.cells #[.string ⟨#[97, 46, 104]⟩] 9)).heap.size = b + 1 + 1 + 1 + 1 := by simp [s2]
  replace k1 := Aside0.mk (blk_alloc k1.out (.cells #[.string ⟨#[97, 46, 104]⟩] 9))
  replace k2 := Aside0.mk (blk_alloc k2.out (.cells #[.string ⟨#[97, 46, 104]⟩] 9))
  replace HB4 := Aside0.mk (below_alloc HB4.out (.cells #[.string ⟨#[97, 46, 104]⟩] 9))
  replace BT4 := Aside0.mk (blk_alloc BT4.out (.cells #[.string ⟨#[97, 46, 104]⟩] 9))
  replace HC04 := Aside0.mk (Kd.C_alloc HC04.out (.cells #[.string ⟨#[97, 46, 104]⟩] 9))
  replace HC14 := Aside0.mk (Kd.C_alloc HC14.out (.cells #[.string ⟨#[97, 46, 104]⟩] 9))
  replace HC24 := Aside0.mk (Kd.C_alloc HC24.out (.cells #[.string ⟨#[97, 46, 104]⟩] 9))
  generalize u2.alloc (.cells #[.string ⟨#[97, 46, 104]⟩] 9) = u3 at k1 k2 k3 s3 HB4 BT4 HC04 HC14 HC24 ⊢
  have k4 : Aside0 ((u3.alloc (.cells #[.string ⟨#[98, 46, 111]⟩] 9)).heap[b + 1 + 1 + 1 + 1]? = some (.cells #[.string ⟨#[98, 46, 111]⟩] 9)) := ⟨by have := blk_new u3 (.cells #[.string ⟨#[98, 46, 111]⟩] 9); rwa [s3] at this⟩
  have s4 : (u3.alloc (.cells #[.string ⟨#[98, 46, 111]⟩] 9)).heap.size = b + 1 + 1 + 1 + 1 + 1 := by simp [s3]
  replace k1 := Aside0.mk (blk_alloc k1.out (.cells #[.string ⟨#[98, 46, 111]⟩] 9))
  replace k2 := Aside0.mk (blk_alloc k2.out (.cells #[.string ⟨#[98, 46, 111]⟩] 9))
  replace k3 := Aside0.mk (blk_alloc k3.out (.cells #[.string ⟨#[98, 46, 111]⟩] 9))
  replace HB4 := Aside0.mk (below_alloc HB4.out (.cells #[.string ⟨#[98, 46, 111]⟩] 9))
  replace BT4 := Aside0.mk (blk_alloc BT4.out (.cells #[.string ⟨#[98, 46, 111]⟩] 9))
  replace HC04 := Aside0.mk (Kd.C_alloc HC04.out (.cells #[.string ⟨#[98, 46, 111]⟩] 9))
  replace HC14 := Aside0.mk (Kd.C_alloc HC14.out (.cells #[.string ⟨#[98, 46, 111]⟩] 9))
  replace HC24 := Aside0.mk (Kd.C_alloc HC24.out (.cells #[.string ⟨#[98, 46, 111]⟩] 9))
  generalize u3.alloc (.cells #[.string ⟨#[98, 46, 111]⟩] 9) = u4 at k1 k2 k3 k4 s4 HB4 BT4 HC04 HC14 HC24 ⊢
  have k5 : Aside0 ((u4.alloc (.cells #[.string ⟨#[98, 46, 99]⟩] 9)).heap[b + 1 + 1 + 1 + 1 + 1]? = some (.cells #[.string ⟨#[98, 46, 99]⟩] 9)) := ⟨by have := blk_new u4 (.cells #[.string ⟨#[98, 46, 99]⟩] 9); rwa [s4] at this⟩
  have s5 : (u4.alloc (.cells #[.string ⟨#[98, 46, 99]⟩] 9)).heap.size = b + 1 + 1 + 1 + 1 + 1 + 1 := by simp [s4]
  replace k1 := Aside0.mk (blk_alloc k1.out (.cells #[.string ⟨#[98, 46, 99]⟩] 9))
  replace k2 := Aside0.mk (blk_alloc k2.out (.cells #[.string ⟨#[98, 46, 99]⟩] 9))
  replace k3 := Aside0.mk (blk_alloc k3.out (.cells #[.string ⟨#[98, 46, 99]⟩] 9))
  replace k4 := Aside0.mk (blk_alloc k4.out (.cells #[.string ⟨#[98, 46, 99]⟩] 9))
  replace HB4 := Aside0.mk (below_alloc HB4.out (.cells #[.string ⟨#[98, 46, 99]⟩] 9))
  replace BT4 := Aside0.mk (blk_alloc BT4.out (.cells #[.string ⟨#[98, 46, 99]⟩] 9))
  replace HC04 := Aside0.mk (Kd.C_alloc HC04.out (.cells #[.string ⟨#[98, 46, 99]⟩] 9))
  replace HC14 := Aside0.mk (Kd.C_alloc HC14.out (.cells #[.string ⟨#[98, 46, 99]⟩] 9))
  replace HC24 := Aside0.mk (Kd.C_alloc HC24.out (.cells #[.string ⟨#[98, 46, 99]⟩] 9))
  generalize u4.alloc (.cells #[.string ⟨#[98, 46, 99]⟩] 9) = u5 at k1 k2 k3 k4 k5 s5 HB4 BT4 HC04 HC14 HC24 ⊢
  have k6 : Aside0 ((u5.alloc (.cells #[.string ⟨#[97, 46, 111]⟩] 9)).heap[b + 1 + 1 + 1 + 1 + 1 + 1]? = some (.cells #[.string ⟨#[97, 46, 111]⟩] 9)) := ⟨by have := blk_new u5 (.cells #[.string ⟨#[97, 46, 111]⟩] 9); rwa [s5] at this⟩
  have s6 : (u5.alloc (.cells #[.string ⟨#[97, 46, 111]⟩] 9)).heap.size = b + 1 + 1 + 1 + 1 + 1 + 1 + 1 := by simp [s5]
  replace k1 := Aside0.mk (blk_alloc k1.out (.cells #[.string ⟨#[97, 46, 111]⟩] 9))
  replace k2 := Aside0.mk (blk_alloc k2.out (.cells #[.string ⟨#[97, 46, 111]⟩] 9))
  replace k3 := Aside0.mk (blk_alloc k3.out (.cells #[.string ⟨#[97, 46, 111]⟩] 9))
  replace k4 := Aside0.mk (blk_alloc k4.out (.cells #[.string ⟨#[97, 46, 111]⟩] 9))
  replace k5 := Aside0.mk (blk_alloc k5.out (.cells #[.string ⟨#[97, 46, 111]⟩] 9))
  replace HB4 := Aside0.mk (below_alloc HB4.out (.cells #[.string ⟨#[97, 46, 111]⟩] 9))
  replace BT4 := Aside0.mk (blk_alloc BT4.out (.cells #[.string ⟨#[97, 46, 111]⟩] 9))
  replace HC04 := Aside0.mk (Kd.C_alloc HC04.out (.cells #[.string ⟨#[97, 46, 111]⟩] 9))
  replace HC14 := Aside0.mk (Kd.C_alloc HC14.out (.cells #[.string ⟨#[97, 46, 111]⟩] 9))
  replace HC24 := Aside0.mk (Kd.C_alloc HC24.out (.cells #[.string ⟨#[97, 46, 111]⟩] 9))
  generalize u5.alloc (.cells #[.string ⟨#[97, 46, 111]⟩] 9) = u6 at k1 k2 k3 k4 k5 k6 s6 HB4 BT4 HC04 HC14 HC24 ⊢
  have k7 : Aside0 ((u6.alloc (.cells #[.slice (some ⟨b + 1, 0, none⟩) 1 1, .slice (some ⟨b + 1 + 1, 0, none⟩) 1 1, .slice (some ⟨b + 1 + 1 + 1, 0, none⟩) 1 1, .slice none 0 0, .string ⟨#[99, 99, 32, 45, 111, 50, 32, 97, 46, 99, 32, 45, 111, 32, 97, 46, 111, 32, 45, 103]⟩, .bool true, .string ⟨#[116, 119, 111]⟩, .slice (some ⟨b + 1 + 1 + 1 + 1, 0, none⟩) 1 1, .slice (some ⟨b + 1 + 1 + 1 + 1 + 1, 0, none⟩) 1 1, .slice none 0 0, .slice (some ⟨b + 1 + 1 + 1 + 1 + 1 + 1, 0, none⟩) 1 1, .string ⟨#[99, 99, 32, 45, 111, 50, 32, 98, 46, 99, 32, 45, 111, 32, 98, 46, 111, 32]⟩, .bool true, .string ⟨#[116, 119, 111]⟩] 42)).heap[b + 1 + 1 + 1 + 1 + 1 + 1 + 1]? = some (.cells #[.slice (some ⟨b + 1, 0, none⟩) 1 1, .slice (some ⟨b + 1 + 1, 0, none⟩) 1 1, .slice (some ⟨b + 1 + 1 + 1, 0, none⟩) 1 1, .slice none 0 0, .string ⟨#[99, 99, 32, 45, 111, 50, 32, 97, 46, 99, 32, 45, 111, 32, 97, 46, 111, 32, 45, 103]⟩, .bool true, .string ⟨#[116, 119, 111]⟩, .slice (some ⟨b + 1 + 1 + 1 + 1, 0, none⟩) 1 1, .slice (some ⟨b + 1 + 1 + 1 + 1 + 1, 0, none⟩) 1 1, .slice none 0 0, .slice (some ⟨b + 1 + 1 + 1 + 1 + 1 + 1, 0, none⟩) 1 1, .string ⟨#[99, 99, 32, 45, 111, 50, 32, 98, 46, 99, 32, 45, 111, 32, 98, 46, 111, 32]⟩, .bool true, .string ⟨#[116, 119, 111]⟩] 42)) := ⟨by have := blk_new u6 (.cells #[.slice (some ⟨b + 1, 0, none⟩) 1 1, .slice (some ⟨b + 1 + 1, 0, none⟩) 1 1, .slice (some ⟨b + 1 + 1 + 1, 0, none⟩) 1 1, .slice none 0 0, .string ⟨#[99, 99, 32, 45, 111, 50, 32, 97, 46, 99, 32, 45, 111, 32, 97, 46, 111, 32, 45, 103]⟩, .bool true, .string ⟨#[116, 119, 111]⟩, .slice (some ⟨b + 1 + 1 + 1 + 1, 0, none⟩) 1 1, .slice (some ⟨b + 1 + 1 + 1 + 1 + 1, 0, none⟩) 1 1, .slice none 0 0, .slice (some ⟨b + 1 + 1 + 1 + 1 + 1 + 1, 0, none⟩) 1 1, .string ⟨#[99, 99, 32, 45, 111, 50, 32, 98, 46, 99, 32, 45, 111, 32, 98, 46, 111, 32]⟩, .bool true, .string ⟨#[116, 119, 111]⟩] 42); rwa [s6] at this⟩
  have s7 : (u6.alloc (.cells #[.slice (some ⟨b + 1, 0, none⟩) 1 1, .slice (some ⟨b + 1 + 1, 0, none⟩) 1 1, .slice (some ⟨b + 1 + 1 + 1, 0, none⟩) 1 1, .slice none 0 0, .string ⟨#[99, 99, 32, 45, 111, 50, 32, 97, 46, 99, 32, 45, 111, 32, 97, 46, 111, 32, 45, 103]⟩, .bool true, .string ⟨#[116, 119, 111]⟩, .slice (some ⟨b + 1 + 1 + 1 + 1, 0, none⟩) 1 1, .slice (some ⟨b + 1 + 1 + 1 + 1 + 1, 0, none⟩) 1 1, .slice none 0 0, .slice (some ⟨b + 1 + 1 + 1 + 1 + 1 + 1, 0, none⟩) 1 1, .string ⟨#[99, 99, 32, 45, 111, 50, 32, 98, 46, 99, 32, 45, 111, 32, 98, 46, 111, 32]⟩, .bool true, .string ⟨#[116, 119, 111]⟩] 42)).heap.size = b + 1 + 1 + 1 + 1 + 1 + 1 + 1 + 1 := by simp [s6]
  replace k1 := Aside0.mk (blk_alloc k1.out (.cells #[.slice (some ⟨b + 1, 0, none⟩) 1 1, .slice (some ⟨b + 1 + 1, 0, none⟩) 1 1, .slice (some ⟨b + 1 + 1 + 1, 0, none⟩) 1 1, .slice none 0 0, .string ⟨#[99, 99, 32, 45, 111, 50, 32, 97, 46, 99, 32, 45, 111, 32, 97, 46, 111, 32, 45, 103]⟩, .bool true, .string ⟨#[116, 119, 111]⟩, .slice (some ⟨b + 1 + 1 + 1 + 1, 0, none⟩) 1 1, .slice (some ⟨b + 1 + 1 + 1 + 1 + 1, 0, none⟩) 1 1, .slice none 0 0, .slice (some ⟨b + 1 + 1 + 1 + 1 + 1 + 1, 0, none⟩) 1 1, .string ⟨#[99, 99, 32, 45, 111, 50, 32, 98, 46, 99, 32, 45, 111, 32, 98, 46, 111, 32]⟩, .bool true, .string ⟨#[116, 119, 111]⟩] 42))
  replace k2 := Aside0.mk (blk_alloc k2.out (.cells #[.slice (some ⟨b + 1, 0, none⟩) 1 1, .slice (some ⟨b + 1 + 1, 0, none⟩) 1 1, .slice (some ⟨b + 1 + 1 + 1, 0, none⟩) 1 1, .slice none 0 0, .string ⟨#[99, 99, 32, 45, 111, 50, 32, 97, 46, 99, 32, 45, 111, 32, 97, 46, 111, 32, 45, 103]⟩, .bool true, .string ⟨#[116, 119, 111]⟩, .slice (some ⟨b + 1 + 1 + 1 + 1, 0, none⟩) 1 1, .slice (some ⟨b + 1 + 1 + 1 + 1 + 1, 0, none⟩) 1 1, .slice none 0 0, .slice (some ⟨b + 1 + 1 + 1 + 1 + 1 + 1, 0, none⟩) 1 1, .string ⟨#[99, 99, 32, 45, 111, 50, 32, 98, 46, 99, 32, 45, 111, 32, 98, 46, 111, 32]⟩, .bool true, .string ⟨#[116, 119, 111]⟩] 42))
  replace k3 := Aside0.mk (blk_alloc k3.out (.cells #[.slice (some ⟨b + 1, 0, none⟩) 1 1, .slice (some ⟨b + 1 + 1, 0, none⟩) 1 1, .slice (some ⟨b + 1 + 1 + 1, 0, none⟩) 1 1, .slice none 0 0, .string ⟨#[99, 99, 32, 45, 111, 50, 32, 97, 46, 99, 32, 45, 111, 32, 97, 46, 111, 32, 45, 103]⟩, .bool true, .string ⟨#[116, 119, 111]⟩, .slice (some ⟨b + 1 + 1 + 1 + 1, 0, none⟩) 1 1, .slice (some ⟨b + 1 + 1 + 1 + 1 + 1, 0, none⟩) 1 1, .slice none 0 0, .slice (some ⟨b + 1 + 1 + 1 + 1 + 1 + 1, 0, none⟩) 1 1, .string ⟨#[99, 99, 32, 45, 111, 50, 32, 98, 46, 99, 32, 45, 111, 32, 98, 46, 111, 32]⟩, .bool true, .string ⟨#[116, 119, 111]⟩] 42))
  replace k4 := Aside0.mk (blk_alloc k4.out (.cells #[.slice (some ⟨b + 1, 0, none⟩) 1 1, .slice (some ⟨b + 1 + 1, 0, none⟩) 1 1, .slice (some ⟨b + 1 + 1 + 1, 0, none⟩) 1 1, .slice none 0 0, .string ⟨#[99, 99, 32, 45, 111, 50, 32, 97, 46, 99, 32, 45, 111, 32, 97, 46, 111, 32, 45, 103]⟩, .bool true, .string ⟨#[116, 119, 111]⟩, .slice (some ⟨b + 1 + 1 + 1 + 1, 0, none⟩) 1 1, .slice (some ⟨b + 1 + 1 + 1 + 1 + 1, 0, none⟩) 1 1, .slice none 0 0, .slice (some ⟨b + 1 + 1 + 1 + 1 + 1 + 1, 0, none⟩) 1 1, .string ⟨#[99, 99, 32, 45, 111, 50, 32, 98, 46, 99, 32, 45, 111, 32, 98, 46, 111, 32]⟩, .bool true, .string ⟨#[116, 119, 111]⟩] 42))
  replace k5 := Aside0.mk (blk_alloc k5.out (.cells #[.slice (some ⟨b + 1, 0, none⟩) 1 1, .slice (some ⟨b + 1 + 1, 0, none⟩) 1 1, .slice (some ⟨b + 1 + 1 + 1, 0, none⟩) 1 1, .slice none 0 0, .string ⟨#[99, 99, 32, 45, 111, 50, 32, 97, 46, 99, 32, 45, 111, 32, 97, 46, 111, 32, 45, 103]⟩, .bool true, .string ⟨#[116, 119, 111]⟩, .slice (some ⟨b + 1 + 1 + 1 + 1, 0, none⟩) 1 1, .slice (some ⟨b + 1 + 1 + 1 + 1 + 1, 0, none⟩) 1 1, .slice none 0 0, .slice (some ⟨b + 1 + 1 + 1 + 1 + 1 + 1, 0, none⟩) 1 1, .string ⟨#[99, 99, 32, 45, 111, 50, 32, 98, 46, 99, 32, 45, 111, 32, 98, 46, 111, 32]⟩, .bool true, .string ⟨#[116, 119, 111]⟩] 42))
  replace k6 := Aside0.mk (blk_alloc k6.out (.cells #[.slice (some ⟨b + 1, 0, none⟩) 1 1, .slice (some ⟨b + 1 + 1, 0, none⟩) 1 1, .slice (some ⟨b + 1 + 1 + 1, 0, none⟩) 1 1, .slice none 0 0, .string ⟨#[99, 99, 32, 45, 111, 50, 32, 97, 46, 99, 32, 45, 111, 32, 97, 46, 111, 32, 45, 103]⟩, .bool true, .string ⟨#[116, 119, 111]⟩, .slice (some ⟨b + 1 + 1 + 1 + 1, 0, none⟩) 1 1, .slice (some ⟨b + 1 + 1 + 1 + 1 + 1, 0, none⟩) 1 1, .slice none 0 0, .slice (some ⟨b + 1 + 1 + 1 + 1 + 1 + 1, 0, none⟩) 1 1, .string ⟨#[99, 99, 32, 45, 111, 50, 32, 98, 46, 99, 32, 45, 111, 32, 98, 46, 111, 32]⟩, .bool true, .string ⟨#[116, 119, 111]⟩] 42))
  replace HB4 := Aside0.mk (below_alloc HB4.out (.cells #[.slice (some ⟨b + 1, 0, none⟩) 1 1, .slice (some ⟨b + 1 + 1, 0, none⟩) 1 1, .slice (some ⟨b + 1 + 1 + 1, 0, none⟩) 1 1, .slice none 0 0, .string ⟨#[99, 99, 32, 45, 111, 50, 32, 97, 46, 99, 32, 45, 111, 32, 97, 46, 111, 32, 45, 103]⟩, .bool true, .string ⟨#[116, 119, 111]⟩, .slice (some ⟨b + 1 + 1 + 1 + 1, 0, none⟩) 1 1, .slice (some ⟨b + 1 + 1 + 1 + 1 + 1, 0, none⟩) 1 1, .slice none 0 0, .slice (some ⟨b + 1 + 1 + 1 + 1 + 1 + 1, 0, none⟩) 1 1, .string ⟨#[99, 99, 32, 45, 111, 50, 32, 98, 46, 99, 32, 45, 111, 32, 98, 46, 111, 32]⟩, .bool true, .string ⟨#[116, 119, 111]⟩] 42))
  replace BT4 := Aside0.mk (blk_alloc BT4.out (.cells #[.slice (some ⟨b + 1, 0, none⟩) 1 1, .slice (some ⟨b + 1 + 1, 0, none⟩) 1 1, .slice (some ⟨b + 1 + 1 + 1, 0, none⟩) 1 1, .slice none 0 0, .string ⟨#[99, 99, 32, 45, 111, 50, 32, 97, 46, 99, 32, 45, 111, 32, 97, 46, 111, 32, 45, 103]⟩, .bool true, .string ⟨#[116, 119, 111]⟩, .slice (some ⟨b + 1 + 1 + 1 + 1, 0, none⟩) 1 1, .slice (some ⟨b + 1 + 1 + 1 + 1 + 1, 0, none⟩) 1 1, .slice none 0 0, .slice (some ⟨b + 1 + 1 + 1 + 1 + 1 + 1, 0, none⟩) 1 1, .string ⟨#[99, 99, 32, 45, 111, 50, 32, 98, 46, 99, 32, 45, 111, 32, 98, 46, 111, 32]⟩, .bool true, .string ⟨#[116, 119, 111]⟩] 42))
  replace HC04 := Aside0.mk (Kd.C_alloc HC04.out (.cells #[.slice (some ⟨b + 1, 0, none⟩) 1 1, .slice (some ⟨b + 1 + 1, 0, none⟩) 1 1, .slice (some ⟨b + 1 + 1 + 1, 0, none⟩) 1 1, .slice none 0 0, .string ⟨#[99, 99, 32, 45, 111, 50, 32, 97, 46, 99, 32, 45, 111, 32, 97, 46, 111, 32, 45, 103]⟩, .bool true, .string ⟨#[116, 119, 111]⟩, .slice (some ⟨b + 1 + 1 + 1 + 1, 0, none⟩) 1 1, .slice (some ⟨b + 1 + 1 + 1 + 1 + 1, 0, none⟩) 1 1, .slice none 0 0, .slice (some ⟨b + 1 + 1 + 1 + 1 + 1 + 1, 0, none⟩) 1 1, .string ⟨#[99, 99, 32, 45, 111, 50, 32, 98, 46, 99, 32, 45, 111, 32, 98, 46, 111, 32]⟩, .bool true, .string ⟨#[116, 119, 111]⟩] 42))
  replace HC14 := Aside0.mk (Kd.C_alloc HC14.out (.cells #[.slice (some ⟨b + 1, 0, none⟩) 1 1, .slice (some ⟨b + 1 + 1, 0, none⟩) 1 1, .slice (some ⟨b + 1 + 1 + 1, 0, none⟩) 1 1, .slice none 0 0, .string ⟨#[99, 99, 32, 45, 111, 50, 32, 97, 46, 99, 32, 45, 111, 32, 97, 46, 111, 32, 45, 103]⟩, .bool true, .string ⟨#[116, 119, 111]⟩, .slice (some ⟨b + 1 + 1 + 1 + 1, 0, none⟩) 1 1, .slice (some ⟨b + 1 + 1 + 1 + 1 + 1, 0, none⟩) 1 1, .slice none 0 0, .slice (some ⟨b + 1 + 1 + 1 + 1 + 1 + 1, 0, none⟩) 1 1, .string ⟨#[99, 99, 32, 45, 111, 50, 32, 98, 46, 99, 32, 45, 111, 32, 98, 46, 111, 32]⟩, .bool true, .string ⟨#[116, 119, 111]⟩] 42))
  replace HC24 := Aside0.mk (Kd.C_alloc HC24.out (.cells #[.slice (some ⟨b + 1, 0, none⟩) 1 1, .slice (some ⟨b + 1 + 1, 0, none⟩) 1 1, .slice (some ⟨b + 1 + 1 + 1, 0, none⟩) 1 1, .slice none 0 0, .string ⟨#[99, 99, 32, 45, 111, 50, 32, 97, 46, 99, 32, 45, 111, 32, 97, 46, 111, 32, 45, 103]⟩, .bool true, .string ⟨#[116, 119, 111]⟩, .slice (some ⟨b + 1 + 1 + 1 + 1, 0, none⟩) 1 1, .slice (some ⟨b + 1 + 1 + 1 + 1 + 1, 0, none⟩) 1 1, .slice none 0 0, .slice (some ⟨b + 1 + 1 + 1 + 1 + 1 + 1, 0, none⟩) 1 1, .string ⟨#[99, 99, 32, 45, 111, 50, 32, 98, 46, 99, 32, 45, 111, 32, 98, 46, 111, 32]⟩, .bool true, .string ⟨#[116, 119, 111]⟩] 42))
  generalize u6.alloc (.cells #[.slice (some ⟨b + 1, 0, none⟩) 1 1, .slice (some ⟨b + 1 + 1, 0, none⟩) 1 1, .slice (some ⟨b + 1 + 1 + 1, 0, none⟩) 1 1, .slice none 0 0, .string ⟨#[99, 99, 32, 45, 111, 50, 32, 97, 46, 99, 32, 45, 111, 32, 97, 46, 111, 32, 45, 103]⟩, .bool true, .string ⟨#[116, 119, 111]⟩, .slice (some ⟨b + 1 + 1 + 1 + 1, 0, none⟩) 1 1, .slice (some ⟨b + 1 + 1 + 1 + 1 + 1, 0, none⟩) 1 1, .slice none 0 0, .slice (some ⟨b + 1 + 1 + 1 + 1 + 1 + 1, 0, none⟩) 1 1, .string ⟨#[99, 99, 32, 45, 111, 50, 32, 98, 46, 99, 32, 45, 111, 32, 98, 46, 111, 32]⟩, .bool true, .string ⟨#[116, 119, 111]⟩] 42) = u7 at k1 k2 k3 k4 k5 k6 k7 s7 HB4 BT4 HC04 HC14 HC24 ⊢
  have k8 : Aside0 ((u7.alloc (.cells #[.string ⟨#[116, 119, 111]⟩, .int .i64 2] 44)).heap[b + 1 + 1 + 1 + 1 + 1 + 1 + 1 + 1]? = some (.cells #[.string ⟨#[116, 119, 111]⟩, .int .i64 2] 44)) := ⟨by have := blk_new u7 (.cells #[.string ⟨#[116, 119, 111]⟩, .int .i64 2] 44); rwa [s7] at this⟩
  have s8 : (u7.alloc (.cells #[.string ⟨#[116, 119, 111]⟩, .int .i64 2] 44)).heap.size = b + 1 + 1 + 1 + 1 + 1 + 1 + 1 + 1 + 1 := by simp [s7]
  replace k1 := Aside0.mk (blk_alloc k1.out (.cells #[.string ⟨#[116, 119, 111]⟩, .int .i64 2] 44))
  replace k2 := Aside0.mk (blk_alloc k2.out (.cells #[.string ⟨#[116, 119, 111]⟩, .int .i64 2] 44))
  replace k3 := Aside0.mk (blk_alloc k3.out (.cells #[.string ⟨#[116, 119, 111]⟩, .int .i64 2] 44))
  replace k4 := Aside0.mk (blk_alloc k4.out (.cells #[.string ⟨#[116, 119, 111]⟩, .int .i64 2] 44))
  replace k5 := Aside0.mk (blk_alloc k5.out (.cells #[.string ⟨#[116, 119, 111]⟩, .int .i64 2] 44))
  replace k6 := Aside0.mk (blk_alloc k6.out (.cells #[.string ⟨#[116, 119, 111]⟩, .int .i64 2] 44))
  replace k7 := Aside0.mk (blk_alloc k7.out (.cells #[.string ⟨#[116, 119, 111]⟩, .int .i64 2] 44))
  replace HB4 := Aside0.mk (below_alloc HB4.out (.cells #[.string ⟨#[116, 119, 111]⟩, .int .i64 2] 44))
  replace BT4 := Aside0.mk (blk_alloc BT4.out (.cells #[.string ⟨#[116, 119, 111]⟩, .int .i64 2] 44))
  replace HC04 := Aside0.mk (Kd.C_alloc HC04.out (.cells #[.string ⟨#[116, 119, 111]⟩, .int .i64 2] 44))
  replace HC14 := Aside0.mk (Kd.C_alloc HC14.out (.cells #[.string ⟨#[116, 119, 111]⟩, .int .i64 2] 44))
  replace HC24 := Aside0.mk (Kd.C_alloc HC24.out (.cells #[.string ⟨#[116, 119, 111]⟩, .int .i64 2] 44))
  generalize u7.alloc (.cells #[.string ⟨#[116, 119, 111]⟩, .int .i64 2] 44) = u8 at k1 k2 k3 k4 k5 k6 k7 k8 s8 HB4 BT4 HC04 HC14 HC24 ⊢
  have k9 : Aside0 ((u8.alloc (.cells #[.string ⟨#[98, 46, 111]⟩] 9)).heap[b + 1 + 1 + 1 + 1 + 1 + 1 + 1 + 1 + 1]? = some (.cells #[.string ⟨#[98, 46, 111]⟩] 9)) := ⟨by have := blk_new u8 (.cells #[.string ⟨#[98, 46, 111]⟩] 9); rwa [s8] at this⟩
  have s9 : (u8.alloc (.cells #[.string ⟨#[98, 46, 111]⟩] 9)).heap.size = b + 1 + 1 + 1 + 1 + 1 + 1 + 1 + 1 + 1 + 1 := by simp [s8]
  replace k1 := Aside0.mk (blk_alloc k1.out (.cells #[.string ⟨#[98, 46, 111]⟩] 9))
  replace k2 := Aside0.mk (blk_alloc k2.out (.cells #[.string ⟨#[98, 46, 111]⟩] 9))
  replace k3 := Aside0.mk (blk_alloc k3.out (.cells #[.string ⟨#[98, 46, 111]⟩] 9))
  replace k4 := Aside0.mk (blk_alloc k4.out (.cells #[.string ⟨#[98, 46, 111]⟩] 9))
  replace k5 := Aside0.mk (blk_alloc k5.out (.cells #[.string ⟨#[98, 46, 111]⟩] 9))
  replace k6 := Aside0.mk (blk_alloc k6.out (.cells #[.string ⟨#[98, 46, 111]⟩] 9))
  replace k7 := Aside0.mk (blk_alloc k7.out (.cells #[.string ⟨#[98, 46, 111]⟩] 9))
  replace k8 := Aside0.mk (blk_alloc k8.out (.cells #[.string ⟨#[98, 46, 111]⟩] 9))
  replace HB4 := Aside0.mk (below_alloc HB4.out (.cells #[.string ⟨#[98, 46, 111]⟩] 9))
  replace BT4 := Aside0.mk (blk_alloc BT4.out (.cells #[.string ⟨#[98, 46, 111]⟩] 9))
  replace HC04 := Aside0.mk (Kd.C_alloc HC04.out (.cells #[.string ⟨#[98, 46, 111]⟩] 9))
  replace HC14 := Aside0.mk (Kd.C_alloc HC14.out (.cells #[.string ⟨#[98, 46, 111]⟩] 9))
  replace HC24 := Aside0.mk (Kd.C_alloc HC24.out (.cells #[.string ⟨#[98, 46, 111]⟩] 9))
  generalize u8.alloc (.cells #[.string ⟨#[98, 46, 111]⟩] 9) = u9 at k1 k2 k3 k4 k5 k6 k7 k8 k9 s9 HB4 BT4 HC04 HC14 HC24 ⊢
  have k10 : Aside0 ((u9.alloc (.cells #[.slice (some ⟨b + 1 + 1 + 1 + 1 + 1 + 1 + 1, 0, none⟩) 2 2, .slice (some ⟨b + 1 + 1 + 1 + 1 + 1 + 1 + 1 + 1, 0, none⟩) 1 1, .slice (some ⟨b + 1 + 1 + 1 + 1 + 1 + 1 + 1 + 1 + 1, 0, none⟩) 1 1] 26)).heap[b + 1 + 1 + 1 + 1 + 1 + 1 + 1 + 1 + 1 + 1]? = some (.cells #[.slice (some ⟨b + 1 + 1 + 1 + 1 + 1 + 1 + 1, 0, none⟩) 2 2, .slice (some ⟨b + 1 + 1 + 1 + 1 + 1 + 1 + 1 + 1, 0, none⟩) 1 1, .slice (some ⟨b + 1 + 1 + 1 + 1 + 1 + 1 + 1 + 1 + 1, 0, none⟩) 1 1] 26)) := ⟨by have := blk_new u9 (.cells #[.slice (some ⟨b + 1 + 1 + 1 + 1 + 1 + 1 + 1, 0, none⟩) 2 2, .slice (some ⟨b + 1 + 1 + 1 + 1 + 1 + 1 + 1 + 1, 0, none⟩) 1 1, .slice (some ⟨b + 1 + 1 + 1 + 1 + 1 + 1 + 1 + 1 + 1, 0, none⟩) 1 1] 26); rwa [s9] at this⟩
  have s10 : (u9.alloc (.cells #[.slice (some ⟨b + 1 + 1 + 1 + 1 + 1 + 1 + 1, 0, none⟩) 2 2, .slice (some ⟨b + 1 + 1 + 1 + 1 + 1 + 1 + 1 + 1, 0, none⟩) 1 1, .slice (some ⟨b + 1 + 1 + 1 + 1 + 1 + 1 + 1 + 1 + 1, 0, none⟩) 1 1] 26)).heap.size = b + 1 + 1 + 1 + 1 + 1 + 1 + 1 + 1 + 1 + 1 + 1 := by simp [s9]
  replace k1 := Aside0.mk (blk_alloc k1.out (.cells #[.slice (some ⟨b + 1 + 1 + 1 + 1 + 1 + 1 + 1, 0, none⟩) 2 2, .slice (some ⟨b + 1 + 1 + 1 + 1 + 1 + 1 + 1 + 1, 0, none⟩) 1 1, .slice (some ⟨b + 1 + 1 + 1 + 1 + 1 + 1 + 1 + 1 + 1, 0, none⟩) 1 1] 26))
  replace k2 := Aside0.mk (blk_alloc k2.out (.cells #[.slice (some ⟨b + 1 + 1 + 1 + 1 + 1 + 1 + 1, 0, none⟩) 2 2, .slice (some ⟨b + 1 + 1 + 1 + 1 + 1 + 1 + 1 + 1, 0, none⟩) 1 1, .slice (some ⟨b + 1 + 1 + 1 + 1 + 1 + 1 + 1 + 1 + 1, 0, none⟩) 1 1] 26))
  replace k3 := Aside0.mk (blk_alloc k3.out (.cells #[.slice (some ⟨b + 1 + 1 + 1 + 1 + 1 + 1 + 1, 0, none⟩) 2 2, .slice (some ⟨b + 1 + 1 + 1 + 1 + 1 + 1 + 1 + 1, 0, none⟩) 1 1, .slice (some ⟨b + 1 + 1 + 1 + 1 + 1 + 1 + 1 + 1 + 1, 0, none⟩) 1 1] 26))
  replace k4 := Aside0.mk (blk_alloc k4.out (.cells #[.slice (some ⟨b + 1 + 1 + 1 + 1 + 1 + 1 + 1, 0, none⟩) 2 2, .slice (some ⟨b + 1 + 1 + 1 + 1 + 1 + 1 + 1 + 1, 0, none⟩) 1 1, .slice (some ⟨b + 1 + 1 + 1 + 1 + 1 + 1 + 1 + 1 + 1, 0, none⟩) 1 1] 26))
  replace k5 := Aside0.mk (blk_alloc k5.out (.cells #[.slice (some ⟨b + 1 + 1 + 1 + 1 + 1 + 1 + 1, 0, none⟩) 2 2, .slice (some ⟨b + 1 + 1 + 1 + 1 + 1 + 1 + 1 + 1, 0, none⟩) 1 1, .slice (some ⟨b + 1 + 1 + 1 + 1 + 1 + 1 + 1 + 1 + 1, 0, none⟩) 1 1] 26))
  replace k6 := Aside0.mk (blk_alloc k6.out (.cells #[.slice (some ⟨b + 1 + 1 + 1 + 1 + 1 + 1 + 1, 0, none⟩) 2 2, .slice (some ⟨b + 1 + 1 + 1 + 1 + 1 + 1 + 1 + 1, 0, none⟩) 1 1, .slice (some ⟨b + 1 + 1 + 1 + 1 + 1 + 1 + 1 + 1 + 1, 0, none⟩) 1 1] 26))
  replace k7 := Aside0.mk (blk_alloc k7.out (.cells #[.slice (some ⟨b + 1 + 1 + 1 + 1 + 1 + 1 + 1, 0, none⟩) 2 2, .slice (some ⟨b + 1 + 1 + 1 + 1 + 1 + 1 + 1 + 1, 0, none⟩) 1 1, .slice (some ⟨b + 1 + 1 + 1 + 1 + 1 + 1 + 1 + 1 + 1, 0, none⟩) 1 1] 26))
  replace k8 := Aside0.mk (blk_alloc k8.out (.cells #[.slice (some ⟨b + 1 + 1 + 1 + 1 + 1 + 1 + 1, 0, none⟩) 2 2, .slice (some ⟨b + 1 + 1 + 1 + 1 + 1 + 1 + 1 + 1, 0, none⟩) 1 1, .slice (some ⟨b + 1 + 1 + 1 + 1 + 1 + 1 + 1 + 1 + 1, 0, none⟩) 1 1] 26))
  replace k9 := Aside0.mk (blk_alloc k9.out (.cells #[.slice (some ⟨b + 1 + 1 + 1 + 1 + 1 + 1 + 1, 0, none⟩) 2 2, .slice (some ⟨b + 1 + 1 + 1 + 1 + 1 + 1 + 1 + 1, 0, none⟩) 1 1, .slice (some ⟨b + 1 + 1 + 1 + 1 + 1 + 1 + 1 + 1 + 1, 0, none⟩) 1 1] 26))
  replace HB4 := Aside0.mk (below_alloc HB4.out (.cells #[.slice (some ⟨b + 1 + 1 + 1 + 1 + 1 + 1 + 1, 0, none⟩) 2 2, .slice (some ⟨b + 1 + 1 + 1 + 1 + 1 + 1 + 1 + 1, 0, none⟩) 1 1, .slice (some ⟨b + 1 + 1 + 1 + 1 + 1 + 1 + 1 + 1 + 1, 0, none⟩) 1 1] 26))
  replace BT4 := Aside0.mk (blk_alloc BT4.out (.cells #[.slice (some ⟨b + 1 + 1 + 1 + 1 + 1 + 1 + 1, 0, none⟩) 2 2, .slice (some ⟨b + 1 + 1 + 1 + 1 + 1 + 1 + 1 + 1, 0, none⟩) 1 1, .slice (some ⟨b + 1 + 1 + 1 + 1 + 1 + 1 + 1 + 1 + 1, 0, none⟩) 1 1] 26))
  replace HC04 := Aside0.mk (Kd.C_alloc HC04.out (.cells #[.slice (some ⟨b + 1 + 1 + 1 + 1 + 1 + 1 + 1, 0, none⟩) 2 2, .slice (some ⟨b + 1 + 1 + 1 + 1 + 1 + 1 + 1 + 1, 0, none⟩) 1 1, .slice (some ⟨b + 1 + 1 + 1 + 1 + 1 + 1 + 1 + 1 + 1, 0, none⟩) 1 1] 26))
  replace HC14 := Aside0.mk (Kd.C_alloc HC14.out (.cells #[.slice (some ⟨b + 1 + 1 + 1 + 1 + 1 + 1 + 1, 0, none⟩) 2 2, .slice (some ⟨b + 1 + 1 + 1 + 1 + 1 + 1 + 1 + 1, 0, none⟩) 1 1, .slice (some ⟨b + 1 + 1 + 1 + 1 + 1 + 1 + 1 + 1 + 1, 0, none⟩) 1 1] 26))
  replace HC24 := Aside0.mk (Kd.C_alloc HC24.out (.cells #[.slice (some ⟨b + 1 + 1 + 1 + 1 + 1 + 1 + 1, 0, none⟩) 2 2, .slice (some ⟨b + 1 + 1 + 1 + 1 + 1 + 1 + 1 + 1, 0, none⟩) 1 1, .slice (some ⟨b + 1 + 1 + 1 + 1 + 1 + 1 + 1 + 1 + 1, 0, none⟩) 1 1] 26))
  generalize u9.alloc (.cells #[.slice (some ⟨b + 1 + 1 + 1 + 1 + 1 + 1 + 1, 0, none⟩) 2 2, .slice (some ⟨b + 1 + 1 + 1 + 1 + 1 + 1 + 1 + 1, 0, none⟩) 1 1, .slice (some ⟨b + 1 + 1 + 1 + 1 + 1 + 1 + 1 + 1 + 1, 0, none⟩) 1 1] 26) = u10 at k1 k2 k3 k4 k5 k6 k7 k8 k9 k10 s10 HB4 BT4 HC04 HC14 HC24 ⊢
  have p1 : Kd.string.C u10 (some ⟨b + 1, 0, none⟩) 1 [⟨#[97, 46, 111]⟩] := C_one k1.out rfl rfl
  have p2 : Kd.string.C u10 (some ⟨b + 1 + 1, 0, none⟩) 1 [⟨#[97, 46, 99]⟩] := C_one k2.out rfl rfl
  have p3 : Kd.string.C u10 (some ⟨b + 1 + 1 + 1, 0, none⟩) 1 [⟨#[97, 46, 104]⟩] := C_one k3.out rfl rfl
  have p4 : Kd.string.C u10 (some ⟨b + 1 + 1 + 1 + 1, 0, none⟩) 1 [⟨#[98, 46, 111]⟩] := C_one k4.out rfl rfl
  have p5 : Kd.string.C u10 (some ⟨b + 1 + 1 + 1 + 1 + 1, 0, none⟩) 1 [⟨#[98, 46, 99]⟩] := C_one k5.out rfl rfl
  have p6 : Kd.string.C u10 (some ⟨b + 1 + 1 + 1 + 1 + 1 + 1, 0, none⟩) 1 [⟨#[97, 46, 111]⟩] := C_one k6.out rfl rfl
  have p0 : Kd.string.C u10 none 0 [] := ⟨rfl, by omega, fun h => absurd h (by decide)⟩
  have PE : Kd.C k42 u10 (some ⟨b + 1 + 1 + 1 + 1 + 1 + 1 + 1, 0, none⟩) wantE.length wantE := C_two k7.out (k42_mk u10 wantE[0] (A0 := some ⟨b + 1, 0, none⟩) (c0 := 1) (by decide) p1 (A1 := some ⟨b + 1 + 1, 0, none⟩) (c1 := 1) (by decide) p2 (A2 := some ⟨b + 1 + 1 + 1, 0, none⟩) (c2 := 1) (by decide) p3 (A3 := none) (c3 := 0) (by decide) p0) (k42_mk u10 wantE[1] (A0 := some ⟨b + 1 + 1 + 1 + 1, 0, none⟩) (c0 := 1) (by decide) p4 (A1 := some ⟨b + 1 + 1 + 1 + 1 + 1, 0, none⟩) (c1 := 1) (by decide) p5 (A2 := none) (c2 := 0) (by decide) p0 (A3 := some ⟨b + 1 + 1 + 1 + 1 + 1 + 1, 0, none⟩) (c3 := 1) (by decide) p6) rfl
  have PP : Kd.C k44 u10 (some ⟨b + 1 + 1 + 1 + 1 + 1 + 1 + 1 + 1, 0, none⟩) wantP.length wantP := C_one k8.out (k44_mk u10 wantP[0]) rfl
  have PD : Kd.C Kd.string u10 (some ⟨b + 1 + 1 + 1 + 1 + 1 + 1 + 1 + 1 + 1, 0, none⟩) wantD.length wantD := C_one k9.out rfl rfl
  have hsame : cruciblelaw0_SameGraph.f 100 wE wP wD wantE wantP wantD = some true := by rw [← HE.out, ← HP.out, ← HD.out]; exact same_want
  have HSG := Lib.hid (cruciblelaw0_SameGraph.calls 100 A0 c0 wE A1 c1 wP A2 c2 wD (some ⟨b + 1 + 1 + 1 + 1 + 1 + 1 + 1, 0, none⟩) 2 wantE (some ⟨b + 1 + 1 + 1 + 1 + 1 + 1 + 1 + 1, 0, none⟩) 1 wantP (some ⟨b + 1 + 1 + 1 + 1 + 1 + 1 + 1 + 1 + 1, 0, none⟩) 1 wantD true u10 HC04.out l0 HC14.out l1 HC24.out l2 PE (by decide) PP (by decide) PD (by decide) hsame)
  have z0 := blk_cell BT4.out 0
  have z1 := blk_cell BT4.out 1
  have z2 := blk_cell BT4.out 2
  have y0 := blk_cell k10.out 0
  have y1 := blk_cell k10.out 1
  have y2 := blk_cell k10.out 2
  clear p0 p1 p2 p3 p4 p5 p6 PE PP PD k1 k2 k3 k4 k5 k6 k7 k8 k9 k10 BT4 HC04 HC14 HC24 hsame
  go_wp2_with (first | (go_at_call 12; refine HSG.out.mono ?_; rintro x w5 ⟨rfl, hb5⟩; have HB5 := Aside0.mk (HB4.out.trans (hb5.mono HB4.out.size)); clear hb5) | (go_at_call 13; refine (cruciblelaw0_Num.calls _ _ _ rfl).mono ?_; rintro x w6 ⟨rfl, hd⟩; replace HB5 := Aside0.mk (HB5.out.trans (hd.below.mono HB5.out.size)); clear hd))
  go_ret
  exact ⟨rfl, HB5.out⟩
def cruciblelaw8_awake.f : Option (Bool) := some true
theorem cruciblelaw8_awake.calls (r : Bool) (w : World) (h : cruciblelaw8_awake.f = some r) :
    Calls Tryz.prog 15 #[] w fun e w' => e = .returned (.bool r) ∧ Below w.heap.size w w' := by
  obtain rfl := Option.some.inj h
  exact awake_calls w
end Go.Proofs.YtefheailchihaaaGreatDoor.Print

end
section
namespace Go.Proofs.YtefheailchihaaaGreatDoor.Print
open Go.RowKit Go.Proofs.YtefheailchihaaaGreatDoorW.PrintWords Go.Proofs.YtefheailchihaaaGreatDoorW.PrintLast Go.Proofs.YtefheailchihaaaGreatDoorW.PrintMore
attribute [local go_sem] max2_int min2_int max_two min_two max_three min_three max_four min_four   -- for this text's walks alone
set_option linter.unusedVariables false
set_option linter.unusedSimpArgs false

def cruciblelaw8_ManifestEdges.l0 : Nat → List Int → ByteArray → List (S42) → Int → Int → Option (Bool)
  | 0, _, _, _, _, _ => none
  | k + 1, x0, x3, x4, x5, x6 => if x6 < x5 then ((some (([(wrap64 (97 + x6)) % 256] : List Int) : List Int)).bind fun y453 => (if 1 + (strOfNums y453).size ≤ 9223372036854775807 then (if 0 ≤ x6 then (if x6 < (x0.length : Int) then (if (Go.bits .and .i64 (rd x0 x6) 1) = 0 then (if x3.size + 6 ≤ 9223372036854775807 then (if (x3 ++ (⟨#[98, 117, 105, 108, 100, 32]⟩ : ByteArray)).size + ((⟨#[111]⟩ : ByteArray) ++ (strOfNums y453)).size ≤ 9223372036854775807 then (if ((x3 ++ (⟨#[98, 117, 105, 108, 100, 32]⟩ : ByteArray)) ++ ((⟨#[111]⟩ : ByteArray) ++ (strOfNums y453))).size + 17 ≤ 9223372036854775807 then ((some (([(⟨#[111]⟩ : ByteArray) ++ (strOfNums y453)] : List ByteArray) : List ByteArray)).bind fun y457 => ((some (([(⟨#[105, 49]⟩ : ByteArray), (⟨#[105, 50]⟩ : ByteArray)] : List ByteArray) : List ByteArray)).bind fun y460 => ((some (([(⟨#[104]⟩ : ByteArray)] : List ByteArray) : List ByteArray)).bind fun y463 => (if 13 + ((⟨#[111]⟩ : ByteArray) ++ (strOfNums y453)).size ≤ 9223372036854775807 then (if (Go.bits .and .i64 (rd x0 x6) 2) = 2 then (if (((x3 ++ (⟨#[98, 117, 105, 108, 100, 32]⟩ : ByteArray)) ++ ((⟨#[111]⟩ : ByteArray) ++ (strOfNums y453))) ++ (⟨#[32, 58, 32, 97, 32, 105, 49, 32, 46, 47, 105, 50, 32, 124, 32, 104, 10]⟩ : ByteArray)).size + 19 ≤ 9223372036854775807 then (if ((⟨#[97, 32, 45, 113, 32, 105, 49, 32, 105, 50, 32, 62, 32]⟩ : ByteArray) ++ ((⟨#[111]⟩ : ByteArray) ++ (strOfNums y453))).size + 3 ≤ 9223372036854775807 then (if x4.length < 1034834473200 then (cruciblelaw8_ManifestEdges.l0 k x0 ((((x3 ++ (⟨#[98, 117, 105, 108, 100, 32]⟩ : ByteArray)) ++ ((⟨#[111]⟩ : ByteArray) ++ (strOfNums y453))) ++ (⟨#[32, 58, 32, 97, 32, 105, 49, 32, 46, 47, 105, 50, 32, 124, 32, 104, 10]⟩ : ByteArray)) ++ (⟨#[32, 32, 120, 32, 61, 32, 36, 119, 33, 10, 32, 32, 119, 32, 61, 32, 45, 113, 10]⟩ : ByteArray)) (x4 ++ [(⟨y457, y460, y463, ([] : List ByteArray), ((⟨#[97, 32, 45, 113, 32, 105, 49, 32, 105, 50, 32, 62, 32]⟩ : ByteArray) ++ ((⟨#[111]⟩ : ByteArray) ++ (strOfNums y453))) ++ (⟨#[45, 119, 33]⟩ : ByteArray), false, (⟨#[]⟩ : ByteArray)⟩ : S42)]) x5 (wrap64 (x6 + 1))) else (none)) else (none)) else (none)) else (if x4.length < 1034834473200 then (cruciblelaw8_ManifestEdges.l0 k x0 (((x3 ++ (⟨#[98, 117, 105, 108, 100, 32]⟩ : ByteArray)) ++ ((⟨#[111]⟩ : ByteArray) ++ (strOfNums y453))) ++ (⟨#[32, 58, 32, 97, 32, 105, 49, 32, 46, 47, 105, 50, 32, 124, 32, 104, 10]⟩ : ByteArray)) (x4 ++ [(⟨y457, y460, y463, ([] : List ByteArray), (⟨#[97, 32, 45, 119, 32, 105, 49, 32, 105, 50, 32, 62, 32]⟩ : ByteArray) ++ ((⟨#[111]⟩ : ByteArray) ++ (strOfNums y453)), false, (⟨#[]⟩ : ByteArray)⟩ : S42)]) x5 (wrap64 (x6 + 1))) else (none))) else (none))))) else (none)) else (none)) else (none)) else (if x3.size + 6 ≤ 9223372036854775807 then (if (x3 ++ (⟨#[98, 117, 105, 108, 100, 32]⟩ : ByteArray)).size + ((⟨#[111]⟩ : ByteArray) ++ (strOfNums y453)).size ≤ 9223372036854775807 then (if ((x3 ++ (⟨#[98, 117, 105, 108, 100, 32]⟩ : ByteArray)) ++ ((⟨#[111]⟩ : ByteArray) ++ (strOfNums y453))).size + 15 ≤ 9223372036854775807 then (if x4.length < 1034834473200 then (cruciblelaw8_ManifestEdges.l0 k x0 (((x3 ++ (⟨#[98, 117, 105, 108, 100, 32]⟩ : ByteArray)) ++ ((⟨#[111]⟩ : ByteArray) ++ (strOfNums y453))) ++ (⟨#[32, 58, 32, 98, 32, 124, 124, 32, 122, 47, 46, 46, 47, 122, 10]⟩ : ByteArray)) (x4 ++ [(⟨(([(⟨#[111]⟩ : ByteArray) ++ (strOfNums y453)] : List ByteArray)), ([] : List ByteArray), ([] : List ByteArray), (([(⟨#[122]⟩ : ByteArray)] : List ByteArray)), (⟨#[98, 32]⟩ : ByteArray), true, (⟨#[112]⟩ : ByteArray)⟩ : S42)]) x5 (wrap64 (x6 + 1))) else (none)) else (none)) else (none)) else (none))) else (none)) else (none)) else (none))) else ((manifest_Parse.f x3).bind fun bt437 => ((cruciblelaw0_Num.f bt437.2.2.2).bind fun t448 => (if t448 = 0 then ((cruciblelaw0_SameGraph.f k bt437.1 bt437.2.1 bt437.2.2.1 x4 (([(⟨(⟨#[112]⟩ : ByteArray), 3⟩ : S44)] : List (S44))) ([] : List ByteArray)).bind fun t452 => (some t452)) else (some false))))
def cruciblelaw8_ManifestEdges.f (k : Nat) (l0 : List Int) : Option (Bool) := (cruciblelaw8_awake.f).bind fun t436 => (if t436 = true then (cruciblelaw8_ManifestEdges.l0 k l0 (⟨#[119, 32, 61, 32, 45, 119, 10, 112, 111, 111, 108, 32, 112, 10, 32, 32, 100, 101, 112, 116, 104, 32, 61, 32, 51, 10, 114, 117, 108, 101, 32, 97, 10, 32, 32, 99, 111, 109, 109, 97, 110, 100, 32, 61, 32, 97, 32, 36, 119, 32, 36, 105, 110, 32, 62, 32, 36, 111, 117, 116, 36, 120, 10, 114, 117, 108, 101, 32, 98, 10, 32, 32, 112, 111, 111, 108, 32, 61, 32, 112, 10, 32, 32, 99, 111, 109, 109, 97, 110, 100, 32, 61, 32, 98, 32, 36, 123, 105, 110, 125, 10, 32, 32, 100, 101, 112, 115, 32, 61, 32, 49, 10]⟩ : ByteArray) ([] : List (S42)) (mn (l0.length : Int) 8) 0) else (some false))
theorem cruciblelaw8_ManifestEdges.mono_l : ∀ k, (∀ y0 y1 y2 y3 y4, LeO (cruciblelaw8_ManifestEdges.l0 k y0 y1 y2 y3 y4) (cruciblelaw8_ManifestEdges.l0 (k + 1) y0 y1 y2 y3 y4))
  | 0 => fun _ _ _ _ _ r h => by simp [cruciblelaw8_ManifestEdges.l0] at h
  | k + 1 => by
    have ih0 := cruciblelaw8_ManifestEdges.mono_l k
    · intro y0 y1 y2 y3 y4
      unfold cruciblelaw8_ManifestEdges.l0
      repeat' first
      | (with_reducible exact ih0 _ _ _ _ _)
      | (with_reducible exact cruciblelaw0_SameGraph.mono _ _ _ _ _ _ _)
      | (with_reducible exact LeO.refl _)
      | (with_reducible exact LeO.none _)
      | (with_reducible refine LeO.ite ?_ ?_)
      | (with_reducible refine LeO.bind ?_ (fun _ => ?_))
      | exact ih0 _ _ _ _ _
      | exact cruciblelaw0_SameGraph.mono _ _ _ _ _ _ _
      | exact LeO.none _
      | refine LeO.ite ?_ ?_
      | refine LeO.bind ?_ (fun _ => ?_)
theorem cruciblelaw8_ManifestEdges.mono : ∀ a0 k, LeO (cruciblelaw8_ManifestEdges.f k a0) (cruciblelaw8_ManifestEdges.f (k + 1) a0) := by
  intro a0 k
  have ih0 := cruciblelaw8_ManifestEdges.mono_l k
  unfold cruciblelaw8_ManifestEdges.f
  repeat' first
      | (with_reducible exact ih0 _ _ _ _ _)
      | (with_reducible exact cruciblelaw0_SameGraph.mono _ _ _ _ _ _ _)
      | (with_reducible exact LeO.refl _)
      | (with_reducible exact LeO.none _)
      | (with_reducible refine LeO.ite ?_ ?_)
      | (with_reducible refine LeO.bind ?_ (fun _ => ?_))
      | exact ih0 _ _ _ _ _
      | exact cruciblelaw0_SameGraph.mono _ _ _ _ _ _ _
      | exact LeO.none _
      | refine LeO.ite ?_ ?_
      | refine LeO.bind ?_ (fun _ => ?_)
set_option maxHeartbeats 8000000 in
set_option maxRecDepth 100000 in
theorem cruciblelaw8_ManifestEdges.calls (k : Nat) (A0 : Option Addr) (c0 : Nat) (l0 : List Int) (r : Bool) (w : World) (hr0 : Kd.C (Kd.int .i64) w A0 l0.length l0) (hc0 : l0.length ≤ c0) (h : cruciblelaw8_ManifestEdges.f k l0 = some r) :
    Calls Tryz.prog 6 #[.slice A0 l0.length c0] w fun e w' => e = .returned (.bool r) ∧ Below w.heap.size w w' := by
  have hu42 := Tryz.underlying42
  have hu26 := Tryz.underlying26
  have hu44 := Tryz.underlying44
  have HR0 := Aside0.mk hr0
  have HC0 := Aside0.mk hc0
  clear hr0 hc0
  have HB := Aside0.mk (Below.refl w.heap.size w)
  have H : ((cruciblelaw8_awake.f).bind fun t436 => (if t436 = true then (cruciblelaw8_ManifestEdges.l0 k l0 (⟨#[119, 32, 61, 32, 45, 119, 10, 112, 111, 111, 108, 32, 112, 10, 32, 32, 100, 101, 112, 116, 104, 32, 61, 32, 51, 10, 114, 117, 108, 101, 32, 97, 10, 32, 32, 99, 111, 109, 109, 97, 110, 100, 32, 61, 32, 97, 32, 36, 119, 32, 36, 105, 110, 32, 62, 32, 36, 111, 117, 116, 36, 120, 10, 114, 117, 108, 101, 32, 98, 10, 32, 32, 112, 111, 111, 108, 32, 61, 32, 112, 10, 32, 32, 99, 111, 109, 109, 97, 110, 100, 32, 61, 32, 98, 32, 36, 123, 105, 110, 125, 10, 32, 32, 100, 101, 112, 115, 32, 61, 32, 49, 10]⟩ : ByteArray) ([] : List (S42)) (mn (l0.length : Int) 8) 0) else (some false))) = some r := h
  clear h
  replace H := Option.bind_eq_some_iff.mp H
  obtain ⟨t436, A20, H⟩ := H
  replace H : (if t436 = true then (cruciblelaw8_ManifestEdges.l0 k l0 (⟨#[119, 32, 61, 32, 45, 119, 10, 112, 111, 111, 108, 32, 112, 10, 32, 32, 100, 101, 112, 116, 104, 32, 61, 32, 51, 10, 114, 117, 108, 101, 32, 97, 10, 32, 32, 99, 111, 109, 109, 97, 110, 100, 32, 61, 32, 97, 32, 36, 119, 32, 36, 105, 110, 32, 62, 32, 36, 111, 117, 116, 36, 120, 10, 114, 117, 108, 101, 32, 98, 10, 32, 32, 112, 111, 111, 108, 32, 61, 32, 112, 10, 32, 32, 99, 111, 109, 109, 97, 110, 100, 32, 61, 32, 98, 32, 36, 123, 105, 110, 125, 10, 32, 32, 100, 101, 112, 115, 32, 61, 32, 49, 10]⟩ : ByteArray) ([] : List (S42)) (mn (l0.length : Int) 8) 0) else (some false)) = some r := H
  have A2 := Aside0.mk A20
  clear A20
  by_cases c3 : t436 = true
  · subst c3
    have H1 : (cruciblelaw8_ManifestEdges.l0 k l0 (⟨#[119, 32, 61, 32, 45, 119, 10, 112, 111, 111, 108, 32, 112, 10, 32, 32, 100, 101, 112, 116, 104, 32, 61, 32, 51, 10, 114, 117, 108, 101, 32, 97, 10, 32, 32, 99, 111, 109, 109, 97, 110, 100, 32, 61, 32, 97, 32, 36, 119, 32, 36, 105, 110, 32, 62, 32, 36, 111, 117, 116, 36, 120, 10, 114, 117, 108, 101, 32, 98, 10, 32, 32, 112, 111, 111, 108, 32, 61, 32, 112, 10, 32, 32, 99, 111, 109, 109, 97, 110, 100, 32, 61, 32, 98, 32, 36, 123, 105, 110, 125, 10, 32, 32, 100, 101, 112, 115, 32, 61, 32, 49, 10]⟩ : ByteArray) ([] : List (S42)) (mn (l0.length : Int) 8) 0) = some r := by rw [if_pos rfl] at H; exact H
    clear H
    have H := H1
    clear H1
    obtain ⟨ji4, hji4⟩ : ∃ j_ : Int, (mn (l0.length : Int) 8) = j_ := ⟨_, rfl⟩
    replace H : (cruciblelaw8_ManifestEdges.l0 k l0 (⟨#[119, 32, 61, 32, 45, 119, 10, 112, 111, 111, 108, 32, 112, 10, 32, 32, 100, 101, 112, 116, 104, 32, 61, 32, 51, 10, 114, 117, 108, 101, 32, 97, 10, 32, 32, 99, 111, 109, 109, 97, 110, 100, 32, 61, 32, 97, 32, 36, 119, 32, 36, 105, 110, 32, 62, 32, 36, 111, 117, 116, 36, 120, 10, 114, 117, 108, 101, 32, 98, 10, 32, 32, 112, 111, 111, 108, 32, 61, 32, 112, 10, 32, 32, 99, 111, 109, 109, 97, 110, 100, 32, 61, 32, 98, 32, 36, 123, 105, 110, 125, 10, 32, 32, 100, 101, 112, 115, 32, 61, 32, 49, 10]⟩ : ByteArray) ([] : List (S42)) ji4 0) = some r := by first | (rw [hji4] at H; exact H) | (simp only [hji4] at H ⊢; exact H)
    (try rw [hji4] at A2)
    (try (have hji4h : ji4 ≤ 8 := by (rw [← hji4]; unfold mn; (repeat' split) <;> omega)))
    (try (have hji4g : ji4 ≤ 64 := by omega))
    (try (have hji4l : 0 ≤ ji4 := by (rw [← hji4]; unfold mn; (repeat' split) <;> omega)))
    (try (have hji4m : 0 ≤ ji4 := by omega))
    have hji4_ : (if 8 < (l0.length : Int) then 8 else (l0.length : Int)) = ji4 := hji4
    have H' := Aside0.mk H
    clear H
    go_enter Tryz.func6, Tryz.ntmps6
    go_wp2_with (first | ((with_reducible refine gate_callee (f := 15) rfl ?_); refine goesL_ (some 11) rfl rfl Tryz.func15 (by kernel_rfl) rfl #[] rfl (by (try simp only [List.map_toArray, List.map_cons, List.map_nil]); first | done | rfl | (simp only [List.length_drop, List.length_take]; rfl)) ?_; (with_reducible refine (cruciblelaw8_awake.calls  true _ A2.out).mono ?_); rintro e w5 ⟨rfl, hb⟩; refine ⟨_, rfl, ?_⟩; have n0_ := Aside0.mk (below_step (by repeat (first | (with_reducible first | exact HB.out | apply below_alloc | apply pw_below_drewN | apply below_drew1) | exact HB.out)) hb); clear HB; have HB := n0_; clear n0_; (try clear hb); (try clear hb2); (try clear hk); (try clear hi)))
    go_loopg [3, 4, 6] k (fun kq v3 v4 v6 w' => ∃ (x3_1 : ByteArray) (x4_1 : List (S42)) (x6_1 : Int), v3 = .string x3_1 ∧ v6 = .int .i64 x6_1 ∧ Aside0 (cruciblelaw8_ManifestEdges.l0 kq l0 x3_1 x4_1 ji4 x6_1 = some r) ∧ Aside0 (kq ≤ k) ∧ Aside0 (Kd.S k42 42 w' w.heap.size (fun _ => True) v4 x4_1) ∧ Aside0 (Below w.heap.size w w'))
    case atStart => exact ⟨((⟨#[119, 32, 61, 32, 45, 119, 10, 112, 111, 111, 108, 32, 112, 10, 32, 32, 100, 101, 112, 116, 104, 32, 61, 32, 51, 10, 114, 117, 108, 101, 32, 97, 10, 32, 32, 99, 111, 109, 109, 97, 110, 100, 32, 61, 32, 97, 32, 36, 119, 32, 36, 105, 110, 32, 62, 32, 36, 111, 117, 116, 36, 120, 10, 114, 117, 108, 101, 32, 98, 10, 32, 32, 112, 111, 111, 108, 32, 61, 32, 112, 10, 32, 32, 99, 111, 109, 109, 97, 110, 100, 32, 61, 32, 98, 32, 36, 123, 105, 110, 125, 10, 32, 32, 100, 101, 112, 115, 32, 61, 32, 49, 10]⟩ : ByteArray)), (([] : List (S42))), (0), (by first | rfl | (simp; done) | (simp [*]; done)), (by first | rfl | (simp; done) | (simp [*]; done)), H', ⟨Nat.le_refl _⟩, ⟨by first | exact Kd.S_nil _ _ _ _ _ | exact Kd.N_nil _ _ _ _ _ | exact Kd.V_nil _ _ _ _ _ | exact Kd.Q_nil _ _ _ _ _ | exact Kd.R_nil _ _ _ _ _⟩, ⟨by repeat (first | (with_reducible first | exact HB.out | apply below_alloc | apply pw_below_drewN | apply below_drew1) | exact HB.out)⟩⟩
    case round =>
      clear H'
      try clear c1
      try clear p2
      try clear c3
      obtain ⟨x3_1, x4_1, x6_1, rfl, rfl, HA, HK1, HO_4, HB⟩ := hrel
      cases gk with
      | zero => exact absurd HA.out (by simp [cruciblelaw8_ManifestEdges.l0])
      | succ k1 =>
        have H := HA.out
        clear HA
        simp only [cruciblelaw8_ManifestEdges.l0] at H
        by_cases c6 : x6_1 < ji4
        · rw [if_pos c6] at H
          have c6b0 : decide (x6_1 < ji4) = true := decide_eq_true c6
          clear c6
          obtain ⟨y453, hy453⟩ : ∃ y_ : List Int, y_ = (([(wrap64 (97 + x6_1)) % 256] : List Int)) := ⟨_, rfl⟩
          replace H : (if 1 + (strOfNums y453).size ≤ 9223372036854775807 then (if 0 ≤ x6_1 then (if x6_1 < (l0.length : Int) then (if (Go.bits .and .i64 (rd l0 x6_1) 1) = 0 then (if x3_1.size + 6 ≤ 9223372036854775807 then (if (x3_1 ++ (⟨#[98, 117, 105, 108, 100, 32]⟩ : ByteArray)).size + ((⟨#[111]⟩ : ByteArray) ++ (strOfNums y453)).size ≤ 9223372036854775807 then (if ((x3_1 ++ (⟨#[98, 117, 105, 108, 100, 32]⟩ : ByteArray)) ++ ((⟨#[111]⟩ : ByteArray) ++ (strOfNums y453))).size + 17 ≤ 9223372036854775807 then ((some (([(⟨#[111]⟩ : ByteArray) ++ (strOfNums y453)] : List ByteArray) : List ByteArray)).bind fun y457 => ((some (([(⟨#[105, 49]⟩ : ByteArray), (⟨#[105, 50]⟩ : ByteArray)] : List ByteArray) : List ByteArray)).bind fun y460 => ((some (([(⟨#[104]⟩ : ByteArray)] : List ByteArray) : List ByteArray)).bind fun y463 => (if 13 + ((⟨#[111]⟩ : ByteArray) ++ (strOfNums y453)).size ≤ 9223372036854775807 then (if (Go.bits .and .i64 (rd l0 x6_1) 2) = 2 then (if (((x3_1 ++ (⟨#[98, 117, 105, 108, 100, 32]⟩ : ByteArray)) ++ ((⟨#[111]⟩ : ByteArray) ++ (strOfNums y453))) ++ (⟨#[32, 58, 32, 97, 32, 105, 49, 32, 46, 47, 105, 50, 32, 124, 32, 104, 10]⟩ : ByteArray)).size + 19 ≤ 9223372036854775807 then (if ((⟨#[97, 32, 45, 113, 32, 105, 49, 32, 105, 50, 32, 62, 32]⟩ : ByteArray) ++ ((⟨#[111]⟩ : ByteArray) ++ (strOfNums y453))).size + 3 ≤ 9223372036854775807 then (if x4_1.length < 1034834473200 then (cruciblelaw8_ManifestEdges.l0 k1 l0 ((((x3_1 ++ (⟨#[98, 117, 105, 108, 100, 32]⟩ : ByteArray)) ++ ((⟨#[111]⟩ : ByteArray) ++ (strOfNums y453))) ++ (⟨#[32, 58, 32, 97, 32, 105, 49, 32, 46, 47, 105, 50, 32, 124, 32, 104, 10]⟩ : ByteArray)) ++ (⟨#[32, 32, 120, 32, 61, 32, 36, 119, 33, 10, 32, 32, 119, 32, 61, 32, 45, 113, 10]⟩ : ByteArray)) (x4_1 ++ [(⟨y457, y460, y463, ([] : List ByteArray), ((⟨#[97, 32, 45, 113, 32, 105, 49, 32, 105, 50, 32, 62, 32]⟩ : ByteArray) ++ ((⟨#[111]⟩ : ByteArray) ++ (strOfNums y453))) ++ (⟨#[45, 119, 33]⟩ : ByteArray), false, (⟨#[]⟩ : ByteArray)⟩ : S42)]) ji4 (wrap64 (x6_1 + 1))) else (none)) else (none)) else (none)) else (if x4_1.length < 1034834473200 then (cruciblelaw8_ManifestEdges.l0 k1 l0 (((x3_1 ++ (⟨#[98, 117, 105, 108, 100, 32]⟩ : ByteArray)) ++ ((⟨#[111]⟩ : ByteArray) ++ (strOfNums y453))) ++ (⟨#[32, 58, 32, 97, 32, 105, 49, 32, 46, 47, 105, 50, 32, 124, 32, 104, 10]⟩ : ByteArray)) (x4_1 ++ [(⟨y457, y460, y463, ([] : List ByteArray), (⟨#[97, 32, 45, 119, 32, 105, 49, 32, 105, 50, 32, 62, 32]⟩ : ByteArray) ++ ((⟨#[111]⟩ : ByteArray) ++ (strOfNums y453)), false, (⟨#[]⟩ : ByteArray)⟩ : S42)]) ji4 (wrap64 (x6_1 + 1))) else (none))) else (none))))) else (none)) else (none)) else (none)) else (if x3_1.size + 6 ≤ 9223372036854775807 then (if (x3_1 ++ (⟨#[98, 117, 105, 108, 100, 32]⟩ : ByteArray)).size + ((⟨#[111]⟩ : ByteArray) ++ (strOfNums y453)).size ≤ 9223372036854775807 then (if ((x3_1 ++ (⟨#[98, 117, 105, 108, 100, 32]⟩ : ByteArray)) ++ ((⟨#[111]⟩ : ByteArray) ++ (strOfNums y453))).size + 15 ≤ 9223372036854775807 then (if x4_1.length < 1034834473200 then (cruciblelaw8_ManifestEdges.l0 k1 l0 (((x3_1 ++ (⟨#[98, 117, 105, 108, 100, 32]⟩ : ByteArray)) ++ ((⟨#[111]⟩ : ByteArray) ++ (strOfNums y453))) ++ (⟨#[32, 58, 32, 98, 32, 124, 124, 32, 122, 47, 46, 46, 47, 122, 10]⟩ : ByteArray)) (x4_1 ++ [(⟨(([(⟨#[111]⟩ : ByteArray) ++ (strOfNums y453)] : List ByteArray)), ([] : List ByteArray), ([] : List ByteArray), (([(⟨#[122]⟩ : ByteArray)] : List ByteArray)), (⟨#[98, 32]⟩ : ByteArray), true, (⟨#[112]⟩ : ByteArray)⟩ : S42)]) ji4 (wrap64 (x6_1 + 1))) else (none)) else (none)) else (none)) else (none))) else (none)) else (none)) else (none)) = some r := by first | (rw [hy453]; with_reducible exact H) | (have H2_ := (Option.bind_some _ _).symm.trans H; rw [hy453]; with_reducible exact H2_) | (have H2_ := (Option.bind_some _ _).symm.trans H; with_reducible exact H2_) | with_reducible exact H | (rw [hy453]; exact H) | exact H
          have Ny453 := Aside0.mk hy453
          clear hy453
          by_cases c7 : 1 + (strOfNums y453).size ≤ 9223372036854775807
          · rw [if_pos c7] at H
            have c7b0 := eq_true c7
            have c7b1 : decide (1 + (strOfNums y453).size ≤ 9223372036854775807) = true := decide_eq_true c7
            try have c7b2 : (9223372036854775807 < 1 + (strOfNums y453).size) = False := eq_false (Nat.not_lt.2 c7)
            by_cases c8 : 0 ≤ x6_1
            · rw [if_pos c8] at H
              have c8b0 : decide (0 ≤ x6_1) = true := decide_eq_true c8
              clear c8
              by_cases c9 : x6_1 < (l0.length : Int)
              · rw [if_pos c9] at H
                have c9b0 : decide (x6_1 < (l0.length : Int)) = true := decide_eq_true c9
                clear c9
                by_cases c10 : (Go.bits .and .i64 (rd l0 x6_1) 1) = 0
                · rw [if_pos c10] at H
                  have c10b0 : ((Go.bits .and .i64 (rd l0 x6_1) 1) == 0) = true := beq_iff_eq.mpr c10
                  have c10b1 : ((Go.bits .and .i64 (rd l0 x6_1) 1) != 0) = false := bne_eq_false_iff_eq.mpr c10
                  clear c10
                  by_cases c11 : x3_1.size + 6 ≤ 9223372036854775807
                  · rw [if_pos c11] at H
                    have c11b0 := eq_true c11
                    have c11b1 : decide (x3_1.size + 6 ≤ 9223372036854775807) = true := decide_eq_true c11
                    try have c11b2 : (9223372036854775807 < x3_1.size + 6) = False := eq_false (Nat.not_lt.2 c11)
                    by_cases c12 : (x3_1 ++ (⟨#[98, 117, 105, 108, 100, 32]⟩ : ByteArray)).size + ((⟨#[111]⟩ : ByteArray) ++ (strOfNums y453)).size ≤ 9223372036854775807
                    · rw [if_pos c12] at H
                      have c12b0 := eq_true c12
                      have c12b1 : decide ((x3_1 ++ (⟨#[98, 117, 105, 108, 100, 32]⟩ : ByteArray)).size + ((⟨#[111]⟩ : ByteArray) ++ (strOfNums y453)).size ≤ 9223372036854775807) = true := decide_eq_true c12
                      try have c12b2 : (9223372036854775807 < (x3_1 ++ (⟨#[98, 117, 105, 108, 100, 32]⟩ : ByteArray)).size + ((⟨#[111]⟩ : ByteArray) ++ (strOfNums y453)).size) = False := eq_false (Nat.not_lt.2 c12)
                      have c12b3 : (9223372036854775807 < x3_1.size + 6 + (1 + (strOfNums y453).size)) = False := eq_false (by have hh0 : (x3_1 ++ (⟨#[98, 117, 105, 108, 100, 32]⟩ : ByteArray)).size = x3_1.size + 6 := (by rw [ByteArray.size_append] <;> rfl); have hh1 : ((⟨#[111]⟩ : ByteArray) ++ (strOfNums y453)).size = 1 + (strOfNums y453).size := (by rw [ByteArray.size_append] <;> rfl); omega)
                      by_cases c13 : ((x3_1 ++ (⟨#[98, 117, 105, 108, 100, 32]⟩ : ByteArray)) ++ ((⟨#[111]⟩ : ByteArray) ++ (strOfNums y453))).size + 17 ≤ 9223372036854775807
                      · rw [if_pos c13] at H
                        have c13b0 := eq_true c13
                        have c13b1 : decide (((x3_1 ++ (⟨#[98, 117, 105, 108, 100, 32]⟩ : ByteArray)) ++ ((⟨#[111]⟩ : ByteArray) ++ (strOfNums y453))).size + 17 ≤ 9223372036854775807) = true := decide_eq_true c13
                        try have c13b2 : (9223372036854775807 < ((x3_1 ++ (⟨#[98, 117, 105, 108, 100, 32]⟩ : ByteArray)) ++ ((⟨#[111]⟩ : ByteArray) ++ (strOfNums y453))).size + 17) = False := eq_false (Nat.not_lt.2 c13)
                        have c13b3 : (9223372036854775807 < x3_1.size + 6 + (1 + (strOfNums y453).size) + 17) = False := eq_false (by have hh0 : ((x3_1 ++ (⟨#[98, 117, 105, 108, 100, 32]⟩ : ByteArray)) ++ ((⟨#[111]⟩ : ByteArray) ++ (strOfNums y453))).size = x3_1.size + 6 + (1 + (strOfNums y453).size) := (by rw [ByteArray.size_append, ByteArray.size_append, ByteArray.size_append] <;> rfl); omega)
                        obtain ⟨y457, hy457⟩ : ∃ y_ : List ByteArray, y_ = (([(⟨#[111]⟩ : ByteArray) ++ (strOfNums y453)] : List ByteArray)) := ⟨_, rfl⟩
                        replace H : ((some (([(⟨#[105, 49]⟩ : ByteArray), (⟨#[105, 50]⟩ : ByteArray)] : List ByteArray) : List ByteArray)).bind fun y460 => ((some (([(⟨#[104]⟩ : ByteArray)] : List ByteArray) : List ByteArray)).bind fun y463 => (if 13 + ((⟨#[111]⟩ : ByteArray) ++ (strOfNums y453)).size ≤ 9223372036854775807 then (if (Go.bits .and .i64 (rd l0 x6_1) 2) = 2 then (if (((x3_1 ++ (⟨#[98, 117, 105, 108, 100, 32]⟩ : ByteArray)) ++ ((⟨#[111]⟩ : ByteArray) ++ (strOfNums y453))) ++ (⟨#[32, 58, 32, 97, 32, 105, 49, 32, 46, 47, 105, 50, 32, 124, 32, 104, 10]⟩ : ByteArray)).size + 19 ≤ 9223372036854775807 then (if ((⟨#[97, 32, 45, 113, 32, 105, 49, 32, 105, 50, 32, 62, 32]⟩ : ByteArray) ++ ((⟨#[111]⟩ : ByteArray) ++ (strOfNums y453))).size + 3 ≤ 9223372036854775807 then (if x4_1.length < 1034834473200 then (cruciblelaw8_ManifestEdges.l0 k1 l0 ((((x3_1 ++ (⟨#[98, 117, 105, 108, 100, 32]⟩ : ByteArray)) ++ ((⟨#[111]⟩ : ByteArray) ++ (strOfNums y453))) ++ (⟨#[32, 58, 32, 97, 32, 105, 49, 32, 46, 47, 105, 50, 32, 124, 32, 104, 10]⟩ : ByteArray)) ++ (⟨#[32, 32, 120, 32, 61, 32, 36, 119, 33, 10, 32, 32, 119, 32, 61, 32, 45, 113, 10]⟩ : ByteArray)) (x4_1 ++ [(⟨y457, y460, y463, ([] : List ByteArray), ((⟨#[97, 32, 45, 113, 32, 105, 49, 32, 105, 50, 32, 62, 32]⟩ : ByteArray) ++ ((⟨#[111]⟩ : ByteArray) ++ (strOfNums y453))) ++ (⟨#[45, 119, 33]⟩ : ByteArray), false, (⟨#[]⟩ : ByteArray)⟩ : S42)]) ji4 (wrap64 (x6_1 + 1))) else (none)) else (none)) else (none)) else (if x4_1.length < 1034834473200 then (cruciblelaw8_ManifestEdges.l0 k1 l0 (((x3_1 ++ (⟨#[98, 117, 105, 108, 100, 32]⟩ : ByteArray)) ++ ((⟨#[111]⟩ : ByteArray) ++ (strOfNums y453))) ++ (⟨#[32, 58, 32, 97, 32, 105, 49, 32, 46, 47, 105, 50, 32, 124, 32, 104, 10]⟩ : ByteArray)) (x4_1 ++ [(⟨y457, y460, y463, ([] : List ByteArray), (⟨#[97, 32, 45, 119, 32, 105, 49, 32, 105, 50, 32, 62, 32]⟩ : ByteArray) ++ ((⟨#[111]⟩ : ByteArray) ++ (strOfNums y453)), false, (⟨#[]⟩ : ByteArray)⟩ : S42)]) ji4 (wrap64 (x6_1 + 1))) else (none))) else (none)))) = some r := by first | (rw [hy457]; with_reducible exact H) | (have H2_ := (Option.bind_some _ _).symm.trans H; rw [hy457]; with_reducible exact H2_) | (have H2_ := (Option.bind_some _ _).symm.trans H; with_reducible exact H2_) | with_reducible exact H | (rw [hy457]; exact H) | exact H
                        have Ny457 := Aside0.mk hy457
                        clear hy457
                        obtain ⟨y460, hy460⟩ : ∃ y_ : List ByteArray, y_ = (([(⟨#[105, 49]⟩ : ByteArray), (⟨#[105, 50]⟩ : ByteArray)] : List ByteArray)) := ⟨_, rfl⟩
                        replace H : ((some (([(⟨#[104]⟩ : ByteArray)] : List ByteArray) : List ByteArray)).bind fun y463 => (if 13 + ((⟨#[111]⟩ : ByteArray) ++ (strOfNums y453)).size ≤ 9223372036854775807 then (if (Go.bits .and .i64 (rd l0 x6_1) 2) = 2 then (if (((x3_1 ++ (⟨#[98, 117, 105, 108, 100, 32]⟩ : ByteArray)) ++ ((⟨#[111]⟩ : ByteArray) ++ (strOfNums y453))) ++ (⟨#[32, 58, 32, 97, 32, 105, 49, 32, 46, 47, 105, 50, 32, 124, 32, 104, 10]⟩ : ByteArray)).size + 19 ≤ 9223372036854775807 then (if ((⟨#[97, 32, 45, 113, 32, 105, 49, 32, 105, 50, 32, 62, 32]⟩ : ByteArray) ++ ((⟨#[111]⟩ : ByteArray) ++ (strOfNums y453))).size + 3 ≤ 9223372036854775807 then (if x4_1.length < 1034834473200 then (cruciblelaw8_ManifestEdges.l0 k1 l0 ((((x3_1 ++ (⟨#[98, 117, 105, 108, 100, 32]⟩ : ByteArray)) ++ ((⟨#[111]⟩ : ByteArray) ++ (strOfNums y453))) ++ (⟨#[32, 58, 32, 97, 32, 105, 49, 32, 46, 47, 105, 50, 32, 124, 32, 104, 10]⟩ : ByteArray)) ++ (⟨#[32, 32, 120, 32, 61, 32, 36, 119, 33, 10, 32, 32, 119, 32, 61, 32, 45, 113, 10]⟩ : ByteArray)) (x4_1 ++ [(⟨y457, y460, y463, ([] : List ByteArray), ((⟨#[97, 32, 45, 113, 32, 105, 49, 32, 105, 50, 32, 62, 32]⟩ : ByteArray) ++ ((⟨#[111]⟩ : ByteArray) ++ (strOfNums y453))) ++ (⟨#[45, 119, 33]⟩ : ByteArray), false, (⟨#[]⟩ : ByteArray)⟩ : S42)]) ji4 (wrap64 (x6_1 + 1))) else (none)) else (none)) else (none)) else (if x4_1.length < 1034834473200 then (cruciblelaw8_ManifestEdges.l0 k1 l0 (((x3_1 ++ (⟨#[98, 117, 105, 108, 100, 32]⟩ : ByteArray)) ++ ((⟨#[111]⟩ : ByteArray) ++ (strOfNums y453))) ++ (⟨#[32, 58, 32, 97, 32, 105, 49, 32, 46, 47, 105, 50, 32, 124, 32, 104, 10]⟩ : ByteArray)) (x4_1 ++ [(⟨y457, y460, y463, ([] : List ByteArray), (⟨#[97, 32, 45, 119, 32, 105, 49, 32, 105, 50, 32, 62, 32]⟩ : ByteArray) ++ ((⟨#[111]⟩ : ByteArray) ++ (strOfNums y453)), false, (⟨#[]⟩ : ByteArray)⟩ : S42)]) ji4 (wrap64 (x6_1 + 1))) else (none))) else (none))) = some r := by first | (rw [hy460]; with_reducible exact H) | (have H2_ := (Option.bind_some _ _).symm.trans H; rw [hy460]; with_reducible exact H2_) | (have H2_ := (Option.bind_some _ _).symm.trans H; with_reducible exact H2_) | with_reducible exact H | (rw [hy460]; exact H) | exact H
                        have Ny460 := Aside0.mk hy460
                        clear hy460
                        obtain ⟨y463, hy463⟩ : ∃ y_ : List ByteArray, y_ = (([(⟨#[104]⟩ : ByteArray)] : List ByteArray)) := ⟨_, rfl⟩
                        replace H : (if 13 + ((⟨#[111]⟩ : ByteArray) ++ (strOfNums y453)).size ≤ 9223372036854775807 then (if (Go.bits .and .i64 (rd l0 x6_1) 2) = 2 then (if (((x3_1 ++ (⟨#[98, 117, 105, 108, 100, 32]⟩ : ByteArray)) ++ ((⟨#[111]⟩ : ByteArray) ++ (strOfNums y453))) ++ (⟨#[32, 58, 32, 97, 32, 105, 49, 32, 46, 47, 105, 50, 32, 124, 32, 104, 10]⟩ : ByteArray)).size + 19 ≤ 9223372036854775807 then (if ((⟨#[97, 32, 45, 113, 32, 105, 49, 32, 105, 50, 32, 62, 32]⟩ : ByteArray) ++ ((⟨#[111]⟩ : ByteArray) ++ (strOfNums y453))).size + 3 ≤ 9223372036854775807 then (if x4_1.length < 1034834473200 then (cruciblelaw8_ManifestEdges.l0 k1 l0 ((((x3_1 ++ (⟨#[98, 117, 105, 108, 100, 32]⟩ : ByteArray)) ++ ((⟨#[111]⟩ : ByteArray) ++ (strOfNums y453))) ++ (⟨#[32, 58, 32, 97, 32, 105, 49, 32, 46, 47, 105, 50, 32, 124, 32, 104, 10]⟩ : ByteArray)) ++ (⟨#[32, 32, 120, 32, 61, 32, 36, 119, 33, 10, 32, 32, 119, 32, 61, 32, 45, 113, 10]⟩ : ByteArray)) (x4_1 ++ [(⟨y457, y460, y463, ([] : List ByteArray), ((⟨#[97, 32, 45, 113, 32, 105, 49, 32, 105, 50, 32, 62, 32]⟩ : ByteArray) ++ ((⟨#[111]⟩ : ByteArray) ++ (strOfNums y453))) ++ (⟨#[45, 119, 33]⟩ : ByteArray), false, (⟨#[]⟩ : ByteArray)⟩ : S42)]) ji4 (wrap64 (x6_1 + 1))) else (none)) else (none)) else (none)) else (if x4_1.length < 1034834473200 then (cruciblelaw8_ManifestEdges.l0 k1 l0 (((x3_1 ++ (⟨#[98, 117, 105, 108, 100, 32]⟩ : ByteArray)) ++ ((⟨#[111]⟩ : ByteArray) ++ (strOfNums y453))) ++ (⟨#[32, 58, 32, 97, 32, 105, 49, 32, 46, 47, 105, 50, 32, 124, 32, 104, 10]⟩ : ByteArray)) (x4_1 ++ [(⟨y457, y460, y463, ([] : List ByteArray), (⟨#[97, 32, 45, 119, 32, 105, 49, 32, 105, 50, 32, 62, 32]⟩ : ByteArray) ++ ((⟨#[111]⟩ : ByteArray) ++ (strOfNums y453)), false, (⟨#[]⟩ : ByteArray)⟩ : S42)]) ji4 (wrap64 (x6_1 + 1))) else (none))) else (none)) = some r := by first | (rw [hy463]; with_reducible exact H) | (have H2_ := (Option.bind_some _ _).symm.trans H; rw [hy463]; with_reducible exact H2_) | (have H2_ := (Option.bind_some _ _).symm.trans H; with_reducible exact H2_) | with_reducible exact H | (rw [hy463]; exact H) | exact H
                        have Ny463 := Aside0.mk hy463
                        clear hy463
                        by_cases c14 : 13 + ((⟨#[111]⟩ : ByteArray) ++ (strOfNums y453)).size ≤ 9223372036854775807
                        · rw [if_pos c14] at H
                          have c14b0 := eq_true c14
                          have c14b1 : decide (13 + ((⟨#[111]⟩ : ByteArray) ++ (strOfNums y453)).size ≤ 9223372036854775807) = true := decide_eq_true c14
                          try have c14b2 : (9223372036854775807 < 13 + ((⟨#[111]⟩ : ByteArray) ++ (strOfNums y453)).size) = False := eq_false (Nat.not_lt.2 c14)
                          have c14b3 : (9223372036854775807 < 13 + (1 + (strOfNums y453).size)) = False := eq_false (by have hh0 : ((⟨#[111]⟩ : ByteArray) ++ (strOfNums y453)).size = 1 + (strOfNums y453).size := (by rw [ByteArray.size_append] <;> rfl); omega)
                          by_cases c15 : (Go.bits .and .i64 (rd l0 x6_1) 2) = 2
                          · rw [if_pos c15] at H
                            have c15b0 : ((Go.bits .and .i64 (rd l0 x6_1) 2) == 2) = true := beq_iff_eq.mpr c15
                            have c15b1 : ((Go.bits .and .i64 (rd l0 x6_1) 2) != 2) = false := bne_eq_false_iff_eq.mpr c15
                            clear c15
                            by_cases c16 : (((x3_1 ++ (⟨#[98, 117, 105, 108, 100, 32]⟩ : ByteArray)) ++ ((⟨#[111]⟩ : ByteArray) ++ (strOfNums y453))) ++ (⟨#[32, 58, 32, 97, 32, 105, 49, 32, 46, 47, 105, 50, 32, 124, 32, 104, 10]⟩ : ByteArray)).size + 19 ≤ 9223372036854775807
                            · rw [if_pos c16] at H
                              have c16b0 := eq_true c16
                              have c16b1 : decide ((((x3_1 ++ (⟨#[98, 117, 105, 108, 100, 32]⟩ : ByteArray)) ++ ((⟨#[111]⟩ : ByteArray) ++ (strOfNums y453))) ++ (⟨#[32, 58, 32, 97, 32, 105, 49, 32, 46, 47, 105, 50, 32, 124, 32, 104, 10]⟩ : ByteArray)).size + 19 ≤ 9223372036854775807) = true := decide_eq_true c16
                              try have c16b2 : (9223372036854775807 < (((x3_1 ++ (⟨#[98, 117, 105, 108, 100, 32]⟩ : ByteArray)) ++ ((⟨#[111]⟩ : ByteArray) ++ (strOfNums y453))) ++ (⟨#[32, 58, 32, 97, 32, 105, 49, 32, 46, 47, 105, 50, 32, 124, 32, 104, 10]⟩ : ByteArray)).size + 19) = False := eq_false (Nat.not_lt.2 c16)
                              have c16b3 : (9223372036854775807 < x3_1.size + 6 + (1 + (strOfNums y453).size) + 17 + 19) = False := eq_false (by have hh0 : (((x3_1 ++ (⟨#[98, 117, 105, 108, 100, 32]⟩ : ByteArray)) ++ ((⟨#[111]⟩ : ByteArray) ++ (strOfNums y453))) ++ (⟨#[32, 58, 32, 97, 32, 105, 49, 32, 46, 47, 105, 50, 32, 124, 32, 104, 10]⟩ : ByteArray)).size = x3_1.size + 6 + (1 + (strOfNums y453).size) + 17 := (by rw [ByteArray.size_append, ByteArray.size_append, ByteArray.size_append, ByteArray.size_append] <;> rfl); omega)
                              by_cases c17 : ((⟨#[97, 32, 45, 113, 32, 105, 49, 32, 105, 50, 32, 62, 32]⟩ : ByteArray) ++ ((⟨#[111]⟩ : ByteArray) ++ (strOfNums y453))).size + 3 ≤ 9223372036854775807
                              · rw [if_pos c17] at H
                                have c17b0 := eq_true c17
                                have c17b1 : decide (((⟨#[97, 32, 45, 113, 32, 105, 49, 32, 105, 50, 32, 62, 32]⟩ : ByteArray) ++ ((⟨#[111]⟩ : ByteArray) ++ (strOfNums y453))).size + 3 ≤ 9223372036854775807) = true := decide_eq_true c17
                                try have c17b2 : (9223372036854775807 < ((⟨#[97, 32, 45, 113, 32, 105, 49, 32, 105, 50, 32, 62, 32]⟩ : ByteArray) ++ ((⟨#[111]⟩ : ByteArray) ++ (strOfNums y453))).size + 3) = False := eq_false (Nat.not_lt.2 c17)
                                have c17b3 : (9223372036854775807 < 13 + (1 + (strOfNums y453).size) + 3) = False := eq_false (by have hh0 : ((⟨#[97, 32, 45, 113, 32, 105, 49, 32, 105, 50, 32, 62, 32]⟩ : ByteArray) ++ ((⟨#[111]⟩ : ByteArray) ++ (strOfNums y453))).size = 13 + (1 + (strOfNums y453).size) := (by rw [ByteArray.size_append, ByteArray.size_append] <;> rfl); omega)
                                by_cases c18 : x4_1.length < 1034834473200
                                · rw [if_pos c18] at H
                                  have LMc18 := Aside0.mk c18
                                  clear c18
                                  obtain ⟨y468, hy468⟩ : ∃ y_ : List (S42), y_ = (x4_1 ++ [(⟨y457, y460, y463, ([] : List ByteArray), ((⟨#[97, 32, 45, 113, 32, 105, 49, 32, 105, 50, 32, 62, 32]⟩ : ByteArray) ++ ((⟨#[111]⟩ : ByteArray) ++ (strOfNums y453))) ++ (⟨#[45, 119, 33]⟩ : ByteArray), false, (⟨#[]⟩ : ByteArray)⟩ : S42)]) := ⟨_, rfl⟩
                                  replace H : (cruciblelaw8_ManifestEdges.l0 k1 l0 ((((x3_1 ++ (⟨#[98, 117, 105, 108, 100, 32]⟩ : ByteArray)) ++ ((⟨#[111]⟩ : ByteArray) ++ (strOfNums y453))) ++ (⟨#[32, 58, 32, 97, 32, 105, 49, 32, 46, 47, 105, 50, 32, 124, 32, 104, 10]⟩ : ByteArray)) ++ (⟨#[32, 32, 120, 32, 61, 32, 36, 119, 33, 10, 32, 32, 119, 32, 61, 32, 45, 113, 10]⟩ : ByteArray)) y468 ji4 (wrap64 (x6_1 + 1))) = some r := by first | (rw [hy468]; with_reducible exact H) | (have H2_ := (Option.bind_some _ _).symm.trans H; rw [hy468]; with_reducible exact H2_) | (have H2_ := (Option.bind_some _ _).symm.trans H; with_reducible exact H2_) | with_reducible exact H | (rw [hy468]; exact H) | exact H
                                  have Ny468 := Aside0.mk hy468
                                  clear hy468
                                  have H' := Aside0.mk H
                                  clear H
                                  go_wp2_with (first | ((with_reducible refine gate_dst (N := 24) rfl ?_); (try (refine gate_guard (by rfl) ?_; dsimp only)); refine Kd.R_lit (Kd.int .u8) _ 5 ?hg (N := 24) ?hd (xs := ([(wrap64 (97 + x6_1)) % 256] : List Int)) (inner := [.int .u8 ((wrap64 (97 + x6_1)) % 256)]) (ok := fun _ => True) (okp := fun _ => True) ?hr ?hp (fun _ hk => hk) trivial (Below.refl _ _) (Nat.le_refl _) (by simp) ?_; (case hd => rfl); (case hg => rfl); (case hr => first | (go_simp; done) | (go_simp; rfl)); (case hp => exact (Reps.one (show Kd.M (Kd.int .u8) _ _ _ ((wrap64 (97 + x6_1)) % 256) [.int .u8 ((wrap64 (97 + x6_1)) % 256)] from rfl) (Reps.none _ _))); intro v454 w19 ho20 hb hg_ hnew_; clear hg_ hnew_; (first | rw [← Ny453.out] at ho20 | (simp only [Int.reduceToNat] at ho20; rw [← Ny453.out] at ho20)); have n0_ := Aside0.mk (Kd.S_below (by (with_reducible repeat (first | apply Kd.S_alloc | apply Kd.S_drewN | apply Kd.S_drew)); exact HO_4.out) hb); have n1_ := Aside0.mk (Kd.R_lower ho20 (below_size (by repeat (first | (with_reducible first | exact HB.out | apply below_alloc | apply pw_below_drewN | apply below_drew1) | exact HB.out)))); have n2_ := Aside0.mk (below_step (by repeat (first | (with_reducible first | exact HB.out | apply below_alloc | apply pw_below_drewN | apply below_drew1) | exact HB.out)) hb); clear HO_4; clear HB; have HO_4 := n0_; have HO455 := n1_; have HB := n2_; clear n0_ n1_ n2_; clear hb ho20; have hcv21 := own_string (P := Tryz.prog) Tryz.underlying39 Tryz.underlying5 Tryz.underlying9 (Kd.own_of_R HO455.out); have p456 : 0 ≤ (x6_1 : Int) := of_decide_eq_true (by first | (with_reducible assumption) | assumption); have q456 : x6_1 < (l0.length : Int) := of_decide_eq_true (by first | (with_reducible assumption) | assumption); obtain ⟨ad456, e456, hx456_0⟩ := Kd.at_int HR0.out x6_1 p456 q456; cases e456; replace hx456_0 := (HB.out.cell (World.block_lt_of_cell? w _ hx456_0)).trans hx456_0; replace p456 := eq_true p456; replace q456 := eq_true q456) | ((with_reducible refine gate_dst (N := 39) rfl ?_); (try (refine gate_guard (by rfl) ?_; dsimp only)); refine Kd.R_lit Kd.string _ 9 ?hg (N := 39) ?hd (xs := ([(⟨#[111]⟩ : ByteArray) ++ (strOfNums y453)] : List ByteArray)) (inner := [.string ((⟨#[111]⟩ : ByteArray) ++ (strOfNums y453))]) (ok := fun _ => True) (okp := fun _ => True) ?hr ?hp (fun _ hk => hk) trivial (Below.refl _ _) (Nat.le_refl _) (by simp) ?_; (case hd => rfl); (case hg => rfl); (case hr => first | (go_simp; done) | (go_simp; rfl)); (case hp => exact (Reps.one (show Kd.M Kd.string _ _ _ ((⟨#[111]⟩ : ByteArray) ++ (strOfNums y453)) [.string ((⟨#[111]⟩ : ByteArray) ++ (strOfNums y453))] from rfl) (Reps.none _ _))); intro v458 w22 ho23 hb hg_ hnew_; clear hg_ hnew_; (first | rw [← Ny457.out] at ho23 | (simp only [Int.reduceToNat] at ho23; rw [← Ny457.out] at ho23)); have n0_ := Aside0.mk (Kd.S_elder' (by (with_reducible repeat (first | apply Kd.S_alloc | apply Kd.S_drewN | apply Kd.S_drew)); exact HO_4.out) (Kd.R_base ho23) hb); have n1_ := Aside0.mk (Kd.R_below (by (with_reducible repeat (first | apply Kd.R_alloc | apply Kd.R_drewN | apply Kd.R_drew)); exact HO455.out) hb); have n2_ := Aside0.mk (Kd.R_lower ho23 (below_size (by repeat (first | (with_reducible first | exact HB.out | apply below_alloc | apply pw_below_drewN | apply below_drew1) | exact HB.out)))); have n3_ := Aside0.mk (below_step (by repeat (first | (with_reducible first | exact HB.out | apply below_alloc | apply pw_below_drewN | apply below_drew1) | exact HB.out)) hb); clear HO_4; clear HO455; clear HB; have HO_4 := n0_; have HO455 := n1_; have HO459 := n2_; have HB := n3_; clear n0_ n1_ n2_ n3_; clear hb ho23) | ((with_reducible refine gate_dst (N := 40) rfl ?_); (try (refine gate_guard (by rfl) ?_; dsimp only)); refine Kd.R_lit Kd.string _ 9 ?hg (N := 40) ?hd (xs := ([(⟨#[105, 49]⟩ : ByteArray), (⟨#[105, 50]⟩ : ByteArray)] : List ByteArray)) (inner := [.string (⟨#[105, 49]⟩ : ByteArray), .string (⟨#[105, 50]⟩ : ByteArray)]) (ok := fun _ => True) (okp := fun _ => True) ?hr ?hp (fun _ hk => hk) trivial (Below.refl _ _) (Nat.le_refl _) (by simp) ?_; (case hd => rfl); (case hg => rfl); (case hr => first | (go_simp; done) | (go_simp; rfl)); (case hp => exact (Reps.one (show Kd.M Kd.string _ _ _ (⟨#[105, 49]⟩ : ByteArray) [.string (⟨#[105, 49]⟩ : ByteArray)] from rfl) (Reps.one (show Kd.M Kd.string _ _ _ (⟨#[105, 50]⟩ : ByteArray) [.string (⟨#[105, 50]⟩ : ByteArray)] from rfl) (Reps.none _ _)))); intro v461 w24 ho25 hb hg_ hnew_; clear hg_ hnew_; (first | rw [← Ny460.out] at ho25 | (simp only [Int.reduceToNat] at ho25; rw [← Ny460.out] at ho25)); have n0_ := Aside0.mk (Kd.S_elder' (by (with_reducible repeat (first | apply Kd.S_alloc | apply Kd.S_drewN | apply Kd.S_drew)); exact HO_4.out) (Kd.R_base ho25) hb); have n1_ := Aside0.mk (Kd.R_below (by (with_reducible repeat (first | apply Kd.R_alloc | apply Kd.R_drewN | apply Kd.R_drew)); exact HO455.out) hb); have n2_ := Aside0.mk (Kd.R_elder' (by (with_reducible repeat (first | apply Kd.R_alloc | apply Kd.R_drewN | apply Kd.R_drew)); exact HO459.out) (Kd.R_base ho25) hb); have n3_ := Aside0.mk (Kd.R_lower (Kd.R_new' ho25 (Kd.R_lt (by (with_reducible repeat (first | apply Kd.R_alloc | apply Kd.R_drewN | apply Kd.R_drew)); exact HO459.out))) (below_size (by repeat (first | (with_reducible first | exact HB.out | apply below_alloc | apply pw_below_drewN | apply below_drew1) | exact HB.out)))); have n4_ := Aside0.mk (below_step (by repeat (first | (with_reducible first | exact HB.out | apply below_alloc | apply pw_below_drewN | apply below_drew1) | exact HB.out)) hb); clear HO_4; clear HO455; clear HO459; clear HB; have HO_4 := n0_; have HO455 := n1_; have HO459 := n2_; have HO462 := n3_; have HB := n4_; clear n0_ n1_ n2_ n3_ n4_; clear hb ho25) | ((with_reducible refine gate_dst (N := 41) rfl ?_); (try (refine gate_guard (by rfl) ?_; dsimp only)); refine Kd.R_lit Kd.string _ 9 ?hg (N := 41) ?hd (xs := ([(⟨#[104]⟩ : ByteArray)] : List ByteArray)) (inner := [.string (⟨#[104]⟩ : ByteArray)]) (ok := fun _ => True) (okp := fun _ => True) ?hr ?hp (fun _ hk => hk) trivial (Below.refl _ _) (Nat.le_refl _) (by simp) ?_; (case hd => rfl); (case hg => rfl); (case hr => first | (go_simp; done) | (go_simp; rfl)); (case hp => exact (Reps.one (show Kd.M Kd.string _ _ _ (⟨#[104]⟩ : ByteArray) [.string (⟨#[104]⟩ : ByteArray)] from rfl) (Reps.none _ _))); intro v464 w26 ho27 hb hg_ hnew_; clear hg_ hnew_; (first | rw [← Ny463.out] at ho27 | (simp only [Int.reduceToNat] at ho27; rw [← Ny463.out] at ho27)); have n0_ := Aside0.mk (Kd.S_elder' (by (with_reducible repeat (first | apply Kd.S_alloc | apply Kd.S_drewN | apply Kd.S_drew)); exact HO_4.out) (Kd.R_base ho27) hb); have n1_ := Aside0.mk (Kd.R_below (by (with_reducible repeat (first | apply Kd.R_alloc | apply Kd.R_drewN | apply Kd.R_drew)); exact HO455.out) hb); have n2_ := Aside0.mk (Kd.R_elder' (by (with_reducible repeat (first | apply Kd.R_alloc | apply Kd.R_drewN | apply Kd.R_drew)); exact HO459.out) (Kd.R_base ho27) hb); have n3_ := Aside0.mk (Kd.R_elder' (by (with_reducible repeat (first | apply Kd.R_alloc | apply Kd.R_drewN | apply Kd.R_drew)); exact HO462.out) (Kd.R_base ho27) hb); have n4_ := Aside0.mk (Kd.R_lower (Kd.R_new' (Kd.R_new' ho27 (Kd.R_lt (by (with_reducible repeat (first | apply Kd.R_alloc | apply Kd.R_drewN | apply Kd.R_drew)); exact HO459.out))) (Kd.R_lt (by (with_reducible repeat (first | apply Kd.R_alloc | apply Kd.R_drewN | apply Kd.R_drew)); exact HO462.out))) (below_size (by repeat (first | (with_reducible first | exact HB.out | apply below_alloc | apply pw_below_drewN | apply below_drew1) | exact HB.out)))); have n5_ := Aside0.mk (below_step (by repeat (first | (with_reducible first | exact HB.out | apply below_alloc | apply pw_below_drewN | apply below_drew1) | exact HB.out)) hb); clear HO_4; clear HO455; clear HO459; clear HO462; clear HB; have HO_4 := n0_; have HO455 := n1_; have HO459 := n2_; have HO462 := n3_; have HO465 := n4_; have HB := n5_; clear n0_ n1_ n2_ n3_ n4_ n5_; clear hb ho27; obtain ⟨Ao28, co28, eo28⟩ := Kd.R_slice HO465.out; subst eo28; obtain ⟨Ao29, co29, eo29⟩ := Kd.R_slice HO462.out; subst eo29; obtain ⟨Ao30, co30, eo30⟩ := Kd.R_slice HO459.out; subst eo30) | ((with_reducible refine gate_dst (N := 8) rfl ?_); (try (refine gate_guard (by rfl) ?_; dsimp only)); refine box_event ?hg (N := 8) ?hd (cs := #[.slice none 0 0, .slice none 0 0, .slice none 0 0, .slice none 0 0, .string (⟨#[]⟩ : ByteArray), .bool false, .string (⟨#[]⟩ : ByteArray)]) (t := 42) ?hr ?_; (case hd => rfl); (case hg => rfl); (case hr => first | (go_simp; done) | (go_simp; rfl)); intro gb466 hg w31 hbox hb; have n0_ := Aside0.mk (Kd.S_below (Kd.S_elderB (by (with_reducible repeat (first | apply Kd.S_alloc | apply Kd.S_drewN | apply Kd.S_drew)); exact HO_4.out) gb466 (Nat.le_of_eq hg.symm)) hb); have n1_ := Aside0.mk (Kd.R_below (by (with_reducible repeat (first | apply Kd.R_alloc | apply Kd.R_drewN | apply Kd.R_drew)); exact HO455.out) hb); have n2_ := Aside0.mk (Kd.R_below (by (with_reducible repeat (first | apply Kd.R_alloc | apply Kd.R_drewN | apply Kd.R_drew)); exact HO459.out) hb); have n3_ := Aside0.mk (Kd.R_below (by (with_reducible repeat (first | apply Kd.R_alloc | apply Kd.R_drewN | apply Kd.R_drew)); exact HO462.out) hb); have n4_ := Aside0.mk (Kd.R_below (by (with_reducible repeat (first | apply Kd.R_alloc | apply Kd.R_drewN | apply Kd.R_drew)); exact HO465.out) hb); have n5_ := Aside0.mk (below_step (by repeat (first | (with_reducible first | exact HB.out | apply below_alloc | apply pw_below_drewN | apply below_drew1) | exact HB.out)) hb); have n6_ := Aside0.mk (hbox); have n7_ := Aside0.mk ((by rw [hg]; exact (below_size (by repeat (first | (with_reducible first | exact HB.out | apply below_alloc | apply pw_below_drewN | apply below_drew1) | exact HB.out))) : w.heap.size ≤ gb466)); have n8_ := Aside0.mk ((by rw [hg]; exact (below_size (by repeat (first | (with_reducible first | exact HB.out | apply below_alloc | apply pw_below_drewN | apply below_drew1) | exact HB.out))) : w.heap.size ≤ gb466)); clear HO_4; clear HO455; clear HO459; clear HO462; clear HO465; clear HB; have HO_4 := n0_; have HO455 := n1_; have HO459 := n2_; have HO462 := n3_; have HO465 := n4_; have HB := n5_; have BK466 := n6_; have GW466 := n7_; have GE466 := n8_; clear n0_ n1_ n2_ n3_ n4_ n5_ n6_ n7_ n8_; clear hb hbox hg; have hcz32_0 : w31.cell? ⟨gb466, 0, none⟩ = some (.slice none 0 0) := (blk_cell BK466.out 0).trans rfl; have hcz32_1 : w31.cell? ⟨gb466, 1, none⟩ = some (.slice none 0 0) := (blk_cell BK466.out 1).trans rfl; have hcz32_2 : w31.cell? ⟨gb466, 2, none⟩ = some (.slice none 0 0) := (blk_cell BK466.out 2).trans rfl; have hcz32_3 : w31.cell? ⟨gb466, 3, none⟩ = some (.slice none 0 0) := (blk_cell BK466.out 3).trans rfl; have hcz32_4 : w31.cell? ⟨gb466, 4, none⟩ = some (.string (⟨#[]⟩ : ByteArray)) := (blk_cell BK466.out 4).trans rfl; have hcz32_5 : w31.cell? ⟨gb466, 5, none⟩ = some (.bool false) := (blk_cell BK466.out 5).trans rfl; have hcz32_6 : w31.cell? ⟨gb466, 6, none⟩ = some (.string (⟨#[]⟩ : ByteArray)) := (blk_cell BK466.out 6).trans rfl; have hfz32_0 := blk_frozen BK466.out 0; have hfz32_1 := blk_frozen BK466.out 1; have hfz32_2 := blk_frozen BK466.out 2; have hfz32_3 := blk_frozen BK466.out 3; have hfz32_4 := blk_frozen BK466.out 4; have hfz32_5 := blk_frozen BK466.out 5; have hfz32_6 := blk_frozen BK466.out 6) | ((with_reducible refine gate_store (t := 42) (p := 8) rfl ?_); refine store_event (t := 42) (p := 8) (v := ?vo_w33) (w1 := (((((((w31.setCell ⟨gb466, 0, none⟩ (.slice Ao30 y457.length co30)).setCell ⟨gb466, 1, none⟩ (.slice Ao29 y460.length co29)).setCell ⟨gb466, 2, none⟩ (.slice Ao28 y463.length co28)).setCell ⟨gb466, 3, none⟩ (.slice none 0 0)).setCell ⟨gb466, 4, none⟩ (.string ((⟨#[97, 32, 45, 119, 32, 105, 49, 32, 105, 50, 32, 62, 32]⟩ : ByteArray) ++ ((⟨#[111]⟩ : ByteArray) ++ (strOfNums y453))))).setCell ⟨gb466, 5, none⟩ (.bool false)).setCell ⟨gb466, 6, none⟩ (.string (⟨#[]⟩ : ByteArray)))) ?hg ?ho ?hn ?hr ?_; (case ho => rfl); (case hg => rfl); (case hn => rfl); (case hr => first | (go_simp; done) | (go_simp; rfl)); intro w33 hw; have n0_ : Aside0 (Kd.S k42 42 w33 w.heap.size (fun k_ => some k_ ≠ (.slice Ao30 y457.length co30 : Value).ownBlock ∧ some k_ ≠ (.slice Ao29 y460.length co29 : Value).ownBlock ∧ some k_ ≠ (.slice Ao28 y463.length co28 : Value).ownBlock ∧ k_ ≠ gb466) u4 x4_1) := ⟨(by rw [hw]; exact (by (with_reducible repeat (first | apply Kd.S_alloc | apply Kd.S_drewN | apply Kd.S_drew)); exact Kd.S_mono (Kd.S_far (p := ⟨gb466, 6, none⟩) (Kd.S_far (p := ⟨gb466, 5, none⟩) (Kd.S_far (p := ⟨gb466, 4, none⟩) (Kd.S_far (p := ⟨gb466, 3, none⟩) (Kd.S_far (p := ⟨gb466, 2, none⟩) (Kd.S_far (p := ⟨gb466, 1, none⟩) (Kd.S_far (p := ⟨gb466, 0, none⟩) (Kd.S_mono HO_4.out (fun k_ hk => (⟨hk, hk.2⟩ : _ ∧ k_ ≠ gb466))) (fun _ hk => hk.2) (.slice Ao30 y457.length co30)) (fun _ hk => hk.2) (.slice Ao29 y460.length co29)) (fun _ hk => hk.2) (.slice Ao28 y463.length co28)) (fun _ hk => hk.2) (.slice none 0 0)) (fun _ hk => hk.2) (.string ((⟨#[97, 32, 45, 119, 32, 105, 49, 32, 105, 50, 32, 62, 32]⟩ : ByteArray) ++ ((⟨#[111]⟩ : ByteArray) ++ (strOfNums y453))))) (fun _ hk => hk.2) (.bool false)) (fun _ hk => hk.2) (.string (⟨#[]⟩ : ByteArray))) (fun _ hk => ⟨hk.1.1.1.1.2, ⟨hk.1.1.1.2, ⟨hk.1.1.2, hk.1.2⟩⟩⟩)))⟩; have n1_ : Aside0 (Kd.R (Kd.int .u8) 5 w33 w.heap.size (fun _ => True) v454 y453) := ⟨(by rw [hw]; exact (by (with_reducible repeat (first | apply Kd.R_alloc | apply Kd.R_drewN | apply Kd.R_drew)); exact Kd.R_mono (Kd.R_far (p := ⟨gb466, 6, none⟩) (Kd.R_far (p := ⟨gb466, 5, none⟩) (Kd.R_far (p := ⟨gb466, 4, none⟩) (Kd.R_far (p := ⟨gb466, 3, none⟩) (Kd.R_far (p := ⟨gb466, 2, none⟩) (Kd.R_far (p := ⟨gb466, 1, none⟩) (Kd.R_far (p := ⟨gb466, 0, none⟩) (Kd.R_types HO455.out BK466.out (by decide)) (fun _ hk => hk.2) (.slice Ao30 y457.length co30)) (fun _ hk => hk.2) (.slice Ao29 y460.length co29)) (fun _ hk => hk.2) (.slice Ao28 y463.length co28)) (fun _ hk => hk.2) (.slice none 0 0)) (fun _ hk => hk.2) (.string ((⟨#[97, 32, 45, 119, 32, 105, 49, 32, 105, 50, 32, 62, 32]⟩ : ByteArray) ++ ((⟨#[111]⟩ : ByteArray) ++ (strOfNums y453))))) (fun _ hk => hk.2) (.bool false)) (fun _ hk => hk.2) (.string (⟨#[]⟩ : ByteArray))) (fun _ hk => trivial)))⟩; have n2_ : Aside0 (Kd.R Kd.string 9 w33 w.heap.size (fun k_ => some k_ ≠ (.slice Ao29 y460.length co29 : Value).ownBlock ∧ some k_ ≠ (.slice Ao28 y463.length co28 : Value).ownBlock) (.slice Ao30 y457.length co30) y457) := ⟨(by rw [hw]; exact (by (with_reducible repeat (first | apply Kd.R_alloc | apply Kd.R_drewN | apply Kd.R_drew)); exact Kd.R_mono (Kd.R_far (p := ⟨gb466, 6, none⟩) (Kd.R_far (p := ⟨gb466, 5, none⟩) (Kd.R_far (p := ⟨gb466, 4, none⟩) (Kd.R_far (p := ⟨gb466, 3, none⟩) (Kd.R_far (p := ⟨gb466, 2, none⟩) (Kd.R_far (p := ⟨gb466, 1, none⟩) (Kd.R_far (p := ⟨gb466, 0, none⟩) (Kd.R_types HO459.out BK466.out (by decide)) (fun _ hk => hk.2) (.slice Ao30 y457.length co30)) (fun _ hk => hk.2) (.slice Ao29 y460.length co29)) (fun _ hk => hk.2) (.slice Ao28 y463.length co28)) (fun _ hk => hk.2) (.slice none 0 0)) (fun _ hk => hk.2) (.string ((⟨#[97, 32, 45, 119, 32, 105, 49, 32, 105, 50, 32, 62, 32]⟩ : ByteArray) ++ ((⟨#[111]⟩ : ByteArray) ++ (strOfNums y453))))) (fun _ hk => hk.2) (.bool false)) (fun _ hk => hk.2) (.string (⟨#[]⟩ : ByteArray))) (fun _ hk => ⟨hk.1.1.2, hk.1.2⟩)))⟩; have n3_ : Aside0 (Kd.R Kd.string 9 w33 w.heap.size (fun k_ => some k_ ≠ (.slice Ao30 y457.length co30 : Value).ownBlock ∧ some k_ ≠ (.slice Ao28 y463.length co28 : Value).ownBlock) (.slice Ao29 y460.length co29) y460) := ⟨(by rw [hw]; exact (by (with_reducible repeat (first | apply Kd.R_alloc | apply Kd.R_drewN | apply Kd.R_drew)); exact Kd.R_mono (Kd.R_far (p := ⟨gb466, 6, none⟩) (Kd.R_far (p := ⟨gb466, 5, none⟩) (Kd.R_far (p := ⟨gb466, 4, none⟩) (Kd.R_far (p := ⟨gb466, 3, none⟩) (Kd.R_far (p := ⟨gb466, 2, none⟩) (Kd.R_far (p := ⟨gb466, 1, none⟩) (Kd.R_far (p := ⟨gb466, 0, none⟩) (Kd.R_types HO462.out BK466.out (by decide)) (fun _ hk => hk.2) (.slice Ao30 y457.length co30)) (fun _ hk => hk.2) (.slice Ao29 y460.length co29)) (fun _ hk => hk.2) (.slice Ao28 y463.length co28)) (fun _ hk => hk.2) (.slice none 0 0)) (fun _ hk => hk.2) (.string ((⟨#[97, 32, 45, 119, 32, 105, 49, 32, 105, 50, 32, 62, 32]⟩ : ByteArray) ++ ((⟨#[111]⟩ : ByteArray) ++ (strOfNums y453))))) (fun _ hk => hk.2) (.bool false)) (fun _ hk => hk.2) (.string (⟨#[]⟩ : ByteArray))) (fun _ hk => ⟨hk.1.1.2, hk.1.2⟩)))⟩; have n4_ : Aside0 (Kd.R Kd.string 9 w33 w.heap.size (fun k_ => some k_ ≠ (.slice Ao30 y457.length co30 : Value).ownBlock ∧ some k_ ≠ (.slice Ao29 y460.length co29 : Value).ownBlock) (.slice Ao28 y463.length co28) y463) := ⟨(by rw [hw]; exact (by (with_reducible repeat (first | apply Kd.R_alloc | apply Kd.R_drewN | apply Kd.R_drew)); exact Kd.R_mono (Kd.R_far (p := ⟨gb466, 6, none⟩) (Kd.R_far (p := ⟨gb466, 5, none⟩) (Kd.R_far (p := ⟨gb466, 4, none⟩) (Kd.R_far (p := ⟨gb466, 3, none⟩) (Kd.R_far (p := ⟨gb466, 2, none⟩) (Kd.R_far (p := ⟨gb466, 1, none⟩) (Kd.R_far (p := ⟨gb466, 0, none⟩) (Kd.R_types HO465.out BK466.out (by decide)) (fun _ hk => hk.2) (.slice Ao30 y457.length co30)) (fun _ hk => hk.2) (.slice Ao29 y460.length co29)) (fun _ hk => hk.2) (.slice Ao28 y463.length co28)) (fun _ hk => hk.2) (.slice none 0 0)) (fun _ hk => hk.2) (.string ((⟨#[97, 32, 45, 119, 32, 105, 49, 32, 105, 50, 32, 62, 32]⟩ : ByteArray) ++ ((⟨#[111]⟩ : ByteArray) ++ (strOfNums y453))))) (fun _ hk => hk.2) (.bool false)) (fun _ hk => hk.2) (.string (⟨#[]⟩ : ByteArray))) (fun _ hk => ⟨hk.1.1.2, hk.1.2⟩)))⟩; have n5_ : Aside0 (w33.heap[gb466]? = some (.cells #[.slice Ao30 y457.length co30, .slice Ao29 y460.length co29, .slice Ao28 y463.length co28, .slice none 0 0, .string ((⟨#[97, 32, 45, 119, 32, 105, 49, 32, 105, 50, 32, 62, 32]⟩ : ByteArray) ++ ((⟨#[111]⟩ : ByteArray) ++ (strOfNums y453))), .bool false, .string (⟨#[]⟩ : ByteArray)] 42 (0, 0))) := ⟨(by rw [hw]; exact (by (with_reducible repeat (first | refine blk_drewN ?_ _ | refine blk_drew ?_ | refine blk_alloc ?_ _)); refine blk_put (cs := #[.slice Ao30 y457.length co30, .slice Ao29 y460.length co29, .slice Ao28 y463.length co28, .slice none 0 0, .string ((⟨#[97, 32, 45, 119, 32, 105, 49, 32, 105, 50, 32, 62, 32]⟩ : ByteArray) ++ ((⟨#[111]⟩ : ByteArray) ++ (strOfNums y453))), .bool false, .string (⟨#[]⟩ : ByteArray)]) ?_ 6 _ rfl; (with_reducible repeat (first | refine blk_drewN ?_ _ | refine blk_drew ?_ | refine blk_alloc ?_ _)); refine blk_put (cs := #[.slice Ao30 y457.length co30, .slice Ao29 y460.length co29, .slice Ao28 y463.length co28, .slice none 0 0, .string ((⟨#[97, 32, 45, 119, 32, 105, 49, 32, 105, 50, 32, 62, 32]⟩ : ByteArray) ++ ((⟨#[111]⟩ : ByteArray) ++ (strOfNums y453))), .bool false, .string (⟨#[]⟩ : ByteArray)]) ?_ 5 _ rfl; (with_reducible repeat (first | refine blk_drewN ?_ _ | refine blk_drew ?_ | refine blk_alloc ?_ _)); refine blk_put (cs := #[.slice Ao30 y457.length co30, .slice Ao29 y460.length co29, .slice Ao28 y463.length co28, .slice none 0 0, .string (⟨#[]⟩ : ByteArray), .bool false, .string (⟨#[]⟩ : ByteArray)]) ?_ 4 _ rfl; (with_reducible repeat (first | refine blk_drewN ?_ _ | refine blk_drew ?_ | refine blk_alloc ?_ _)); refine blk_put (cs := #[.slice Ao30 y457.length co30, .slice Ao29 y460.length co29, .slice Ao28 y463.length co28, .slice none 0 0, .string (⟨#[]⟩ : ByteArray), .bool false, .string (⟨#[]⟩ : ByteArray)]) ?_ 3 _ rfl; (with_reducible repeat (first | refine blk_drewN ?_ _ | refine blk_drew ?_ | refine blk_alloc ?_ _)); refine blk_put (cs := #[.slice Ao30 y457.length co30, .slice Ao29 y460.length co29, .slice none 0 0, .slice none 0 0, .string (⟨#[]⟩ : ByteArray), .bool false, .string (⟨#[]⟩ : ByteArray)]) ?_ 2 _ rfl; (with_reducible repeat (first | refine blk_drewN ?_ _ | refine blk_drew ?_ | refine blk_alloc ?_ _)); refine blk_put (cs := #[.slice Ao30 y457.length co30, .slice none 0 0, .slice none 0 0, .slice none 0 0, .string (⟨#[]⟩ : ByteArray), .bool false, .string (⟨#[]⟩ : ByteArray)]) ?_ 1 _ rfl; (with_reducible repeat (first | refine blk_drewN ?_ _ | refine blk_drew ?_ | refine blk_alloc ?_ _)); refine blk_put (cs := #[.slice none 0 0, .slice none 0 0, .slice none 0 0, .slice none 0 0, .string (⟨#[]⟩ : ByteArray), .bool false, .string (⟨#[]⟩ : ByteArray)]) ?_ 0 _ rfl; (with_reducible repeat (first | refine blk_drewN ?_ _ | refine blk_drew ?_ | refine blk_alloc ?_ _)); exact BK466.out))⟩; have n6_ : Aside0 (Below w.heap.size w w33) := ⟨(by rw [hw]; exact (by repeat (first | (with_reducible first | exact HB.out | apply below_alloc | apply pw_below_drewN | apply below_drew1 | refine below_set ?_ GE466.out) | exact HB.out)))⟩; clear hw; clear HO_4; clear HO455; clear HO459; clear HO462; clear HO465; clear BK466; clear HB; have HO_4 := n0_; have HO455 := n1_; have HO459 := n2_; have HO462 := n3_; have HO465 := n4_; have BK466 := n5_; have HB := n6_; clear n0_ n1_ n2_ n3_ n4_ n5_ n6_; have p467 : 0 ≤ (x6_1 : Int) := of_decide_eq_true (by first | (with_reducible assumption) | assumption); have q467 : x6_1 < (l0.length : Int) := of_decide_eq_true (by first | (with_reducible assumption) | assumption); obtain ⟨ad467, e467, hx467_0⟩ := Kd.at_int HR0.out x6_1 p467 q467; obtain rfl : ad456 = ad467 := (by injection e467); replace hx467_0 := (HB.out.cell (World.block_lt_of_cell? w _ hx467_0)).trans hx467_0; replace p467 := eq_true p467; replace q467 := eq_true q467; have hcz34_0 : w33.cell? ⟨gb466, 0, none⟩ = some (.slice Ao30 y457.length co30) := (blk_cell BK466.out 0).trans rfl; have hcz34_1 : w33.cell? ⟨gb466, 1, none⟩ = some (.slice Ao29 y460.length co29) := (blk_cell BK466.out 1).trans rfl; have hcz34_2 : w33.cell? ⟨gb466, 2, none⟩ = some (.slice Ao28 y463.length co28) := (blk_cell BK466.out 2).trans rfl; have hcz34_3 : w33.cell? ⟨gb466, 3, none⟩ = some (.slice none 0 0) := (blk_cell BK466.out 3).trans rfl; have hcz34_4 : w33.cell? ⟨gb466, 4, none⟩ = some (.string ((⟨#[97, 32, 45, 119, 32, 105, 49, 32, 105, 50, 32, 62, 32]⟩ : ByteArray) ++ ((⟨#[111]⟩ : ByteArray) ++ (strOfNums y453)))) := (blk_cell BK466.out 4).trans rfl; have hcz34_5 : w33.cell? ⟨gb466, 5, none⟩ = some (.bool false) := (blk_cell BK466.out 5).trans rfl; have hcz34_6 : w33.cell? ⟨gb466, 6, none⟩ = some (.string (⟨#[]⟩ : ByteArray)) := (blk_cell BK466.out 6).trans rfl; have hfz34_0 := blk_frozen BK466.out 0; have hfz34_1 := blk_frozen BK466.out 1; have hfz34_2 := blk_frozen BK466.out 2; have hfz34_3 := blk_frozen BK466.out 3; have hfz34_4 := blk_frozen BK466.out 4; have hfz34_5 := blk_frozen BK466.out 5; have hfz34_6 := blk_frozen BK466.out 6) | ((with_reducible refine gate_store (t := 9) (p := 56) rfl ?_); refine store_event (t := 9) (p := 56) (v := ?vo_w35) (w1 := (w33.setCell ⟨gb466, 4, none⟩ (.string (((⟨#[97, 32, 45, 113, 32, 105, 49, 32, 105, 50, 32, 62, 32]⟩ : ByteArray) ++ ((⟨#[111]⟩ : ByteArray) ++ (strOfNums y453))) ++ (⟨#[45, 119, 33]⟩ : ByteArray))))) ?hg ?ho ?hn ?hr ?_; (case ho => rfl); (case hg => rfl); (case hn => rfl); (case hr => first | (go_simp; done) | (go_simp; rfl)); intro w35 hw; have n0_ : Aside0 (Kd.S k42 42 w35 w.heap.size (fun k_ => some k_ ≠ (.slice Ao30 y457.length co30 : Value).ownBlock ∧ some k_ ≠ (.slice Ao29 y460.length co29 : Value).ownBlock ∧ some k_ ≠ (.slice Ao28 y463.length co28 : Value).ownBlock ∧ k_ ≠ gb466) u4 x4_1) := ⟨(by rw [hw]; exact (by (with_reducible repeat (first | apply Kd.S_alloc | apply Kd.S_drewN | apply Kd.S_drew)); exact Kd.S_mono (Kd.S_far (p := ⟨gb466, 4, none⟩) (Kd.S_mono HO_4.out (fun k_ hk => (⟨hk, hk.2.2.2⟩ : _ ∧ k_ ≠ gb466))) (fun _ hk => hk.2) (.string (((⟨#[97, 32, 45, 113, 32, 105, 49, 32, 105, 50, 32, 62, 32]⟩ : ByteArray) ++ ((⟨#[111]⟩ : ByteArray) ++ (strOfNums y453))) ++ (⟨#[45, 119, 33]⟩ : ByteArray)))) (fun _ hk => ⟨hk.1.1, ⟨hk.1.2.1, ⟨hk.1.2.2.1, hk.1.2.2.2⟩⟩⟩)))⟩; have n1_ : Aside0 (Kd.R (Kd.int .u8) 5 w35 w.heap.size (fun _ => True) v454 y453) := ⟨(by rw [hw]; exact (by (with_reducible repeat (first | apply Kd.R_alloc | apply Kd.R_drewN | apply Kd.R_drew)); exact Kd.R_mono (Kd.R_far (p := ⟨gb466, 4, none⟩) (Kd.R_types HO455.out BK466.out (by decide)) (fun _ hk => hk.2) (.string (((⟨#[97, 32, 45, 113, 32, 105, 49, 32, 105, 50, 32, 62, 32]⟩ : ByteArray) ++ ((⟨#[111]⟩ : ByteArray) ++ (strOfNums y453))) ++ (⟨#[45, 119, 33]⟩ : ByteArray)))) (fun _ hk => trivial)))⟩; have n2_ : Aside0 (Kd.R Kd.string 9 w35 w.heap.size (fun k_ => some k_ ≠ (.slice Ao29 y460.length co29 : Value).ownBlock ∧ some k_ ≠ (.slice Ao28 y463.length co28 : Value).ownBlock) (.slice Ao30 y457.length co30) y457) := ⟨(by rw [hw]; exact (by (with_reducible repeat (first | apply Kd.R_alloc | apply Kd.R_drewN | apply Kd.R_drew)); exact Kd.R_mono (Kd.R_far (p := ⟨gb466, 4, none⟩) (Kd.R_types HO459.out BK466.out (by decide)) (fun _ hk => hk.2) (.string (((⟨#[97, 32, 45, 113, 32, 105, 49, 32, 105, 50, 32, 62, 32]⟩ : ByteArray) ++ ((⟨#[111]⟩ : ByteArray) ++ (strOfNums y453))) ++ (⟨#[45, 119, 33]⟩ : ByteArray)))) (fun _ hk => ⟨hk.1.1, hk.1.2⟩)))⟩; have n3_ : Aside0 (Kd.R Kd.string 9 w35 w.heap.size (fun k_ => some k_ ≠ (.slice Ao30 y457.length co30 : Value).ownBlock ∧ some k_ ≠ (.slice Ao28 y463.length co28 : Value).ownBlock) (.slice Ao29 y460.length co29) y460) := ⟨(by rw [hw]; exact (by (with_reducible repeat (first | apply Kd.R_alloc | apply Kd.R_drewN | apply Kd.R_drew)); exact Kd.R_mono (Kd.R_far (p := ⟨gb466, 4, none⟩) (Kd.R_types HO462.out BK466.out (by decide)) (fun _ hk => hk.2) (.string (((⟨#[97, 32, 45, 113, 32, 105, 49, 32, 105, 50, 32, 62, 32]⟩ : ByteArray) ++ ((⟨#[111]⟩ : ByteArray) ++ (strOfNums y453))) ++ (⟨#[45, 119, 33]⟩ : ByteArray)))) (fun _ hk => ⟨hk.1.1, hk.1.2⟩)))⟩; have n4_ : Aside0 (Kd.R Kd.string 9 w35 w.heap.size (fun k_ => some k_ ≠ (.slice Ao30 y457.length co30 : Value).ownBlock ∧ some k_ ≠ (.slice Ao29 y460.length co29 : Value).ownBlock) (.slice Ao28 y463.length co28) y463) := ⟨(by rw [hw]; exact (by (with_reducible repeat (first | apply Kd.R_alloc | apply Kd.R_drewN | apply Kd.R_drew)); exact Kd.R_mono (Kd.R_far (p := ⟨gb466, 4, none⟩) (Kd.R_types HO465.out BK466.out (by decide)) (fun _ hk => hk.2) (.string (((⟨#[97, 32, 45, 113, 32, 105, 49, 32, 105, 50, 32, 62, 32]⟩ : ByteArray) ++ ((⟨#[111]⟩ : ByteArray) ++ (strOfNums y453))) ++ (⟨#[45, 119, 33]⟩ : ByteArray)))) (fun _ hk => ⟨hk.1.1, hk.1.2⟩)))⟩; have n5_ : Aside0 (w35.heap[gb466]? = some (.cells #[.slice Ao30 y457.length co30, .slice Ao29 y460.length co29, .slice Ao28 y463.length co28, .slice none 0 0, .string (((⟨#[97, 32, 45, 113, 32, 105, 49, 32, 105, 50, 32, 62, 32]⟩ : ByteArray) ++ ((⟨#[111]⟩ : ByteArray) ++ (strOfNums y453))) ++ (⟨#[45, 119, 33]⟩ : ByteArray)), .bool false, .string (⟨#[]⟩ : ByteArray)] 42 (0, 0))) := ⟨(by rw [hw]; exact (by (with_reducible repeat (first | refine blk_drewN ?_ _ | refine blk_drew ?_ | refine blk_alloc ?_ _)); refine blk_put (cs := #[.slice Ao30 y457.length co30, .slice Ao29 y460.length co29, .slice Ao28 y463.length co28, .slice none 0 0, .string ((⟨#[97, 32, 45, 119, 32, 105, 49, 32, 105, 50, 32, 62, 32]⟩ : ByteArray) ++ ((⟨#[111]⟩ : ByteArray) ++ (strOfNums y453))), .bool false, .string (⟨#[]⟩ : ByteArray)]) ?_ 4 _ rfl; (with_reducible repeat (first | refine blk_drewN ?_ _ | refine blk_drew ?_ | refine blk_alloc ?_ _)); exact BK466.out))⟩; have n6_ : Aside0 (Below w.heap.size w w35) := ⟨(by rw [hw]; exact (by repeat (first | (with_reducible first | exact HB.out | apply below_alloc | apply pw_below_drewN | apply below_drew1 | refine below_set ?_ GE466.out) | exact HB.out)))⟩; clear hw; clear HO_4; clear HO455; clear HO459; clear HO462; clear HO465; clear BK466; clear HB; have HO_4 := n0_; have HO455 := n1_; have HO459 := n2_; have HO462 := n3_; have HO465 := n4_; have BK466 := n5_; have HB := n6_; clear n0_ n1_ n2_ n3_ n4_ n5_ n6_; have hcz36_0 : w35.cell? ⟨gb466, 0, none⟩ = some (.slice Ao30 y457.length co30) := (blk_cell BK466.out 0).trans rfl; have hcz36_1 : w35.cell? ⟨gb466, 1, none⟩ = some (.slice Ao29 y460.length co29) := (blk_cell BK466.out 1).trans rfl; have hcz36_2 : w35.cell? ⟨gb466, 2, none⟩ = some (.slice Ao28 y463.length co28) := (blk_cell BK466.out 2).trans rfl; have hcz36_3 : w35.cell? ⟨gb466, 3, none⟩ = some (.slice none 0 0) := (blk_cell BK466.out 3).trans rfl; have hcz36_4 : w35.cell? ⟨gb466, 4, none⟩ = some (.string (((⟨#[97, 32, 45, 113, 32, 105, 49, 32, 105, 50, 32, 62, 32]⟩ : ByteArray) ++ ((⟨#[111]⟩ : ByteArray) ++ (strOfNums y453))) ++ (⟨#[45, 119, 33]⟩ : ByteArray))) := (blk_cell BK466.out 4).trans rfl; have hcz36_5 : w35.cell? ⟨gb466, 5, none⟩ = some (.bool false) := (blk_cell BK466.out 5).trans rfl; have hcz36_6 : w35.cell? ⟨gb466, 6, none⟩ = some (.string (⟨#[]⟩ : ByteArray)) := (blk_cell BK466.out 6).trans rfl; have hfz36_0 := blk_frozen BK466.out 0; have hfz36_1 := blk_frozen BK466.out 1; have hfz36_2 := blk_frozen BK466.out 2; have hfz36_3 := blk_frozen BK466.out 3; have hfz36_4 := blk_frozen BK466.out 4; have hfz36_5 := blk_frozen BK466.out 5; have hfz36_6 := blk_frozen BK466.out 6) | ((with_reducible refine gate_builtin (b := .append) (xs := #[.tmp 57, .tmp 59]) rfl ?_); (try (refine gate_guard (by rfl) ?_; dsimp only)); at_builtin; refine Kd.S_append k42 (w0 := w) w.heap.size rfl (.tmp 57) (.tmp 59) 22 42 (.agg #[(.slice none 0 0), (.slice none 0 0), (.slice none 0 0), (.slice none 0 0), (.string ⟨#[]⟩), (.bool false), (.string ⟨#[]⟩)]) 136 rfl Tryz.underlying22 info42 rfl (by decide) (by omega) u4 x4_1 (⟨y457, y460, y463, ([] : List ByteArray), ((⟨#[97, 32, 45, 113, 32, 105, 49, 32, 105, 50, 32, 62, 32]⟩ : ByteArray) ++ ((⟨#[111]⟩ : ByteArray) ++ (strOfNums y453))) ++ (⟨#[45, 119, 33]⟩ : ByteArray), false, (⟨#[]⟩ : ByteArray)⟩ : S42) [.slice Ao30 y457.length co30, .slice Ao29 y460.length co29, .slice Ao28 y463.length co28, .slice none 0 0, .string (((⟨#[97, 32, 45, 113, 32, 105, 49, 32, 105, 50, 32, 62, 32]⟩ : ByteArray) ++ ((⟨#[111]⟩ : ByteArray) ++ (strOfNums y453))) ++ (⟨#[45, 119, 33]⟩ : ByteArray)), .bool false, .string (⟨#[]⟩ : ByteArray)] (fun k_ => k_ ≠ gb466) (fun k_ => some k_ = (.slice Ao30 y457.length co30 : Value).ownBlock ∨ some k_ = (.slice Ao29 y460.length co29 : Value).ownBlock ∨ some k_ = (.slice Ao28 y463.length co28 : Value).ownBlock) rfl rfl ?aP (fun k_ hk_ => hk_.elim (fun h_ => ((Kd.R_mono (ok' := fun k_ => ((fun k_ => k_ ≠ gb466)) k_ ∧ some k_ ≠ (u4 : Value).ownBlock) (Kd.R_types (Kd.R_apart' (HO459.out) (Kd.S_typed HO_4.out) (by decide)) BK466.out (by decide)) (fun k_ hk => ⟨hk.2, hk.1.2⟩))).1 k_ h_.symm) (fun h_ => h_.elim (fun h_ => ((Kd.R_mono (ok' := fun k_ => ((fun k_ => k_ ≠ gb466)) k_ ∧ some k_ ≠ (u4 : Value).ownBlock) (Kd.R_types (Kd.R_apart' (HO462.out) (Kd.S_typed HO_4.out) (by decide)) BK466.out (by decide)) (fun k_ hk => ⟨hk.2, hk.1.2⟩))).1 k_ h_.symm) (fun h_ => ((Kd.R_mono (ok' := fun k_ => ((fun k_ => k_ ≠ gb466)) k_ ∧ some k_ ≠ (u4 : Value).ownBlock) (Kd.R_types (Kd.R_apart' (HO465.out) (Kd.S_typed HO_4.out) (by decide)) BK466.out (by decide)) (fun k_ hk => ⟨hk.2, hk.1.2⟩))).1 k_ h_.symm))) ?aF ?aO ?aB ?aS ?aL ?_; (case aP => exact k42_mkM _ _ _ (⟨y457, y460, y463, ([] : List ByteArray), ((⟨#[97, 32, 45, 113, 32, 105, 49, 32, 105, 50, 32, 62, 32]⟩ : ByteArray) ++ ((⟨#[111]⟩ : ByteArray) ++ (strOfNums y453))) ++ (⟨#[45, 119, 33]⟩ : ByteArray), false, (⟨#[]⟩ : ByteArray)⟩ : S42) (Kd.R_mono (Kd.R_tight rfl (Kd.R_mono (ok' := fun k_ => ((fun k_ => k_ ≠ gb466)) k_ ∧ some k_ ≠ (u4 : Value).ownBlock) (Kd.R_types (Kd.R_apart' (HO459.out) (Kd.S_typed HO_4.out) (by decide)) BK466.out (by decide)) (fun k_ hk => ⟨hk.2, hk.1.2⟩))) (fun _ h_ => Or.inl h_)) (Kd.R_mono (Kd.R_tight rfl (Kd.R_mono (ok' := fun k_ => ((fun k_ => k_ ≠ gb466)) k_ ∧ some k_ ≠ (u4 : Value).ownBlock) (Kd.R_types (Kd.R_apart' (HO462.out) (Kd.S_typed HO_4.out) (by decide)) BK466.out (by decide)) (fun k_ hk => ⟨hk.2, hk.1.2⟩))) (fun _ h_ => Or.inr (Or.inl h_))) (Kd.R_mono (Kd.R_tight rfl (Kd.R_mono (ok' := fun k_ => ((fun k_ => k_ ≠ gb466)) k_ ∧ some k_ ≠ (u4 : Value).ownBlock) (Kd.R_types (Kd.R_apart' (HO465.out) (Kd.S_typed HO_4.out) (by decide)) BK466.out (by decide)) (fun k_ hk => ⟨hk.2, hk.1.2⟩))) (fun _ h_ => Or.inr (Or.inr (h_)))) (Kd.R_nil _ _ _ _ _)); (case aB => exact (by repeat (first | (with_reducible first | exact HB.out | apply below_alloc | apply pw_below_drewN | apply below_drew1 | refine below_set ?_ GE466.out) | exact HB.out))); (case aF => exact (fun k_ hk => Kd.freshB (g := gb466) (o := .cells #[.slice Ao30 y457.length co30, .slice Ao29 y460.length co29, .slice Ao28 y463.length co28, .slice none 0 0, .string (((⟨#[97, 32, 45, 113, 32, 105, 49, 32, 105, 50, 32, 62, 32]⟩ : ByteArray) ++ ((⟨#[111]⟩ : ByteArray) ++ (strOfNums y453))) ++ (⟨#[45, 119, 33]⟩ : ByteArray)), .bool false, .string (⟨#[]⟩ : ByteArray)] 42 (0, 0)) (by (with_reducible repeat (first | refine blk_drewN ?_ _ | refine blk_drew ?_ | refine blk_alloc ?_ _)); exact BK466.out) k_ hk)); (case aO => exact (by (with_reducible repeat (first | apply Kd.S_alloc | apply Kd.S_drewN | apply Kd.S_drew)); exact Kd.S_mono HO_4.out (fun k_ hk => ⟨hk.2.2.2, fun e_ => e_.elim (fun h_ => hk.1 h_) (fun h_ => h_.elim (fun h_ => hk.2.1 h_) (fun h_ => hk.2.2.1 h_))⟩))); (case aS => exact (below_size (by repeat (first | (with_reducible first | exact HB.out | apply below_alloc | apply pw_below_drewN | apply below_drew1 | refine below_set ?_ GE466.out) | exact HB.out)))); (case aL => have := LMc18.out; omega); intro v469 w37 ho hb hg hat; rw [← Ny468.out] at ho; have n0_ := Aside0.mk (Kd.R_over' (by (with_reducible repeat (first | apply Kd.R_alloc | apply Kd.R_drewN | apply Kd.R_drew)); exact HO455.out) (Kd.S_typed (by (with_reducible repeat (first | apply Kd.S_alloc | apply Kd.S_drewN | apply Kd.S_drew)); exact HO_4.out)) (by decide) hg); have n1_ := Aside0.mk (blk_grown (g := gb466) (o := .cells #[.slice Ao30 y457.length co30, .slice Ao29 y460.length co29, .slice Ao28 y463.length co28, .slice none 0 0, .string (((⟨#[97, 32, 45, 113, 32, 105, 49, 32, 105, 50, 32, 62, 32]⟩ : ByteArray) ++ ((⟨#[111]⟩ : ByteArray) ++ (strOfNums y453))) ++ (⟨#[45, 119, 33]⟩ : ByteArray)), .bool false, .string (⟨#[]⟩ : ByteArray)] 42 (0, 0)) (by (with_reducible repeat (first | refine blk_drewN ?_ _ | refine blk_drew ?_ | refine blk_alloc ?_ _)); exact BK466.out) hg (Kd.S_away HO_4.out (fun _ hk => hk.2.2.2))); have n2_ := Aside0.mk (hb); have n3_ := Aside0.mk (ho); clear HO455; clear BK466; clear HB; clear HO_4; clear HO459; clear HO462; clear HO465; have HO455 := n0_; have BK466 := n1_; have HB := n2_; have HO470 := n3_; clear n0_ n1_ n2_ n3_; clear ho hb hg hat))
                                  go_roundg k1
                                  case measure => have := HK1.out; omega
                                  case rel => exact ⟨((((x3_1 ++ (⟨#[98, 117, 105, 108, 100, 32]⟩ : ByteArray)) ++ ((⟨#[111]⟩ : ByteArray) ++ (strOfNums y453))) ++ (⟨#[32, 58, 32, 97, 32, 105, 49, 32, 46, 47, 105, 50, 32, 124, 32, 104, 10]⟩ : ByteArray)) ++ (⟨#[32, 32, 120, 32, 61, 32, 36, 119, 33, 10, 32, 32, 119, 32, 61, 32, 45, 113, 10]⟩ : ByteArray)), (y468), (wrap64 (x6_1 + 1)), (by first | rfl | (simp; done) | (simp [*]; done)), (by first | rfl | (simp; done) | (simp [*]; done)), H', ⟨by have := HK1.out; omega⟩, ⟨by (with_reducible repeat (first | apply Kd.S_alloc | apply Kd.S_drewN | apply Kd.S_drew)); exact Kd.S_mono HO470.out (fun _ hk => trivial)⟩, ⟨by repeat (first | (with_reducible first | exact HB.out | apply below_alloc | apply pw_below_drewN | apply below_drew1 | refine below_set ?_ GE466.out) | exact HB.out)⟩⟩
                                · rw [if_neg c18] at H
                                  exact absurd H (by simp)
                              · rw [if_neg c17] at H
                                exact absurd H (by simp)
                            · rw [if_neg c16] at H
                              exact absurd H (by simp)
                          · rw [if_neg c15] at H
                            have c15b0 : ((Go.bits .and .i64 (rd l0 x6_1) 2) == 2) = false := beq_eq_false_iff_ne.mpr c15
                            have c15b1 : ((Go.bits .and .i64 (rd l0 x6_1) 2) != 2) = true := bne_iff_ne.mpr c15
                            by_cases c38 : x4_1.length < 1034834473200
                            · rw [if_pos c38] at H
                              have LMc38 := Aside0.mk c38
                              clear c38
                              obtain ⟨y471, hy471⟩ : ∃ y_ : List (S42), y_ = (x4_1 ++ [(⟨y457, y460, y463, ([] : List ByteArray), (⟨#[97, 32, 45, 119, 32, 105, 49, 32, 105, 50, 32, 62, 32]⟩ : ByteArray) ++ ((⟨#[111]⟩ : ByteArray) ++ (strOfNums y453)), false, (⟨#[]⟩ : ByteArray)⟩ : S42)]) := ⟨_, rfl⟩
                              replace H : (cruciblelaw8_ManifestEdges.l0 k1 l0 (((x3_1 ++ (⟨#[98, 117, 105, 108, 100, 32]⟩ : ByteArray)) ++ ((⟨#[111]⟩ : ByteArray) ++ (strOfNums y453))) ++ (⟨#[32, 58, 32, 97, 32, 105, 49, 32, 46, 47, 105, 50, 32, 124, 32, 104, 10]⟩ : ByteArray)) y471 ji4 (wrap64 (x6_1 + 1))) = some r := by first | (rw [hy471]; with_reducible exact H) | (have H2_ := (Option.bind_some _ _).symm.trans H; rw [hy471]; with_reducible exact H2_) | (have H2_ := (Option.bind_some _ _).symm.trans H; with_reducible exact H2_) | with_reducible exact H | (rw [hy471]; exact H) | exact H
                              have Ny471 := Aside0.mk hy471
                              clear hy471
                              have H' := Aside0.mk H
                              clear H
                              go_wp2_with (first | ((with_reducible refine gate_dst (N := 24) rfl ?_); (try (refine gate_guard (by rfl) ?_; dsimp only)); refine Kd.R_lit (Kd.int .u8) _ 5 ?hg (N := 24) ?hd (xs := ([(wrap64 (97 + x6_1)) % 256] : List Int)) (inner := [.int .u8 ((wrap64 (97 + x6_1)) % 256)]) (ok := fun _ => True) (okp := fun _ => True) ?hr ?hp (fun _ hk => hk) trivial (Below.refl _ _) (Nat.le_refl _) (by simp) ?_; (case hd => rfl); (case hg => rfl); (case hr => first | (go_simp; done) | (go_simp; rfl)); (case hp => exact (Reps.one (show Kd.M (Kd.int .u8) _ _ _ ((wrap64 (97 + x6_1)) % 256) [.int .u8 ((wrap64 (97 + x6_1)) % 256)] from rfl) (Reps.none _ _))); intro v454 w39 ho40 hb hg_ hnew_; clear hg_ hnew_; (first | rw [← Ny453.out] at ho40 | (simp only [Int.reduceToNat] at ho40; rw [← Ny453.out] at ho40)); have n0_ := Aside0.mk (Kd.S_below (by (with_reducible repeat (first | apply Kd.S_alloc | apply Kd.S_drewN | apply Kd.S_drew)); exact HO_4.out) hb); have n1_ := Aside0.mk (Kd.R_lower ho40 (below_size (by repeat (first | (with_reducible first | exact HB.out | apply below_alloc | apply pw_below_drewN | apply below_drew1) | exact HB.out)))); have n2_ := Aside0.mk (below_step (by repeat (first | (with_reducible first | exact HB.out | apply below_alloc | apply pw_below_drewN | apply below_drew1) | exact HB.out)) hb); clear HO_4; clear HB; have HO_4 := n0_; have HO455 := n1_; have HB := n2_; clear n0_ n1_ n2_; clear hb ho40; have hcv41 := own_string (P := Tryz.prog) Tryz.underlying39 Tryz.underlying5 Tryz.underlying9 (Kd.own_of_R HO455.out); have p456 : 0 ≤ (x6_1 : Int) := of_decide_eq_true (by first | (with_reducible assumption) | assumption); have q456 : x6_1 < (l0.length : Int) := of_decide_eq_true (by first | (with_reducible assumption) | assumption); obtain ⟨ad456, e456, hx456_0⟩ := Kd.at_int HR0.out x6_1 p456 q456; cases e456; replace hx456_0 := (HB.out.cell (World.block_lt_of_cell? w _ hx456_0)).trans hx456_0; replace p456 := eq_true p456; replace q456 := eq_true q456) | ((with_reducible refine gate_dst (N := 39) rfl ?_); (try (refine gate_guard (by rfl) ?_; dsimp only)); refine Kd.R_lit Kd.string _ 9 ?hg (N := 39) ?hd (xs := ([(⟨#[111]⟩ : ByteArray) ++ (strOfNums y453)] : List ByteArray)) (inner := [.string ((⟨#[111]⟩ : ByteArray) ++ (strOfNums y453))]) (ok := fun _ => True) (okp := fun _ => True) ?hr ?hp (fun _ hk => hk) trivial (Below.refl _ _) (Nat.le_refl _) (by simp) ?_; (case hd => rfl); (case hg => rfl); (case hr => first | (go_simp; done) | (go_simp; rfl)); (case hp => exact (Reps.one (show Kd.M Kd.string _ _ _ ((⟨#[111]⟩ : ByteArray) ++ (strOfNums y453)) [.string ((⟨#[111]⟩ : ByteArray) ++ (strOfNums y453))] from rfl) (Reps.none _ _))); intro v458 w42 ho43 hb hg_ hnew_; clear hg_ hnew_; (first | rw [← Ny457.out] at ho43 | (simp only [Int.reduceToNat] at ho43; rw [← Ny457.out] at ho43)); have n0_ := Aside0.mk (Kd.S_elder' (by (with_reducible repeat (first | apply Kd.S_alloc | apply Kd.S_drewN | apply Kd.S_drew)); exact HO_4.out) (Kd.R_base ho43) hb); have n1_ := Aside0.mk (Kd.R_below (by (with_reducible repeat (first | apply Kd.R_alloc | apply Kd.R_drewN | apply Kd.R_drew)); exact HO455.out) hb); have n2_ := Aside0.mk (Kd.R_lower ho43 (below_size (by repeat (first | (with_reducible first | exact HB.out | apply below_alloc | apply pw_below_drewN | apply below_drew1) | exact HB.out)))); have n3_ := Aside0.mk (below_step (by repeat (first | (with_reducible first | exact HB.out | apply below_alloc | apply pw_below_drewN | apply below_drew1) | exact HB.out)) hb); clear HO_4; clear HO455; clear HB; have HO_4 := n0_; have HO455 := n1_; have HO459 := n2_; have HB := n3_; clear n0_ n1_ n2_ n3_; clear hb ho43) | ((with_reducible refine gate_dst (N := 40) rfl ?_); (try (refine gate_guard (by rfl) ?_; dsimp only)); refine Kd.R_lit Kd.string _ 9 ?hg (N := 40) ?hd (xs := ([(⟨#[105, 49]⟩ : ByteArray), (⟨#[105, 50]⟩ : ByteArray)] : List ByteArray)) (inner := [.string (⟨#[105, 49]⟩ : ByteArray), .string (⟨#[105, 50]⟩ : ByteArray)]) (ok := fun _ => True) (okp := fun _ => True) ?hr ?hp (fun _ hk => hk) trivial (Below.refl _ _) (Nat.le_refl _) (by simp) ?_; (case hd => rfl); (case hg => rfl); (case hr => first | (go_simp; done) | (go_simp; rfl)); (case hp => exact (Reps.one (show Kd.M Kd.string _ _ _ (⟨#[105, 49]⟩ : ByteArray) [.string (⟨#[105, 49]⟩ : ByteArray)] from rfl) (Reps.one (show Kd.M Kd.string _ _ _ (⟨#[105, 50]⟩ : ByteArray) [.string (⟨#[105, 50]⟩ : ByteArray)] from rfl) (Reps.none _ _)))); intro v461 w44 ho45 hb hg_ hnew_; clear hg_ hnew_; (first | rw [← Ny460.out] at ho45 | (simp only [Int.reduceToNat] at ho45; rw [← Ny460.out] at ho45)); have n0_ := Aside0.mk (Kd.S_elder' (by (with_reducible repeat (first | apply Kd.S_alloc | apply Kd.S_drewN | apply Kd.S_drew)); exact HO_4.out) (Kd.R_base ho45) hb); have n1_ := Aside0.mk (Kd.R_below (by (with_reducible repeat (first | apply Kd.R_alloc | apply Kd.R_drewN | apply Kd.R_drew)); exact HO455.out) hb); have n2_ := Aside0.mk (Kd.R_elder' (by (with_reducible repeat (first | apply Kd.R_alloc | apply Kd.R_drewN | apply Kd.R_drew)); exact HO459.out) (Kd.R_base ho45) hb); have n3_ := Aside0.mk (Kd.R_lower (Kd.R_new' ho45 (Kd.R_lt (by (with_reducible repeat (first | apply Kd.R_alloc | apply Kd.R_drewN | apply Kd.R_drew)); exact HO459.out))) (below_size (by repeat (first | (with_reducible first | exact HB.out | apply below_alloc | apply pw_below_drewN | apply below_drew1) | exact HB.out)))); have n4_ := Aside0.mk (below_step (by repeat (first | (with_reducible first | exact HB.out | apply below_alloc | apply pw_below_drewN | apply below_drew1) | exact HB.out)) hb); clear HO_4; clear HO455; clear HO459; clear HB; have HO_4 := n0_; have HO455 := n1_; have HO459 := n2_; have HO462 := n3_; have HB := n4_; clear n0_ n1_ n2_ n3_ n4_; clear hb ho45) | ((with_reducible refine gate_dst (N := 41) rfl ?_); (try (refine gate_guard (by rfl) ?_; dsimp only)); refine Kd.R_lit Kd.string _ 9 ?hg (N := 41) ?hd (xs := ([(⟨#[104]⟩ : ByteArray)] : List ByteArray)) (inner := [.string (⟨#[104]⟩ : ByteArray)]) (ok := fun _ => True) (okp := fun _ => True) ?hr ?hp (fun _ hk => hk) trivial (Below.refl _ _) (Nat.le_refl _) (by simp) ?_; (case hd => rfl); (case hg => rfl); (case hr => first | (go_simp; done) | (go_simp; rfl)); (case hp => exact (Reps.one (show Kd.M Kd.string _ _ _ (⟨#[104]⟩ : ByteArray) [.string (⟨#[104]⟩ : ByteArray)] from rfl) (Reps.none _ _))); intro v464 w46 ho47 hb hg_ hnew_; clear hg_ hnew_; (first | rw [← Ny463.out] at ho47 | (simp only [Int.reduceToNat] at ho47; rw [← Ny463.out] at ho47)); have n0_ := Aside0.mk (Kd.S_elder' (by (with_reducible repeat (first | apply Kd.S_alloc | apply Kd.S_drewN | apply Kd.S_drew)); exact HO_4.out) (Kd.R_base ho47) hb); have n1_ := Aside0.mk (Kd.R_below (by (with_reducible repeat (first | apply Kd.R_alloc | apply Kd.R_drewN | apply Kd.R_drew)); exact HO455.out) hb); have n2_ := Aside0.mk (Kd.R_elder' (by (with_reducible repeat (first | apply Kd.R_alloc | apply Kd.R_drewN | apply Kd.R_drew)); exact HO459.out) (Kd.R_base ho47) hb); have n3_ := Aside0.mk (Kd.R_elder' (by (with_reducible repeat (first | apply Kd.R_alloc | apply Kd.R_drewN | apply Kd.R_drew)); exact HO462.out) (Kd.R_base ho47) hb); have n4_ := Aside0.mk (Kd.R_lower (Kd.R_new' (Kd.R_new' ho47 (Kd.R_lt (by (with_reducible repeat (first | apply Kd.R_alloc | apply Kd.R_drewN | apply Kd.R_drew)); exact HO459.out))) (Kd.R_lt (by (with_reducible repeat (first | apply Kd.R_alloc | apply Kd.R_drewN | apply Kd.R_drew)); exact HO462.out))) (below_size (by repeat (first | (with_reducible first | exact HB.out | apply below_alloc | apply pw_below_drewN | apply below_drew1) | exact HB.out)))); have n5_ := Aside0.mk (below_step (by repeat (first | (with_reducible first | exact HB.out | apply below_alloc | apply pw_below_drewN | apply below_drew1) | exact HB.out)) hb); clear HO_4; clear HO455; clear HO459; clear HO462; clear HB; have HO_4 := n0_; have HO455 := n1_; have HO459 := n2_; have HO462 := n3_; have HO465 := n4_; have HB := n5_; clear n0_ n1_ n2_ n3_ n4_ n5_; clear hb ho47; obtain ⟨Ao48, co48, eo48⟩ := Kd.R_slice HO465.out; subst eo48; obtain ⟨Ao49, co49, eo49⟩ := Kd.R_slice HO462.out; subst eo49; obtain ⟨Ao50, co50, eo50⟩ := Kd.R_slice HO459.out; subst eo50) | ((with_reducible refine gate_dst (N := 8) rfl ?_); (try (refine gate_guard (by rfl) ?_; dsimp only)); refine box_event ?hg (N := 8) ?hd (cs := #[.slice none 0 0, .slice none 0 0, .slice none 0 0, .slice none 0 0, .string (⟨#[]⟩ : ByteArray), .bool false, .string (⟨#[]⟩ : ByteArray)]) (t := 42) ?hr ?_; (case hd => rfl); (case hg => rfl); (case hr => first | (go_simp; done) | (go_simp; rfl)); intro gb466 hg w51 hbox hb; have n0_ := Aside0.mk (Kd.S_below (Kd.S_elderB (by (with_reducible repeat (first | apply Kd.S_alloc | apply Kd.S_drewN | apply Kd.S_drew)); exact HO_4.out) gb466 (Nat.le_of_eq hg.symm)) hb); have n1_ := Aside0.mk (Kd.R_below (by (with_reducible repeat (first | apply Kd.R_alloc | apply Kd.R_drewN | apply Kd.R_drew)); exact HO455.out) hb); have n2_ := Aside0.mk (Kd.R_below (by (with_reducible repeat (first | apply Kd.R_alloc | apply Kd.R_drewN | apply Kd.R_drew)); exact HO459.out) hb); have n3_ := Aside0.mk (Kd.R_below (by (with_reducible repeat (first | apply Kd.R_alloc | apply Kd.R_drewN | apply Kd.R_drew)); exact HO462.out) hb); have n4_ := Aside0.mk (Kd.R_below (by (with_reducible repeat (first | apply Kd.R_alloc | apply Kd.R_drewN | apply Kd.R_drew)); exact HO465.out) hb); have n5_ := Aside0.mk (below_step (by repeat (first | (with_reducible first | exact HB.out | apply below_alloc | apply pw_below_drewN | apply below_drew1) | exact HB.out)) hb); have n6_ := Aside0.mk (hbox); have n7_ := Aside0.mk ((by rw [hg]; exact (below_size (by repeat (first | (with_reducible first | exact HB.out | apply below_alloc | apply pw_below_drewN | apply below_drew1) | exact HB.out))) : w.heap.size ≤ gb466)); have n8_ := Aside0.mk ((by rw [hg]; exact (below_size (by repeat (first | (with_reducible first | exact HB.out | apply below_alloc | apply pw_below_drewN | apply below_drew1) | exact HB.out))) : w.heap.size ≤ gb466)); clear HO_4; clear HO455; clear HO459; clear HO462; clear HO465; clear HB; have HO_4 := n0_; have HO455 := n1_; have HO459 := n2_; have HO462 := n3_; have HO465 := n4_; have HB := n5_; have BK466 := n6_; have GW466 := n7_; have GE466 := n8_; clear n0_ n1_ n2_ n3_ n4_ n5_ n6_ n7_ n8_; clear hb hbox hg; have hcz52_0 : w51.cell? ⟨gb466, 0, none⟩ = some (.slice none 0 0) := (blk_cell BK466.out 0).trans rfl; have hcz52_1 : w51.cell? ⟨gb466, 1, none⟩ = some (.slice none 0 0) := (blk_cell BK466.out 1).trans rfl; have hcz52_2 : w51.cell? ⟨gb466, 2, none⟩ = some (.slice none 0 0) := (blk_cell BK466.out 2).trans rfl; have hcz52_3 : w51.cell? ⟨gb466, 3, none⟩ = some (.slice none 0 0) := (blk_cell BK466.out 3).trans rfl; have hcz52_4 : w51.cell? ⟨gb466, 4, none⟩ = some (.string (⟨#[]⟩ : ByteArray)) := (blk_cell BK466.out 4).trans rfl; have hcz52_5 : w51.cell? ⟨gb466, 5, none⟩ = some (.bool false) := (blk_cell BK466.out 5).trans rfl; have hcz52_6 : w51.cell? ⟨gb466, 6, none⟩ = some (.string (⟨#[]⟩ : ByteArray)) := (blk_cell BK466.out 6).trans rfl; have hfz52_0 := blk_frozen BK466.out 0; have hfz52_1 := blk_frozen BK466.out 1; have hfz52_2 := blk_frozen BK466.out 2; have hfz52_3 := blk_frozen BK466.out 3; have hfz52_4 := blk_frozen BK466.out 4; have hfz52_5 := blk_frozen BK466.out 5; have hfz52_6 := blk_frozen BK466.out 6) | ((with_reducible refine gate_store (t := 42) (p := 8) rfl ?_); refine store_event (t := 42) (p := 8) (v := ?vo_w53) (w1 := (((((((w51.setCell ⟨gb466, 0, none⟩ (.slice Ao50 y457.length co50)).setCell ⟨gb466, 1, none⟩ (.slice Ao49 y460.length co49)).setCell ⟨gb466, 2, none⟩ (.slice Ao48 y463.length co48)).setCell ⟨gb466, 3, none⟩ (.slice none 0 0)).setCell ⟨gb466, 4, none⟩ (.string ((⟨#[97, 32, 45, 119, 32, 105, 49, 32, 105, 50, 32, 62, 32]⟩ : ByteArray) ++ ((⟨#[111]⟩ : ByteArray) ++ (strOfNums y453))))).setCell ⟨gb466, 5, none⟩ (.bool false)).setCell ⟨gb466, 6, none⟩ (.string (⟨#[]⟩ : ByteArray)))) ?hg ?ho ?hn ?hr ?_; (case ho => rfl); (case hg => rfl); (case hn => rfl); (case hr => first | (go_simp; done) | (go_simp; rfl)); intro w53 hw; have n0_ : Aside0 (Kd.S k42 42 w53 w.heap.size (fun k_ => some k_ ≠ (.slice Ao50 y457.length co50 : Value).ownBlock ∧ some k_ ≠ (.slice Ao49 y460.length co49 : Value).ownBlock ∧ some k_ ≠ (.slice Ao48 y463.length co48 : Value).ownBlock ∧ k_ ≠ gb466) u4 x4_1) := ⟨(by rw [hw]; exact (by (with_reducible repeat (first | apply Kd.S_alloc | apply Kd.S_drewN | apply Kd.S_drew)); exact Kd.S_mono (Kd.S_far (p := ⟨gb466, 6, none⟩) (Kd.S_far (p := ⟨gb466, 5, none⟩) (Kd.S_far (p := ⟨gb466, 4, none⟩) (Kd.S_far (p := ⟨gb466, 3, none⟩) (Kd.S_far (p := ⟨gb466, 2, none⟩) (Kd.S_far (p := ⟨gb466, 1, none⟩) (Kd.S_far (p := ⟨gb466, 0, none⟩) (Kd.S_mono HO_4.out (fun k_ hk => (⟨hk, hk.2⟩ : _ ∧ k_ ≠ gb466))) (fun _ hk => hk.2) (.slice Ao50 y457.length co50)) (fun _ hk => hk.2) (.slice Ao49 y460.length co49)) (fun _ hk => hk.2) (.slice Ao48 y463.length co48)) (fun _ hk => hk.2) (.slice none 0 0)) (fun _ hk => hk.2) (.string ((⟨#[97, 32, 45, 119, 32, 105, 49, 32, 105, 50, 32, 62, 32]⟩ : ByteArray) ++ ((⟨#[111]⟩ : ByteArray) ++ (strOfNums y453))))) (fun _ hk => hk.2) (.bool false)) (fun _ hk => hk.2) (.string (⟨#[]⟩ : ByteArray))) (fun _ hk => ⟨hk.1.1.1.1.2, ⟨hk.1.1.1.2, ⟨hk.1.1.2, hk.1.2⟩⟩⟩)))⟩; have n1_ : Aside0 (Kd.R (Kd.int .u8) 5 w53 w.heap.size (fun _ => True) v454 y453) := ⟨(by rw [hw]; exact (by (with_reducible repeat (first | apply Kd.R_alloc | apply Kd.R_drewN | apply Kd.R_drew)); exact Kd.R_mono (Kd.R_far (p := ⟨gb466, 6, none⟩) (Kd.R_far (p := ⟨gb466, 5, none⟩) (Kd.R_far (p := ⟨gb466, 4, none⟩) (Kd.R_far (p := ⟨gb466, 3, none⟩) (Kd.R_far (p := ⟨gb466, 2, none⟩) (Kd.R_far (p := ⟨gb466, 1, none⟩) (Kd.R_far (p := ⟨gb466, 0, none⟩) (Kd.R_types HO455.out BK466.out (by decide)) (fun _ hk => hk.2) (.slice Ao50 y457.length co50)) (fun _ hk => hk.2) (.slice Ao49 y460.length co49)) (fun _ hk => hk.2) (.slice Ao48 y463.length co48)) (fun _ hk => hk.2) (.slice none 0 0)) (fun _ hk => hk.2) (.string ((⟨#[97, 32, 45, 119, 32, 105, 49, 32, 105, 50, 32, 62, 32]⟩ : ByteArray) ++ ((⟨#[111]⟩ : ByteArray) ++ (strOfNums y453))))) (fun _ hk => hk.2) (.bool false)) (fun _ hk => hk.2) (.string (⟨#[]⟩ : ByteArray))) (fun _ hk => trivial)))⟩; have n2_ : Aside0 (Kd.R Kd.string 9 w53 w.heap.size (fun k_ => some k_ ≠ (.slice Ao49 y460.length co49 : Value).ownBlock ∧ some k_ ≠ (.slice Ao48 y463.length co48 : Value).ownBlock) (.slice Ao50 y457.length co50) y457) := ⟨(by rw [hw]; exact (by (with_reducible repeat (first | apply Kd.R_alloc | apply Kd.R_drewN | apply Kd.R_drew)); exact Kd.R_mono (Kd.R_far (p := ⟨gb466, 6, none⟩) (Kd.R_far (p := ⟨gb466, 5, none⟩) (Kd.R_far (p := ⟨gb466, 4, none⟩) (Kd.R_far (p := ⟨gb466, 3, none⟩) (Kd.R_far (p := ⟨gb466, 2, none⟩) (Kd.R_far (p := ⟨gb466, 1, none⟩) (Kd.R_far (p := ⟨gb466, 0, none⟩) (Kd.R_types HO459.out BK466.out (by decide)) (fun _ hk => hk.2) (.slice Ao50 y457.length co50)) (fun _ hk => hk.2) (.slice Ao49 y460.length co49)) (fun _ hk => hk.2) (.slice Ao48 y463.length co48)) (fun _ hk => hk.2) (.slice none 0 0)) (fun _ hk => hk.2) (.string ((⟨#[97, 32, 45, 119, 32, 105, 49, 32, 105, 50, 32, 62, 32]⟩ : ByteArray) ++ ((⟨#[111]⟩ : ByteArray) ++ (strOfNums y453))))) (fun _ hk => hk.2) (.bool false)) (fun _ hk => hk.2) (.string (⟨#[]⟩ : ByteArray))) (fun _ hk => ⟨hk.1.1.2, hk.1.2⟩)))⟩; have n3_ : Aside0 (Kd.R Kd.string 9 w53 w.heap.size (fun k_ => some k_ ≠ (.slice Ao50 y457.length co50 : Value).ownBlock ∧ some k_ ≠ (.slice Ao48 y463.length co48 : Value).ownBlock) (.slice Ao49 y460.length co49) y460) := ⟨(by rw [hw]; exact (by (with_reducible repeat (first | apply Kd.R_alloc | apply Kd.R_drewN | apply Kd.R_drew)); exact Kd.R_mono (Kd.R_far (p := ⟨gb466, 6, none⟩) (Kd.R_far (p := ⟨gb466, 5, none⟩) (Kd.R_far (p := ⟨gb466, 4, none⟩) (Kd.R_far (p := ⟨gb466, 3, none⟩) (Kd.R_far (p := ⟨gb466, 2, none⟩) (Kd.R_far (p := ⟨gb466, 1, none⟩) (Kd.R_far (p := ⟨gb466, 0, none⟩) (Kd.R_types HO462.out BK466.out (by decide)) (fun _ hk => hk.2) (.slice Ao50 y457.length co50)) (fun _ hk => hk.2) (.slice Ao49 y460.length co49)) (fun _ hk => hk.2) (.slice Ao48 y463.length co48)) (fun _ hk => hk.2) (.slice none 0 0)) (fun _ hk => hk.2) (.string ((⟨#[97, 32, 45, 119, 32, 105, 49, 32, 105, 50, 32, 62, 32]⟩ : ByteArray) ++ ((⟨#[111]⟩ : ByteArray) ++ (strOfNums y453))))) (fun _ hk => hk.2) (.bool false)) (fun _ hk => hk.2) (.string (⟨#[]⟩ : ByteArray))) (fun _ hk => ⟨hk.1.1.2, hk.1.2⟩)))⟩; have n4_ : Aside0 (Kd.R Kd.string 9 w53 w.heap.size (fun k_ => some k_ ≠ (.slice Ao50 y457.length co50 : Value).ownBlock ∧ some k_ ≠ (.slice Ao49 y460.length co49 : Value).ownBlock) (.slice Ao48 y463.length co48) y463) := ⟨(by rw [hw]; exact (by (with_reducible repeat (first | apply Kd.R_alloc | apply Kd.R_drewN | apply Kd.R_drew)); exact Kd.R_mono (Kd.R_far (p := ⟨gb466, 6, none⟩) (Kd.R_far (p := ⟨gb466, 5, none⟩) (Kd.R_far (p := ⟨gb466, 4, none⟩) (Kd.R_far (p := ⟨gb466, 3, none⟩) (Kd.R_far (p := ⟨gb466, 2, none⟩) (Kd.R_far (p := ⟨gb466, 1, none⟩) (Kd.R_far (p := ⟨gb466, 0, none⟩) (Kd.R_types HO465.out BK466.out (by decide)) (fun _ hk => hk.2) (.slice Ao50 y457.length co50)) (fun _ hk => hk.2) (.slice Ao49 y460.length co49)) (fun _ hk => hk.2) (.slice Ao48 y463.length co48)) (fun _ hk => hk.2) (.slice none 0 0)) (fun _ hk => hk.2) (.string ((⟨#[97, 32, 45, 119, 32, 105, 49, 32, 105, 50, 32, 62, 32]⟩ : ByteArray) ++ ((⟨#[111]⟩ : ByteArray) ++ (strOfNums y453))))) (fun _ hk => hk.2) (.bool false)) (fun _ hk => hk.2) (.string (⟨#[]⟩ : ByteArray))) (fun _ hk => ⟨hk.1.1.2, hk.1.2⟩)))⟩; have n5_ : Aside0 (w53.heap[gb466]? = some (.cells #[.slice Ao50 y457.length co50, .slice Ao49 y460.length co49, .slice Ao48 y463.length co48, .slice none 0 0, .string ((⟨#[97, 32, 45, 119, 32, 105, 49, 32, 105, 50, 32, 62, 32]⟩ : ByteArray) ++ ((⟨#[111]⟩ : ByteArray) ++ (strOfNums y453))), .bool false, .string (⟨#[]⟩ : ByteArray)] 42 (0, 0))) := ⟨(by rw [hw]; exact (by (with_reducible repeat (first | refine blk_drewN ?_ _ | refine blk_drew ?_ | refine blk_alloc ?_ _)); refine blk_put (cs := #[.slice Ao50 y457.length co50, .slice Ao49 y460.length co49, .slice Ao48 y463.length co48, .slice none 0 0, .string ((⟨#[97, 32, 45, 119, 32, 105, 49, 32, 105, 50, 32, 62, 32]⟩ : ByteArray) ++ ((⟨#[111]⟩ : ByteArray) ++ (strOfNums y453))), .bool false, .string (⟨#[]⟩ : ByteArray)]) ?_ 6 _ rfl; (with_reducible repeat (first | refine blk_drewN ?_ _ | refine blk_drew ?_ | refine blk_alloc ?_ _)); refine blk_put (cs := #[.slice Ao50 y457.length co50, .slice Ao49 y460.length co49, .slice Ao48 y463.length co48, .slice none 0 0, .string ((⟨#[97, 32, 45, 119, 32, 105, 49, 32, 105, 50, 32, 62, 32]⟩ : ByteArray) ++ ((⟨#[111]⟩ : ByteArray) ++ (strOfNums y453))), .bool false, .string (⟨#[]⟩ : ByteArray)]) ?_ 5 _ rfl; (with_reducible repeat (first | refine blk_drewN ?_ _ | refine blk_drew ?_ | refine blk_alloc ?_ _)); refine blk_put (cs := #[.slice Ao50 y457.length co50, .slice Ao49 y460.length co49, .slice Ao48 y463.length co48, .slice none 0 0, .string (⟨#[]⟩ : ByteArray), .bool false, .string (⟨#[]⟩ : ByteArray)]) ?_ 4 _ rfl; (with_reducible repeat (first | refine blk_drewN ?_ _ | refine blk_drew ?_ | refine blk_alloc ?_ _)); refine blk_put (cs := #[.slice Ao50 y457.length co50, .slice Ao49 y460.length co49, .slice Ao48 y463.length co48, .slice none 0 0, .string (⟨#[]⟩ : ByteArray), .bool false, .string (⟨#[]⟩ : ByteArray)]) ?_ 3 _ rfl; (with_reducible repeat (first | refine blk_drewN ?_ _ | refine blk_drew ?_ | refine blk_alloc ?_ _)); refine blk_put (cs := #[.slice Ao50 y457.length co50, .slice Ao49 y460.length co49, .slice none 0 0, .slice none 0 0, .string (⟨#[]⟩ : ByteArray), .bool false, .string (⟨#[]⟩ : ByteArray)]) ?_ 2 _ rfl; (with_reducible repeat (first | refine blk_drewN ?_ _ | refine blk_drew ?_ | refine blk_alloc ?_ _)); refine blk_put (cs := #[.slice Ao50 y457.length co50, .slice none 0 0, .slice none 0 0, .slice none 0 0, .string (⟨#[]⟩ : ByteArray), .bool false, .string (⟨#[]⟩ : ByteArray)]) ?_ 1 _ rfl; (with_reducible repeat (first | refine blk_drewN ?_ _ | refine blk_drew ?_ | refine blk_alloc ?_ _)); refine blk_put (cs := #[.slice none 0 0, .slice none 0 0, .slice none 0 0, .slice none 0 0, .string (⟨#[]⟩ : ByteArray), .bool false, .string (⟨#[]⟩ : ByteArray)]) ?_ 0 _ rfl; (with_reducible repeat (first | refine blk_drewN ?_ _ | refine blk_drew ?_ | refine blk_alloc ?_ _)); exact BK466.out))⟩; have n6_ : Aside0 (Below w.heap.size w w53) := ⟨(by rw [hw]; exact (by repeat (first | (with_reducible first | exact HB.out | apply below_alloc | apply pw_below_drewN | apply below_drew1 | refine below_set ?_ GE466.out) | exact HB.out)))⟩; clear hw; clear HO_4; clear HO455; clear HO459; clear HO462; clear HO465; clear BK466; clear HB; have HO_4 := n0_; have HO455 := n1_; have HO459 := n2_; have HO462 := n3_; have HO465 := n4_; have BK466 := n5_; have HB := n6_; clear n0_ n1_ n2_ n3_ n4_ n5_ n6_; have p467 : 0 ≤ (x6_1 : Int) := of_decide_eq_true (by first | (with_reducible assumption) | assumption); have q467 : x6_1 < (l0.length : Int) := of_decide_eq_true (by first | (with_reducible assumption) | assumption); obtain ⟨ad467, e467, hx467_0⟩ := Kd.at_int HR0.out x6_1 p467 q467; obtain rfl : ad456 = ad467 := (by injection e467); replace hx467_0 := (HB.out.cell (World.block_lt_of_cell? w _ hx467_0)).trans hx467_0; replace p467 := eq_true p467; replace q467 := eq_true q467; have hcz54_0 : w53.cell? ⟨gb466, 0, none⟩ = some (.slice Ao50 y457.length co50) := (blk_cell BK466.out 0).trans rfl; have hcz54_1 : w53.cell? ⟨gb466, 1, none⟩ = some (.slice Ao49 y460.length co49) := (blk_cell BK466.out 1).trans rfl; have hcz54_2 : w53.cell? ⟨gb466, 2, none⟩ = some (.slice Ao48 y463.length co48) := (blk_cell BK466.out 2).trans rfl; have hcz54_3 : w53.cell? ⟨gb466, 3, none⟩ = some (.slice none 0 0) := (blk_cell BK466.out 3).trans rfl; have hcz54_4 : w53.cell? ⟨gb466, 4, none⟩ = some (.string ((⟨#[97, 32, 45, 119, 32, 105, 49, 32, 105, 50, 32, 62, 32]⟩ : ByteArray) ++ ((⟨#[111]⟩ : ByteArray) ++ (strOfNums y453)))) := (blk_cell BK466.out 4).trans rfl; have hcz54_5 : w53.cell? ⟨gb466, 5, none⟩ = some (.bool false) := (blk_cell BK466.out 5).trans rfl; have hcz54_6 : w53.cell? ⟨gb466, 6, none⟩ = some (.string (⟨#[]⟩ : ByteArray)) := (blk_cell BK466.out 6).trans rfl; have hfz54_0 := blk_frozen BK466.out 0; have hfz54_1 := blk_frozen BK466.out 1; have hfz54_2 := blk_frozen BK466.out 2; have hfz54_3 := blk_frozen BK466.out 3; have hfz54_4 := blk_frozen BK466.out 4; have hfz54_5 := blk_frozen BK466.out 5; have hfz54_6 := blk_frozen BK466.out 6) | ((with_reducible refine gate_builtin (b := .append) (xs := #[.tmp 57, .tmp 59]) rfl ?_); (try (refine gate_guard (by rfl) ?_; dsimp only)); at_builtin; refine Kd.S_append k42 (w0 := w) w.heap.size rfl (.tmp 57) (.tmp 59) 22 42 (.agg #[(.slice none 0 0), (.slice none 0 0), (.slice none 0 0), (.slice none 0 0), (.string ⟨#[]⟩), (.bool false), (.string ⟨#[]⟩)]) 136 rfl Tryz.underlying22 info42 rfl (by decide) (by omega) u4 x4_1 (⟨y457, y460, y463, ([] : List ByteArray), (⟨#[97, 32, 45, 119, 32, 105, 49, 32, 105, 50, 32, 62, 32]⟩ : ByteArray) ++ ((⟨#[111]⟩ : ByteArray) ++ (strOfNums y453)), false, (⟨#[]⟩ : ByteArray)⟩ : S42) [.slice Ao50 y457.length co50, .slice Ao49 y460.length co49, .slice Ao48 y463.length co48, .slice none 0 0, .string ((⟨#[97, 32, 45, 119, 32, 105, 49, 32, 105, 50, 32, 62, 32]⟩ : ByteArray) ++ ((⟨#[111]⟩ : ByteArray) ++ (strOfNums y453))), .bool false, .string (⟨#[]⟩ : ByteArray)] (fun k_ => k_ ≠ gb466) (fun k_ => some k_ = (.slice Ao50 y457.length co50 : Value).ownBlock ∨ some k_ = (.slice Ao49 y460.length co49 : Value).ownBlock ∨ some k_ = (.slice Ao48 y463.length co48 : Value).ownBlock) rfl rfl ?aP (fun k_ hk_ => hk_.elim (fun h_ => ((Kd.R_mono (ok' := fun k_ => ((fun k_ => k_ ≠ gb466)) k_ ∧ some k_ ≠ (u4 : Value).ownBlock) (Kd.R_types (Kd.R_apart' (HO459.out) (Kd.S_typed HO_4.out) (by decide)) BK466.out (by decide)) (fun k_ hk => ⟨hk.2, hk.1.2⟩))).1 k_ h_.symm) (fun h_ => h_.elim (fun h_ => ((Kd.R_mono (ok' := fun k_ => ((fun k_ => k_ ≠ gb466)) k_ ∧ some k_ ≠ (u4 : Value).ownBlock) (Kd.R_types (Kd.R_apart' (HO462.out) (Kd.S_typed HO_4.out) (by decide)) BK466.out (by decide)) (fun k_ hk => ⟨hk.2, hk.1.2⟩))).1 k_ h_.symm) (fun h_ => ((Kd.R_mono (ok' := fun k_ => ((fun k_ => k_ ≠ gb466)) k_ ∧ some k_ ≠ (u4 : Value).ownBlock) (Kd.R_types (Kd.R_apart' (HO465.out) (Kd.S_typed HO_4.out) (by decide)) BK466.out (by decide)) (fun k_ hk => ⟨hk.2, hk.1.2⟩))).1 k_ h_.symm))) ?aF ?aO ?aB ?aS ?aL ?_; (case aP => exact k42_mkM _ _ _ (⟨y457, y460, y463, ([] : List ByteArray), (⟨#[97, 32, 45, 119, 32, 105, 49, 32, 105, 50, 32, 62, 32]⟩ : ByteArray) ++ ((⟨#[111]⟩ : ByteArray) ++ (strOfNums y453)), false, (⟨#[]⟩ : ByteArray)⟩ : S42) (Kd.R_mono (Kd.R_tight rfl (Kd.R_mono (ok' := fun k_ => ((fun k_ => k_ ≠ gb466)) k_ ∧ some k_ ≠ (u4 : Value).ownBlock) (Kd.R_types (Kd.R_apart' (HO459.out) (Kd.S_typed HO_4.out) (by decide)) BK466.out (by decide)) (fun k_ hk => ⟨hk.2, hk.1.2⟩))) (fun _ h_ => Or.inl h_)) (Kd.R_mono (Kd.R_tight rfl (Kd.R_mono (ok' := fun k_ => ((fun k_ => k_ ≠ gb466)) k_ ∧ some k_ ≠ (u4 : Value).ownBlock) (Kd.R_types (Kd.R_apart' (HO462.out) (Kd.S_typed HO_4.out) (by decide)) BK466.out (by decide)) (fun k_ hk => ⟨hk.2, hk.1.2⟩))) (fun _ h_ => Or.inr (Or.inl h_))) (Kd.R_mono (Kd.R_tight rfl (Kd.R_mono (ok' := fun k_ => ((fun k_ => k_ ≠ gb466)) k_ ∧ some k_ ≠ (u4 : Value).ownBlock) (Kd.R_types (Kd.R_apart' (HO465.out) (Kd.S_typed HO_4.out) (by decide)) BK466.out (by decide)) (fun k_ hk => ⟨hk.2, hk.1.2⟩))) (fun _ h_ => Or.inr (Or.inr (h_)))) (Kd.R_nil _ _ _ _ _)); (case aB => exact (by repeat (first | (with_reducible first | exact HB.out | apply below_alloc | apply pw_below_drewN | apply below_drew1 | refine below_set ?_ GE466.out) | exact HB.out))); (case aF => exact (fun k_ hk => Kd.freshB (g := gb466) (o := .cells #[.slice Ao50 y457.length co50, .slice Ao49 y460.length co49, .slice Ao48 y463.length co48, .slice none 0 0, .string ((⟨#[97, 32, 45, 119, 32, 105, 49, 32, 105, 50, 32, 62, 32]⟩ : ByteArray) ++ ((⟨#[111]⟩ : ByteArray) ++ (strOfNums y453))), .bool false, .string (⟨#[]⟩ : ByteArray)] 42 (0, 0)) (by (with_reducible repeat (first | refine blk_drewN ?_ _ | refine blk_drew ?_ | refine blk_alloc ?_ _)); exact BK466.out) k_ hk)); (case aO => exact (by (with_reducible repeat (first | apply Kd.S_alloc | apply Kd.S_drewN | apply Kd.S_drew)); exact Kd.S_mono HO_4.out (fun k_ hk => ⟨hk.2.2.2, fun e_ => e_.elim (fun h_ => hk.1 h_) (fun h_ => h_.elim (fun h_ => hk.2.1 h_) (fun h_ => hk.2.2.1 h_))⟩))); (case aS => exact (below_size (by repeat (first | (with_reducible first | exact HB.out | apply below_alloc | apply pw_below_drewN | apply below_drew1 | refine below_set ?_ GE466.out) | exact HB.out)))); (case aL => have := LMc38.out; omega); intro v472 w55 ho hb hg hat; rw [← Ny471.out] at ho; have n0_ := Aside0.mk (Kd.R_over' (by (with_reducible repeat (first | apply Kd.R_alloc | apply Kd.R_drewN | apply Kd.R_drew)); exact HO455.out) (Kd.S_typed (by (with_reducible repeat (first | apply Kd.S_alloc | apply Kd.S_drewN | apply Kd.S_drew)); exact HO_4.out)) (by decide) hg); have n1_ := Aside0.mk (blk_grown (g := gb466) (o := .cells #[.slice Ao50 y457.length co50, .slice Ao49 y460.length co49, .slice Ao48 y463.length co48, .slice none 0 0, .string ((⟨#[97, 32, 45, 119, 32, 105, 49, 32, 105, 50, 32, 62, 32]⟩ : ByteArray) ++ ((⟨#[111]⟩ : ByteArray) ++ (strOfNums y453))), .bool false, .string (⟨#[]⟩ : ByteArray)] 42 (0, 0)) (by (with_reducible repeat (first | refine blk_drewN ?_ _ | refine blk_drew ?_ | refine blk_alloc ?_ _)); exact BK466.out) hg (Kd.S_away HO_4.out (fun _ hk => hk.2.2.2))); have n2_ := Aside0.mk (hb); have n3_ := Aside0.mk (ho); clear HO455; clear BK466; clear HB; clear HO_4; clear HO459; clear HO462; clear HO465; have HO455 := n0_; have BK466 := n1_; have HB := n2_; have HO473 := n3_; clear n0_ n1_ n2_ n3_; clear ho hb hg hat))
                              go_roundg k1
                              case measure => have := HK1.out; omega
                              case rel => exact ⟨(((x3_1 ++ (⟨#[98, 117, 105, 108, 100, 32]⟩ : ByteArray)) ++ ((⟨#[111]⟩ : ByteArray) ++ (strOfNums y453))) ++ (⟨#[32, 58, 32, 97, 32, 105, 49, 32, 46, 47, 105, 50, 32, 124, 32, 104, 10]⟩ : ByteArray)), (y471), (wrap64 (x6_1 + 1)), (by first | rfl | (simp; done) | (simp [*]; done)), (by first | rfl | (simp; done) | (simp [*]; done)), H', ⟨by have := HK1.out; omega⟩, ⟨by (with_reducible repeat (first | apply Kd.S_alloc | apply Kd.S_drewN | apply Kd.S_drew)); exact Kd.S_mono HO473.out (fun _ hk => trivial)⟩, ⟨by repeat (first | (with_reducible first | exact HB.out | apply below_alloc | apply pw_below_drewN | apply below_drew1 | refine below_set ?_ GE466.out) | exact HB.out)⟩⟩
                            · rw [if_neg c38] at H
                              exact absurd H (by simp)
                        · rw [if_neg c14] at H
                          exact absurd H (by simp)
                      · rw [if_neg c13] at H
                        exact absurd H (by simp)
                    · rw [if_neg c12] at H
                      exact absurd H (by simp)
                  · rw [if_neg c11] at H
                    exact absurd H (by simp)
                · rw [if_neg c10] at H
                  have c10b0 : ((Go.bits .and .i64 (rd l0 x6_1) 1) == 0) = false := beq_eq_false_iff_ne.mpr c10
                  have c10b1 : ((Go.bits .and .i64 (rd l0 x6_1) 1) != 0) = true := bne_iff_ne.mpr c10
                  by_cases c56 : x3_1.size + 6 ≤ 9223372036854775807
                  · rw [if_pos c56] at H
                    have c56b0 := eq_true c56
                    have c56b1 : decide (x3_1.size + 6 ≤ 9223372036854775807) = true := decide_eq_true c56
                    try have c56b2 : (9223372036854775807 < x3_1.size + 6) = False := eq_false (Nat.not_lt.2 c56)
                    by_cases c57 : (x3_1 ++ (⟨#[98, 117, 105, 108, 100, 32]⟩ : ByteArray)).size + ((⟨#[111]⟩ : ByteArray) ++ (strOfNums y453)).size ≤ 9223372036854775807
                    · rw [if_pos c57] at H
                      have c57b0 := eq_true c57
                      have c57b1 : decide ((x3_1 ++ (⟨#[98, 117, 105, 108, 100, 32]⟩ : ByteArray)).size + ((⟨#[111]⟩ : ByteArray) ++ (strOfNums y453)).size ≤ 9223372036854775807) = true := decide_eq_true c57
                      try have c57b2 : (9223372036854775807 < (x3_1 ++ (⟨#[98, 117, 105, 108, 100, 32]⟩ : ByteArray)).size + ((⟨#[111]⟩ : ByteArray) ++ (strOfNums y453)).size) = False := eq_false (Nat.not_lt.2 c57)
                      have c57b3 : (9223372036854775807 < x3_1.size + 6 + (1 + (strOfNums y453).size)) = False := eq_false (by have hh0 : (x3_1 ++ (⟨#[98, 117, 105, 108, 100, 32]⟩ : ByteArray)).size = x3_1.size + 6 := (by rw [ByteArray.size_append] <;> rfl); have hh1 : ((⟨#[111]⟩ : ByteArray) ++ (strOfNums y453)).size = 1 + (strOfNums y453).size := (by rw [ByteArray.size_append] <;> rfl); omega)
                      by_cases c58 : ((x3_1 ++ (⟨#[98, 117, 105, 108, 100, 32]⟩ : ByteArray)) ++ ((⟨#[111]⟩ : ByteArray) ++ (strOfNums y453))).size + 15 ≤ 9223372036854775807
                      · rw [if_pos c58] at H
                        have c58b0 := eq_true c58
                        have c58b1 : decide (((x3_1 ++ (⟨#[98, 117, 105, 108, 100, 32]⟩ : ByteArray)) ++ ((⟨#[111]⟩ : ByteArray) ++ (strOfNums y453))).size + 15 ≤ 9223372036854775807) = true := decide_eq_true c58
                        try have c58b2 : (9223372036854775807 < ((x3_1 ++ (⟨#[98, 117, 105, 108, 100, 32]⟩ : ByteArray)) ++ ((⟨#[111]⟩ : ByteArray) ++ (strOfNums y453))).size + 15) = False := eq_false (Nat.not_lt.2 c58)
                        have c58b3 : (9223372036854775807 < x3_1.size + 6 + (1 + (strOfNums y453).size) + 15) = False := eq_false (by have hh0 : ((x3_1 ++ (⟨#[98, 117, 105, 108, 100, 32]⟩ : ByteArray)) ++ ((⟨#[111]⟩ : ByteArray) ++ (strOfNums y453))).size = x3_1.size + 6 + (1 + (strOfNums y453).size) := (by rw [ByteArray.size_append, ByteArray.size_append, ByteArray.size_append] <;> rfl); omega)
                        obtain ⟨y474, hy474⟩ : ∃ y_ : List ByteArray, y_ = (([(⟨#[111]⟩ : ByteArray) ++ (strOfNums y453)] : List ByteArray)) := ⟨_, rfl⟩
                        replace H : (if x4_1.length < 1034834473200 then (cruciblelaw8_ManifestEdges.l0 k1 l0 (((x3_1 ++ (⟨#[98, 117, 105, 108, 100, 32]⟩ : ByteArray)) ++ ((⟨#[111]⟩ : ByteArray) ++ (strOfNums y453))) ++ (⟨#[32, 58, 32, 98, 32, 124, 124, 32, 122, 47, 46, 46, 47, 122, 10]⟩ : ByteArray)) (x4_1 ++ [(⟨y474, ([] : List ByteArray), ([] : List ByteArray), (([(⟨#[122]⟩ : ByteArray)] : List ByteArray)), (⟨#[98, 32]⟩ : ByteArray), true, (⟨#[112]⟩ : ByteArray)⟩ : S42)]) ji4 (wrap64 (x6_1 + 1))) else (none)) = some r := by first | (rw [hy474]; with_reducible exact H) | (have H2_ := (Option.bind_some _ _).symm.trans H; rw [hy474]; with_reducible exact H2_) | (have H2_ := (Option.bind_some _ _).symm.trans H; with_reducible exact H2_) | with_reducible exact H | (rw [hy474]; exact H) | exact H
                        have Ny474 := Aside0.mk hy474
                        clear hy474
                        obtain ⟨y477, hy477⟩ : ∃ y_ : List ByteArray, y_ = (([(⟨#[122]⟩ : ByteArray)] : List ByteArray)) := ⟨_, rfl⟩
                        replace H : (if x4_1.length < 1034834473200 then (cruciblelaw8_ManifestEdges.l0 k1 l0 (((x3_1 ++ (⟨#[98, 117, 105, 108, 100, 32]⟩ : ByteArray)) ++ ((⟨#[111]⟩ : ByteArray) ++ (strOfNums y453))) ++ (⟨#[32, 58, 32, 98, 32, 124, 124, 32, 122, 47, 46, 46, 47, 122, 10]⟩ : ByteArray)) (x4_1 ++ [(⟨y474, ([] : List ByteArray), ([] : List ByteArray), y477, (⟨#[98, 32]⟩ : ByteArray), true, (⟨#[112]⟩ : ByteArray)⟩ : S42)]) ji4 (wrap64 (x6_1 + 1))) else (none)) = some r := by first | (rw [hy477]; with_reducible exact H) | (have H2_ := (Option.bind_some _ _).symm.trans H; rw [hy477]; with_reducible exact H2_) | (have H2_ := (Option.bind_some _ _).symm.trans H; with_reducible exact H2_) | with_reducible exact H | (rw [hy477]; exact H) | exact H
                        have Ny477 := Aside0.mk hy477
                        clear hy477
                        by_cases c59 : x4_1.length < 1034834473200
                        · rw [if_pos c59] at H
                          have LMc59 := Aside0.mk c59
                          clear c59
                          obtain ⟨y480, hy480⟩ : ∃ y_ : List (S42), y_ = (x4_1 ++ [(⟨y474, ([] : List ByteArray), ([] : List ByteArray), y477, (⟨#[98, 32]⟩ : ByteArray), true, (⟨#[112]⟩ : ByteArray)⟩ : S42)]) := ⟨_, rfl⟩
                          replace H : (cruciblelaw8_ManifestEdges.l0 k1 l0 (((x3_1 ++ (⟨#[98, 117, 105, 108, 100, 32]⟩ : ByteArray)) ++ ((⟨#[111]⟩ : ByteArray) ++ (strOfNums y453))) ++ (⟨#[32, 58, 32, 98, 32, 124, 124, 32, 122, 47, 46, 46, 47, 122, 10]⟩ : ByteArray)) y480 ji4 (wrap64 (x6_1 + 1))) = some r := by first | (rw [hy480]; with_reducible exact H) | (have H2_ := (Option.bind_some _ _).symm.trans H; rw [hy480]; with_reducible exact H2_) | (have H2_ := (Option.bind_some _ _).symm.trans H; with_reducible exact H2_) | with_reducible exact H | (rw [hy480]; exact H) | exact H
                          have Ny480 := Aside0.mk hy480
                          clear hy480
                          have H' := Aside0.mk H
                          clear H
                          go_wp2_with (first | ((with_reducible refine gate_dst (N := 24) rfl ?_); (try (refine gate_guard (by rfl) ?_; dsimp only)); refine Kd.R_lit (Kd.int .u8) _ 5 ?hg (N := 24) ?hd (xs := ([(wrap64 (97 + x6_1)) % 256] : List Int)) (inner := [.int .u8 ((wrap64 (97 + x6_1)) % 256)]) (ok := fun _ => True) (okp := fun _ => True) ?hr ?hp (fun _ hk => hk) trivial (Below.refl _ _) (Nat.le_refl _) (by simp) ?_; (case hd => rfl); (case hg => rfl); (case hr => first | (go_simp; done) | (go_simp; rfl)); (case hp => exact (Reps.one (show Kd.M (Kd.int .u8) _ _ _ ((wrap64 (97 + x6_1)) % 256) [.int .u8 ((wrap64 (97 + x6_1)) % 256)] from rfl) (Reps.none _ _))); intro v454 w60 ho61 hb hg_ hnew_; clear hg_ hnew_; (first | rw [← Ny453.out] at ho61 | (simp only [Int.reduceToNat] at ho61; rw [← Ny453.out] at ho61)); have n0_ := Aside0.mk (Kd.S_below (by (with_reducible repeat (first | apply Kd.S_alloc | apply Kd.S_drewN | apply Kd.S_drew)); exact HO_4.out) hb); have n1_ := Aside0.mk (Kd.R_lower ho61 (below_size (by repeat (first | (with_reducible first | exact HB.out | apply below_alloc | apply pw_below_drewN | apply below_drew1) | exact HB.out)))); have n2_ := Aside0.mk (below_step (by repeat (first | (with_reducible first | exact HB.out | apply below_alloc | apply pw_below_drewN | apply below_drew1) | exact HB.out)) hb); clear HO_4; clear HB; have HO_4 := n0_; have HO455 := n1_; have HB := n2_; clear n0_ n1_ n2_; clear hb ho61; have hcv62 := own_string (P := Tryz.prog) Tryz.underlying39 Tryz.underlying5 Tryz.underlying9 (Kd.own_of_R HO455.out); have p456 : 0 ≤ (x6_1 : Int) := of_decide_eq_true (by first | (with_reducible assumption) | assumption); have q456 : x6_1 < (l0.length : Int) := of_decide_eq_true (by first | (with_reducible assumption) | assumption); obtain ⟨ad456, e456, hx456_0⟩ := Kd.at_int HR0.out x6_1 p456 q456; cases e456; replace hx456_0 := (HB.out.cell (World.block_lt_of_cell? w _ hx456_0)).trans hx456_0; replace p456 := eq_true p456; replace q456 := eq_true q456) | ((with_reducible refine gate_dst (N := 68) rfl ?_); (try (refine gate_guard (by rfl) ?_; dsimp only)); refine Kd.R_lit Kd.string _ 9 ?hg (N := 68) ?hd (xs := ([(⟨#[111]⟩ : ByteArray) ++ (strOfNums y453)] : List ByteArray)) (inner := [.string ((⟨#[111]⟩ : ByteArray) ++ (strOfNums y453))]) (ok := fun _ => True) (okp := fun _ => True) ?hr ?hp (fun _ hk => hk) trivial (Below.refl _ _) (Nat.le_refl _) (by simp) ?_; (case hd => rfl); (case hg => rfl); (case hr => first | (go_simp; done) | (go_simp; rfl)); (case hp => exact (Reps.one (show Kd.M Kd.string _ _ _ ((⟨#[111]⟩ : ByteArray) ++ (strOfNums y453)) [.string ((⟨#[111]⟩ : ByteArray) ++ (strOfNums y453))] from rfl) (Reps.none _ _))); intro v475 w63 ho64 hb hg_ hnew_; clear hg_ hnew_; (first | rw [← Ny474.out] at ho64 | (simp only [Int.reduceToNat] at ho64; rw [← Ny474.out] at ho64)); have n0_ := Aside0.mk (Kd.S_elder' (by (with_reducible repeat (first | apply Kd.S_alloc | apply Kd.S_drewN | apply Kd.S_drew)); exact HO_4.out) (Kd.R_base ho64) hb); have n1_ := Aside0.mk (Kd.R_below (by (with_reducible repeat (first | apply Kd.R_alloc | apply Kd.R_drewN | apply Kd.R_drew)); exact HO455.out) hb); have n2_ := Aside0.mk (Kd.R_lower ho64 (below_size (by repeat (first | (with_reducible first | exact HB.out | apply below_alloc | apply pw_below_drewN | apply below_drew1) | exact HB.out)))); have n3_ := Aside0.mk (below_step (by repeat (first | (with_reducible first | exact HB.out | apply below_alloc | apply pw_below_drewN | apply below_drew1) | exact HB.out)) hb); clear HO_4; clear HO455; clear HB; have HO_4 := n0_; have HO455 := n1_; have HO476 := n2_; have HB := n3_; clear n0_ n1_ n2_ n3_; clear hb ho64) | ((with_reducible refine gate_dst (N := 69) rfl ?_); (try (refine gate_guard (by rfl) ?_; dsimp only)); refine Kd.R_lit Kd.string _ 9 ?hg (N := 69) ?hd (xs := ([(⟨#[122]⟩ : ByteArray)] : List ByteArray)) (inner := [.string (⟨#[122]⟩ : ByteArray)]) (ok := fun _ => True) (okp := fun _ => True) ?hr ?hp (fun _ hk => hk) trivial (Below.refl _ _) (Nat.le_refl _) (by simp) ?_; (case hd => rfl); (case hg => rfl); (case hr => first | (go_simp; done) | (go_simp; rfl)); (case hp => exact (Reps.one (show Kd.M Kd.string _ _ _ (⟨#[122]⟩ : ByteArray) [.string (⟨#[122]⟩ : ByteArray)] from rfl) (Reps.none _ _))); intro v478 w65 ho66 hb hg_ hnew_; clear hg_ hnew_; (first | rw [← Ny477.out] at ho66 | (simp only [Int.reduceToNat] at ho66; rw [← Ny477.out] at ho66)); have n0_ := Aside0.mk (Kd.S_elder' (by (with_reducible repeat (first | apply Kd.S_alloc | apply Kd.S_drewN | apply Kd.S_drew)); exact HO_4.out) (Kd.R_base ho66) hb); have n1_ := Aside0.mk (Kd.R_below (by (with_reducible repeat (first | apply Kd.R_alloc | apply Kd.R_drewN | apply Kd.R_drew)); exact HO455.out) hb); have n2_ := Aside0.mk (Kd.R_elder' (by (with_reducible repeat (first | apply Kd.R_alloc | apply Kd.R_drewN | apply Kd.R_drew)); exact HO476.out) (Kd.R_base ho66) hb); have n3_ := Aside0.mk (Kd.R_lower (Kd.R_new' ho66 (Kd.R_lt (by (with_reducible repeat (first | apply Kd.R_alloc | apply Kd.R_drewN | apply Kd.R_drew)); exact HO476.out))) (below_size (by repeat (first | (with_reducible first | exact HB.out | apply below_alloc | apply pw_below_drewN | apply below_drew1) | exact HB.out)))); have n4_ := Aside0.mk (below_step (by repeat (first | (with_reducible first | exact HB.out | apply below_alloc | apply pw_below_drewN | apply below_drew1) | exact HB.out)) hb); clear HO_4; clear HO455; clear HO476; clear HB; have HO_4 := n0_; have HO455 := n1_; have HO476 := n2_; have HO479 := n3_; have HB := n4_; clear n0_ n1_ n2_ n3_ n4_; clear hb ho66; obtain ⟨Ao67, co67, eo67⟩ := Kd.R_slice HO479.out; subst eo67; obtain ⟨Ao68, co68, eo68⟩ := Kd.R_slice HO476.out; subst eo68) | ((with_reducible refine gate_builtin (b := .append) (xs := #[.tmp 66, .tmp 71]) rfl ?_); (try (refine gate_guard (by rfl) ?_; dsimp only)); at_builtin; refine Kd.S_append k42 (w0 := w) w.heap.size rfl (.tmp 66) (.tmp 71) 22 42 (.agg #[(.slice none 0 0), (.slice none 0 0), (.slice none 0 0), (.slice none 0 0), (.string ⟨#[]⟩), (.bool false), (.string ⟨#[]⟩)]) 136 rfl Tryz.underlying22 info42 rfl (by decide) (by omega) u4 x4_1 (⟨y474, ([] : List ByteArray), ([] : List ByteArray), y477, (⟨#[98, 32]⟩ : ByteArray), true, (⟨#[112]⟩ : ByteArray)⟩ : S42) [.slice Ao68 y474.length co68, .slice none 0 0, .slice none 0 0, .slice Ao67 y477.length co67, .string (⟨#[98, 32]⟩ : ByteArray), .bool true, .string (⟨#[112]⟩ : ByteArray)] (fun _ => True) (fun k_ => some k_ = (.slice Ao68 y474.length co68 : Value).ownBlock ∨ some k_ = (.slice Ao67 y477.length co67 : Value).ownBlock) rfl rfl ?aP (fun k_ hk_ => hk_.elim (fun h_ => ((Kd.R_mono (ok' := fun k_ => ((fun _ => True)) k_ ∧ some k_ ≠ (u4 : Value).ownBlock) (Kd.R_apart' (HO476.out) (Kd.S_typed HO_4.out) (by decide)) (fun k_ hk => ⟨trivial, hk.2⟩))).1 k_ h_.symm) (fun h_ => ((Kd.R_mono (ok' := fun k_ => ((fun _ => True)) k_ ∧ some k_ ≠ (u4 : Value).ownBlock) (Kd.R_apart' (HO479.out) (Kd.S_typed HO_4.out) (by decide)) (fun k_ hk => ⟨trivial, hk.2⟩))).1 k_ h_.symm)) ?aF ?aO ?aB ?aS ?aL ?_; (case aP => exact k42_mkM _ _ _ (⟨y474, ([] : List ByteArray), ([] : List ByteArray), y477, (⟨#[98, 32]⟩ : ByteArray), true, (⟨#[112]⟩ : ByteArray)⟩ : S42) (Kd.R_mono (Kd.R_tight rfl (Kd.R_mono (ok' := fun k_ => ((fun _ => True)) k_ ∧ some k_ ≠ (u4 : Value).ownBlock) (Kd.R_apart' (HO476.out) (Kd.S_typed HO_4.out) (by decide)) (fun k_ hk => ⟨trivial, hk.2⟩))) (fun _ h_ => Or.inl h_)) (Kd.R_nil _ _ _ _ _) (Kd.R_nil _ _ _ _ _) (Kd.R_mono (Kd.R_tight rfl (Kd.R_mono (ok' := fun k_ => ((fun _ => True)) k_ ∧ some k_ ≠ (u4 : Value).ownBlock) (Kd.R_apart' (HO479.out) (Kd.S_typed HO_4.out) (by decide)) (fun k_ hk => ⟨trivial, hk.2⟩))) (fun _ h_ => Or.inr (h_)))); (case aB => exact (by repeat (first | (with_reducible first | exact HB.out | apply below_alloc | apply pw_below_drewN | apply below_drew1) | exact HB.out))); (case aF => exact (fun _ _ => trivial)); (case aO => exact (by (with_reducible repeat (first | apply Kd.S_alloc | apply Kd.S_drewN | apply Kd.S_drew)); exact Kd.S_mono HO_4.out (fun k_ hk => ⟨trivial, fun e_ => e_.elim (fun h_ => hk.1.2 h_) (fun h_ => hk.2 h_)⟩))); (case aS => exact (below_size (by repeat (first | (with_reducible first | exact HB.out | apply below_alloc | apply pw_below_drewN | apply below_drew1) | exact HB.out)))); (case aL => have := LMc59.out; omega); intro v481 w69 ho hb hg hat; rw [← Ny480.out] at ho; have n0_ := Aside0.mk (Kd.R_over' (by (with_reducible repeat (first | apply Kd.R_alloc | apply Kd.R_drewN | apply Kd.R_drew)); exact HO455.out) (Kd.S_typed (by (with_reducible repeat (first | apply Kd.S_alloc | apply Kd.S_drewN | apply Kd.S_drew)); exact HO_4.out)) (by decide) hg); have n1_ := Aside0.mk (hb); have n2_ := Aside0.mk (ho); clear HO455; clear HB; clear HO_4; clear HO476; clear HO479; have HO455 := n0_; have HB := n1_; have HO482 := n2_; clear n0_ n1_ n2_; clear ho hb hg hat))
                          go_roundg k1
                          case measure => have := HK1.out; omega
                          case rel => exact ⟨(((x3_1 ++ (⟨#[98, 117, 105, 108, 100, 32]⟩ : ByteArray)) ++ ((⟨#[111]⟩ : ByteArray) ++ (strOfNums y453))) ++ (⟨#[32, 58, 32, 98, 32, 124, 124, 32, 122, 47, 46, 46, 47, 122, 10]⟩ : ByteArray)), (y480), (wrap64 (x6_1 + 1)), (by first | rfl | (simp; done) | (simp [*]; done)), (by first | rfl | (simp; done) | (simp [*]; done)), H', ⟨by have := HK1.out; omega⟩, ⟨by (with_reducible repeat (first | apply Kd.S_alloc | apply Kd.S_drewN | apply Kd.S_drew)); exact HO482.out⟩, ⟨by repeat (first | (with_reducible first | exact HB.out | apply below_alloc | apply pw_below_drewN | apply below_drew1) | exact HB.out)⟩⟩
                        · rw [if_neg c59] at H
                          exact absurd H (by simp)
                      · rw [if_neg c58] at H
                        exact absurd H (by simp)
                    · rw [if_neg c57] at H
                      exact absurd H (by simp)
                  · rw [if_neg c56] at H
                    exact absurd H (by simp)
              · rw [if_neg c9] at H
                exact absurd H (by simp)
            · rw [if_neg c8] at H
              exact absurd H (by simp)
          · rw [if_neg c7] at H
            exact absurd H (by simp)
        · rw [if_neg c6] at H
          have c6b0 : decide (x6_1 < ji4) = false := decide_eq_false c6
          clear c6
          replace H := Option.bind_eq_some_iff.mp H
          obtain ⟨⟨t437, t440, t443, t446⟩, A700, H⟩ := H
          replace H : ((cruciblelaw0_Num.f t446).bind fun t448 => (if t448 = 0 then ((cruciblelaw0_SameGraph.f k1 t437 t440 t443 x4_1 (([(⟨(⟨#[112]⟩ : ByteArray), 3⟩ : S44)] : List (S44))) ([] : List ByteArray)).bind fun t452 => (some t452)) else (some false))) = some r := H
          have A70 := Aside0.mk A700
          clear A700
          replace H := Option.bind_eq_some_iff.mp H
          obtain ⟨t448, A710, H⟩ := H
          replace H : (if t448 = 0 then ((cruciblelaw0_SameGraph.f k1 t437 t440 t443 x4_1 (([(⟨(⟨#[112]⟩ : ByteArray), 3⟩ : S44)] : List (S44))) ([] : List ByteArray)).bind fun t452 => (some t452)) else (some false)) = some r := H
          have A71 := Aside0.mk A710
          clear A710
          by_cases c72 : t448 = 0
          · rw [if_pos c72] at H
            have c72b0 : (t448 == 0) = true := beq_iff_eq.mpr c72
            have c72b1 : (t448 != 0) = false := bne_eq_false_iff_eq.mpr c72
            clear c72
            obtain ⟨y449, hy449⟩ : ∃ y_ : List (S44), y_ = (([(⟨(⟨#[112]⟩ : ByteArray), 3⟩ : S44)] : List (S44))) := ⟨_, rfl⟩
            replace H : ((cruciblelaw0_SameGraph.f k1 t437 t440 t443 x4_1 y449 ([] : List ByteArray)).bind fun t452 => (some t452)) = some r := by first | (rw [hy449]; with_reducible exact H) | (have H2_ := (Option.bind_some _ _).symm.trans H; rw [hy449]; with_reducible exact H2_) | (have H2_ := (Option.bind_some _ _).symm.trans H; with_reducible exact H2_) | with_reducible exact H | (rw [hy449]; exact H) | exact H
            have Ny449 := Aside0.mk hy449
            clear hy449
            replace H := Option.bind_eq_some_iff.mp H
            obtain ⟨t452, A730, H⟩ := H
            replace H : (some t452) = some r := H
            have A73 := Aside0.mk A730
            clear A730
            obtain rfl := Option.some.inj H
            replace HO_4 := Aside0.mk (Kd.S_R HO_4.out)
            go_wp2_with (first | ((with_reducible refine gate_callee (f := 10) rfl ?_); refine goesL_ (some 75) rfl rfl Tryz.func10 (by kernel_rfl) rfl #[.string x3_1] rfl (by (try simp only [List.map_toArray, List.map_cons, List.map_nil]); first | done | rfl | (simp only [List.length_drop, List.length_take]; rfl)) ?_; (with_reducible refine (manifest_Parse.calls x3_1 t437 t440 t443 t446 _ A70.out).mono ?_); rintro e w74 ⟨v438, v441, v444, rfl, ho0, ho1, ho2, hb⟩; refine ⟨_, rfl, ?_⟩; have n0_ := Aside0.mk (Kd.R_mono (Kd.R_told (Kd.R_told (Kd.R_old (by (with_reducible repeat (first | apply Kd.R_alloc | apply Kd.R_drewN | apply Kd.R_drew)); exact HO_4.out) hb) (Kd.R_base ho0)) (Kd.R_base ho2)) (fun _ h_ => h_.1)); have n1_ := Aside0.mk (Kd.R_lower (Kd.R_new' ho0 (Kd.R_lt (by (with_reducible repeat (first | apply Kd.R_alloc | apply Kd.R_drewN | apply Kd.R_drew)); exact HO_4.out))) (below_size (by repeat (first | (with_reducible first | exact HB.out | apply below_alloc | apply pw_below_drewN | apply below_drew1) | exact HB.out)))); have n2_ := Aside0.mk (Kd.R_lower ho1 (below_size (by repeat (first | (with_reducible first | exact HB.out | apply below_alloc | apply pw_below_drewN | apply below_drew1) | exact HB.out)))); have n3_ := Aside0.mk (Kd.R_lower ho2 (below_size (by repeat (first | (with_reducible first | exact HB.out | apply below_alloc | apply pw_below_drewN | apply below_drew1) | exact HB.out)))); have n4_ := Aside0.mk (below_step (by repeat (first | (with_reducible first | exact HB.out | apply below_alloc | apply pw_below_drewN | apply below_drew1) | exact HB.out)) hb); clear HO_4; clear HB; have HO_4 := n0_; have HO439 := n1_; have HO442 := n2_; have HO445 := n3_; have HB := n4_; clear n0_ n1_ n2_ n3_ n4_; (try clear hb); (try clear hb2); (try clear hk); (try clear hi); (try clear ho0); (try clear ho1); (try clear ho2)) | ((with_reducible refine gate_dst (N := 9) rfl ?_); (try (refine gate_guard (by rfl) ?_; dsimp only)); refine box_event ?hg (N := 9) ?hd (cs := #[.slice none 0 0, .slice none 0 0, .slice none 0 0]) (t := 26) ?hr ?_; (case hd => rfl); (case hg => rfl); (case hr => first | (go_simp; done) | (go_simp; rfl)); intro gb447 hg w75 hbox hb; have n0_ := Aside0.mk (Kd.R_below (by (with_reducible repeat (first | apply Kd.R_alloc | apply Kd.R_drewN | apply Kd.R_drew)); exact HO_4.out) hb); have n1_ := Aside0.mk (Kd.R_below (by (with_reducible repeat (first | apply Kd.R_alloc | apply Kd.R_drewN | apply Kd.R_drew)); exact HO439.out) hb); have n2_ := Aside0.mk (Kd.R_below (by (with_reducible repeat (first | apply Kd.R_alloc | apply Kd.R_drewN | apply Kd.R_drew)); exact HO442.out) hb); have n3_ := Aside0.mk (Kd.R_below (by (with_reducible repeat (first | apply Kd.R_alloc | apply Kd.R_drewN | apply Kd.R_drew)); exact HO445.out) hb); have n4_ := Aside0.mk (below_step (by repeat (first | (with_reducible first | exact HB.out | apply below_alloc | apply pw_below_drewN | apply below_drew1) | exact HB.out)) hb); have n5_ := Aside0.mk (hbox); have n6_ := Aside0.mk ((by rw [hg]; exact (below_size (by repeat (first | (with_reducible first | exact HB.out | apply below_alloc | apply pw_below_drewN | apply below_drew1) | exact HB.out))) : w.heap.size ≤ gb447)); have n7_ := Aside0.mk ((by rw [hg]; exact (below_size (by repeat (first | (with_reducible first | exact HB.out | apply below_alloc | apply pw_below_drewN | apply below_drew1) | exact HB.out))) : w.heap.size ≤ gb447)); clear HO_4; clear HO439; clear HO442; clear HO445; clear HB; have HO_4 := n0_; have HO439 := n1_; have HO442 := n2_; have HO445 := n3_; have HB := n4_; have BK447 := n5_; have GW447 := n6_; have GE447 := n7_; clear n0_ n1_ n2_ n3_ n4_ n5_ n6_ n7_; clear hb hbox hg; obtain ⟨Ao76, co76, eo76⟩ := Kd.R_slice HO439.out; subst eo76; have hcz77_0 : w75.cell? ⟨gb447, 0, none⟩ = some (.slice none 0 0) := (blk_cell BK447.out 0).trans rfl; have hcz77_1 : w75.cell? ⟨gb447, 1, none⟩ = some (.slice none 0 0) := (blk_cell BK447.out 1).trans rfl; have hcz77_2 : w75.cell? ⟨gb447, 2, none⟩ = some (.slice none 0 0) := (blk_cell BK447.out 2).trans rfl; have hfz77_0 := blk_frozen BK447.out 0; have hfz77_1 := blk_frozen BK447.out 1; have hfz77_2 := blk_frozen BK447.out 2; obtain ⟨Ao78, co78, eo78⟩ := Kd.R_slice HO442.out; subst eo78; obtain ⟨Ao79, co79, eo79⟩ := Kd.R_slice HO445.out; subst eo79) | ((with_reducible refine gate_callee (f := 13) rfl ?_); refine goesL_ (some 79) rfl rfl Tryz.func13 (by kernel_rfl) rfl #[.int .i64 t446] rfl (by (try simp only [List.map_toArray, List.map_cons, List.map_nil]); first | done | rfl | (simp only [List.length_drop, List.length_take]; rfl)) ?_; (with_reducible refine (cruciblelaw0_Num.calls t446 t448 _ A71.out).mono ?_); rintro e w' ⟨rfl, ⟨nd, rfl⟩⟩; refine ⟨_, rfl, ?_⟩) | ((with_reducible refine gate_dst (N := 85) rfl ?_); (try (refine gate_guard (by rfl) ?_; dsimp only)); refine Kd.R_lit k44 _ 44 ?hg (N := 85) ?hd (xs := ([(⟨(⟨#[112]⟩ : ByteArray), 3⟩ : S44)] : List (S44))) (inner := [.string (⟨#[112]⟩ : ByteArray), .int .i64 3]) (ok := fun _ => True) (okp := fun _ => True) ?hr ?hp (fun _ hk => hk) trivial (Below.refl _ _) (Nat.le_refl _) (by simp) ?_; (case hd => rfl); (case hg => rfl); (case hr => first | (go_simp; done) | (go_simp; rfl)); (case hp => exact (Reps.c2 (show Kd.M k44 _ _ _ (⟨(⟨#[112]⟩ : ByteArray), 3⟩ : S44) [.string (⟨#[112]⟩ : ByteArray), .int .i64 3] from (k44_mkM _ _ _ (⟨(⟨#[112]⟩ : ByteArray), 3⟩ : S44) )) (Reps.none _ _))); intro v450 w80 ho81 hb hg_ hnew_; clear hg_ hnew_; (first | rw [← Ny449.out] at ho81 | (simp only [Int.reduceToNat] at ho81; rw [← Ny449.out] at ho81)); have n0_ := Aside0.mk (Kd.R_below (by (with_reducible repeat (first | apply Kd.R_alloc | apply Kd.R_drewN | apply Kd.R_drew)); exact (Kd.R_mono (Kd.R_far (p := ⟨gb447, 2, none⟩) (Kd.R_far (p := ⟨gb447, 1, none⟩) (Kd.R_far (p := ⟨gb447, 0, none⟩) (Kd.R_types HO_4.out BK447.out (by decide)) (fun _ hk => hk.2) (.slice Ao76 t437.length co76)) (fun _ hk => hk.2) (.slice Ao78 t440.length co78)) (fun _ hk => hk.2) (.slice Ao79 t443.length co79)) (fun _ h_ => h_.1))) hb); have n1_ := Aside0.mk (Kd.R_below (by (with_reducible repeat (first | apply Kd.R_alloc | apply Kd.R_drewN | apply Kd.R_drew)); exact (Kd.R_mono (Kd.R_far (p := ⟨gb447, 2, none⟩) (Kd.R_far (p := ⟨gb447, 1, none⟩) (Kd.R_far (p := ⟨gb447, 0, none⟩) (Kd.R_types HO439.out BK447.out (by decide)) (fun _ hk => hk.2) (.slice Ao76 t437.length co76)) (fun _ hk => hk.2) (.slice Ao78 t440.length co78)) (fun _ hk => hk.2) (.slice Ao79 t443.length co79)) (fun _ h_ => h_.1))) hb); have n2_ := Aside0.mk (Kd.R_elder' (by (with_reducible repeat (first | apply Kd.R_alloc | apply Kd.R_drewN | apply Kd.R_drew)); exact (Kd.R_mono (Kd.R_far (p := ⟨gb447, 2, none⟩) (Kd.R_far (p := ⟨gb447, 1, none⟩) (Kd.R_far (p := ⟨gb447, 0, none⟩) (Kd.R_types HO442.out BK447.out (by decide)) (fun _ hk => hk.2) (.slice Ao76 t437.length co76)) (fun _ hk => hk.2) (.slice Ao78 t440.length co78)) (fun _ hk => hk.2) (.slice Ao79 t443.length co79)) (fun _ h_ => h_.1))) (Kd.R_base ho81) hb); have n3_ := Aside0.mk (Kd.R_below (by (with_reducible repeat (first | apply Kd.R_alloc | apply Kd.R_drewN | apply Kd.R_drew)); exact (Kd.R_mono (Kd.R_far (p := ⟨gb447, 2, none⟩) (Kd.R_far (p := ⟨gb447, 1, none⟩) (Kd.R_far (p := ⟨gb447, 0, none⟩) (Kd.R_types HO445.out BK447.out (by decide)) (fun _ hk => hk.2) (.slice Ao76 t437.length co76)) (fun _ hk => hk.2) (.slice Ao78 t440.length co78)) (fun _ hk => hk.2) (.slice Ao79 t443.length co79)) (fun _ h_ => h_.1))) hb); have n4_ := Aside0.mk (Kd.R_lower (Kd.R_new' ho81 (Kd.R_lt (by (with_reducible repeat (first | apply Kd.R_alloc | apply Kd.R_drewN | apply Kd.R_drew)); exact (Kd.R_mono (Kd.R_far (p := ⟨gb447, 2, none⟩) (Kd.R_far (p := ⟨gb447, 1, none⟩) (Kd.R_far (p := ⟨gb447, 0, none⟩) (Kd.R_types HO442.out BK447.out (by decide)) (fun _ hk => hk.2) (.slice Ao76 t437.length co76)) (fun _ hk => hk.2) (.slice Ao78 t440.length co78)) (fun _ hk => hk.2) (.slice Ao79 t443.length co79)) (fun _ h_ => h_.1))))) (below_size (by repeat (first | (with_reducible first | exact HB.out | apply below_alloc | apply pw_below_drewN | apply below_drew1 | refine below_set ?_ GE447.out) | exact HB.out)))); have n5_ := Aside0.mk (blk_below (g := gb447) (o := .cells #[.slice Ao76 t437.length co76, .slice Ao78 t440.length co78, .slice Ao79 t443.length co79] 26 (0, 0)) (by (with_reducible repeat (first | refine blk_drewN ?_ _ | refine blk_drew ?_ | refine blk_alloc ?_ _)); refine blk_put (cs := #[.slice Ao76 t437.length co76, .slice Ao78 t440.length co78, .slice none 0 0]) ?_ 2 _ rfl; (with_reducible repeat (first | refine blk_drewN ?_ _ | refine blk_drew ?_ | refine blk_alloc ?_ _)); refine blk_put (cs := #[.slice Ao76 t437.length co76, .slice none 0 0, .slice none 0 0]) ?_ 1 _ rfl; (with_reducible repeat (first | refine blk_drewN ?_ _ | refine blk_drew ?_ | refine blk_alloc ?_ _)); refine blk_put (cs := #[.slice none 0 0, .slice none 0 0, .slice none 0 0]) ?_ 0 _ rfl; (with_reducible repeat (first | refine blk_drewN ?_ _ | refine blk_drew ?_ | refine blk_alloc ?_ _)); exact BK447.out) hb); have n6_ := Aside0.mk (below_step (by repeat (first | (with_reducible first | exact HB.out | apply below_alloc | apply pw_below_drewN | apply below_drew1 | refine below_set ?_ GE447.out) | exact HB.out)) hb); clear HO_4; clear HO439; clear HO442; clear HO445; clear BK447; clear HB; have HO_4 := n0_; have HO439 := n1_; have HO442 := n2_; have HO445 := n3_; have HO451 := n4_; have BK447 := n5_; have HB := n6_; clear n0_ n1_ n2_ n3_ n4_ n5_ n6_; clear hb ho81; obtain ⟨Ao82, co82, eo82⟩ := Kd.R_slice HO451.out; subst eo82; obtain ⟨Ao83, co83, eo83⟩ := Kd.R_slice HO_4.out; subst eo83) | (go_at_call 12; (refine (cruciblelaw0_SameGraph.calls k1 _ _ t437 _ _ t440 _ _ t443 _ _ x4_1 _ _ y449 _ _ ([] : List ByteArray) t452 _ ?side1 ?side2 ?side3 ?side4 ?side5 ?side6 ?side7 ?side8 ?side9 ?side10 ?side11 ?side12 A73.out).mono ?_); (case side1 => repeat (first | exact (Kd.R_reads' HO439.out).2.2 | (with_reducible refine Kd.C_alloc ?_ _) | (with_reducible refine Kd.C_drewN ?_ _) | (with_reducible refine Kd.C_drew ?_))); (case side2 => exact (Kd.R_reads' HO439.out).2.1); (case side3 => repeat (first | exact (Kd.R_reads' HO442.out).2.2 | (with_reducible refine Kd.C_alloc ?_ _) | (with_reducible refine Kd.C_drewN ?_ _) | (with_reducible refine Kd.C_drew ?_))); (case side4 => exact (Kd.R_reads' HO442.out).2.1); (case side5 => repeat (first | exact (Kd.R_reads' HO445.out).2.2 | (with_reducible refine Kd.C_alloc ?_ _) | (with_reducible refine Kd.C_drewN ?_ _) | (with_reducible refine Kd.C_drew ?_))); (case side6 => exact (Kd.R_reads' HO445.out).2.1); (case side7 => repeat (first | exact (Kd.R_reads' HO_4.out).2.2 | (with_reducible refine Kd.C_alloc ?_ _) | (with_reducible refine Kd.C_drewN ?_ _) | (with_reducible refine Kd.C_drew ?_))); (case side8 => exact (Kd.R_reads' HO_4.out).2.1); (case side9 => repeat (first | exact (Kd.R_reads' HO451.out).2.2 | (with_reducible refine Kd.C_alloc ?_ _) | (with_reducible refine Kd.C_drewN ?_ _) | (with_reducible refine Kd.C_drew ?_))); (case side10 => exact (Kd.R_reads' HO451.out).2.1); (case side11 => exact Kd.C_nil _ _); (case side12 => exact Nat.le_refl _); rintro e w84 ⟨rfl, hb⟩; have n0_ := Aside0.mk (Kd.R_below (by (with_reducible repeat (first | apply Kd.R_alloc | apply Kd.R_drewN | apply Kd.R_drew)); exact HO_4.out) hb); have n1_ := Aside0.mk (Kd.R_below (by (with_reducible repeat (first | apply Kd.R_alloc | apply Kd.R_drewN | apply Kd.R_drew)); exact HO439.out) hb); have n2_ := Aside0.mk (Kd.R_below (by (with_reducible repeat (first | apply Kd.R_alloc | apply Kd.R_drewN | apply Kd.R_drew)); exact HO442.out) hb); have n3_ := Aside0.mk (Kd.R_below (by (with_reducible repeat (first | apply Kd.R_alloc | apply Kd.R_drewN | apply Kd.R_drew)); exact HO445.out) hb); have n4_ := Aside0.mk (Kd.R_below (by (with_reducible repeat (first | apply Kd.R_alloc | apply Kd.R_drewN | apply Kd.R_drew)); exact HO451.out) hb); have n5_ := Aside0.mk (blk_below (g := gb447) (o := .cells #[.slice Ao76 t437.length co76, .slice Ao78 t440.length co78, .slice Ao79 t443.length co79] 26 (0, 0)) (by (with_reducible repeat (first | refine blk_drewN ?_ _ | refine blk_drew ?_ | refine blk_alloc ?_ _)); exact BK447.out) hb); have n6_ := Aside0.mk (below_step (by repeat (first | (with_reducible first | exact HB.out | apply below_alloc | apply pw_below_drewN | apply below_drew1 | refine below_set ?_ GE447.out) | exact HB.out)) hb); clear HO_4; clear HO439; clear HO442; clear HO445; clear HO451; clear BK447; clear HB; have HO_4 := n0_; have HO439 := n1_; have HO442 := n2_; have HO445 := n3_; have HO451 := n4_; have BK447 := n5_; have HB := n6_; clear n0_ n1_ n2_ n3_ n4_ n5_ n6_; (try clear hb); (try clear hb2); (try clear hk); (try clear hi)))
            go_ret
            exact ⟨by first | rfl | (simp [errW_none, errW_some] <;> rfl) | (simp only [← hji4]; first | rfl | (simp [errW_none, errW_some] <;> rfl)) | (simp [*, errW_none, errW_some] <;> rfl), by repeat (first | (with_reducible first | exact HB.out | apply below_alloc | apply pw_below_drewN | apply below_drew1 | refine below_set ?_ GE447.out) | exact HB.out)⟩
          · rw [if_neg c72] at H
            have c72b0 : (t448 == 0) = false := beq_eq_false_iff_ne.mpr c72
            have c72b1 : (t448 != 0) = true := bne_iff_ne.mpr c72
            obtain rfl := Option.some.inj H
            replace HO_4 := Aside0.mk (Kd.S_R HO_4.out)
            go_wp2_with (first | ((with_reducible refine gate_callee (f := 10) rfl ?_); refine goesL_ (some 75) rfl rfl Tryz.func10 (by kernel_rfl) rfl #[.string x3_1] rfl (by (try simp only [List.map_toArray, List.map_cons, List.map_nil]); first | done | rfl | (simp only [List.length_drop, List.length_take]; rfl)) ?_; (with_reducible refine (manifest_Parse.calls x3_1 t437 t440 t443 t446 _ A70.out).mono ?_); rintro e w85 ⟨v438, v441, v444, rfl, ho0, ho1, ho2, hb⟩; refine ⟨_, rfl, ?_⟩; have n0_ := Aside0.mk (Kd.R_mono (Kd.R_told (Kd.R_told (Kd.R_old (by (with_reducible repeat (first | apply Kd.R_alloc | apply Kd.R_drewN | apply Kd.R_drew)); exact HO_4.out) hb) (Kd.R_base ho0)) (Kd.R_base ho2)) (fun _ h_ => h_.1)); have n1_ := Aside0.mk (Kd.R_lower (Kd.R_new' ho0 (Kd.R_lt (by (with_reducible repeat (first | apply Kd.R_alloc | apply Kd.R_drewN | apply Kd.R_drew)); exact HO_4.out))) (below_size (by repeat (first | (with_reducible first | exact HB.out | apply below_alloc | apply pw_below_drewN | apply below_drew1) | exact HB.out)))); have n2_ := Aside0.mk (Kd.R_lower ho1 (below_size (by repeat (first | (with_reducible first | exact HB.out | apply below_alloc | apply pw_below_drewN | apply below_drew1) | exact HB.out)))); have n3_ := Aside0.mk (Kd.R_lower ho2 (below_size (by repeat (first | (with_reducible first | exact HB.out | apply below_alloc | apply pw_below_drewN | apply below_drew1) | exact HB.out)))); have n4_ := Aside0.mk (below_step (by repeat (first | (with_reducible first | exact HB.out | apply below_alloc | apply pw_below_drewN | apply below_drew1) | exact HB.out)) hb); clear HO_4; clear HB; have HO_4 := n0_; have HO439 := n1_; have HO442 := n2_; have HO445 := n3_; have HB := n4_; clear n0_ n1_ n2_ n3_ n4_; (try clear hb); (try clear hb2); (try clear hk); (try clear hi); (try clear ho0); (try clear ho1); (try clear ho2)) | ((with_reducible refine gate_dst (N := 9) rfl ?_); (try (refine gate_guard (by rfl) ?_; dsimp only)); refine box_event ?hg (N := 9) ?hd (cs := #[.slice none 0 0, .slice none 0 0, .slice none 0 0]) (t := 26) ?hr ?_; (case hd => rfl); (case hg => rfl); (case hr => first | (go_simp; done) | (go_simp; rfl)); intro gb447 hg w86 hbox hb; have n0_ := Aside0.mk (Kd.R_below (by (with_reducible repeat (first | apply Kd.R_alloc | apply Kd.R_drewN | apply Kd.R_drew)); exact HO_4.out) hb); have n1_ := Aside0.mk (Kd.R_below (by (with_reducible repeat (first | apply Kd.R_alloc | apply Kd.R_drewN | apply Kd.R_drew)); exact HO439.out) hb); have n2_ := Aside0.mk (Kd.R_below (by (with_reducible repeat (first | apply Kd.R_alloc | apply Kd.R_drewN | apply Kd.R_drew)); exact HO442.out) hb); have n3_ := Aside0.mk (Kd.R_below (by (with_reducible repeat (first | apply Kd.R_alloc | apply Kd.R_drewN | apply Kd.R_drew)); exact HO445.out) hb); have n4_ := Aside0.mk (below_step (by repeat (first | (with_reducible first | exact HB.out | apply below_alloc | apply pw_below_drewN | apply below_drew1) | exact HB.out)) hb); have n5_ := Aside0.mk (hbox); have n6_ := Aside0.mk ((by rw [hg]; exact (below_size (by repeat (first | (with_reducible first | exact HB.out | apply below_alloc | apply pw_below_drewN | apply below_drew1) | exact HB.out))) : w.heap.size ≤ gb447)); have n7_ := Aside0.mk ((by rw [hg]; exact (below_size (by repeat (first | (with_reducible first | exact HB.out | apply below_alloc | apply pw_below_drewN | apply below_drew1) | exact HB.out))) : w.heap.size ≤ gb447)); clear HO_4; clear HO439; clear HO442; clear HO445; clear HB; have HO_4 := n0_; have HO439 := n1_; have HO442 := n2_; have HO445 := n3_; have HB := n4_; have BK447 := n5_; have GW447 := n6_; have GE447 := n7_; clear n0_ n1_ n2_ n3_ n4_ n5_ n6_ n7_; clear hb hbox hg; obtain ⟨Ao87, co87, eo87⟩ := Kd.R_slice HO439.out; subst eo87; have hcz88_0 : w86.cell? ⟨gb447, 0, none⟩ = some (.slice none 0 0) := (blk_cell BK447.out 0).trans rfl; have hcz88_1 : w86.cell? ⟨gb447, 1, none⟩ = some (.slice none 0 0) := (blk_cell BK447.out 1).trans rfl; have hcz88_2 : w86.cell? ⟨gb447, 2, none⟩ = some (.slice none 0 0) := (blk_cell BK447.out 2).trans rfl; have hfz88_0 := blk_frozen BK447.out 0; have hfz88_1 := blk_frozen BK447.out 1; have hfz88_2 := blk_frozen BK447.out 2; obtain ⟨Ao89, co89, eo89⟩ := Kd.R_slice HO442.out; subst eo89; obtain ⟨Ao90, co90, eo90⟩ := Kd.R_slice HO445.out; subst eo90) | ((with_reducible refine gate_callee (f := 13) rfl ?_); refine goesL_ (some 79) rfl rfl Tryz.func13 (by kernel_rfl) rfl #[.int .i64 t446] rfl (by (try simp only [List.map_toArray, List.map_cons, List.map_nil]); first | done | rfl | (simp only [List.length_drop, List.length_take]; rfl)) ?_; (with_reducible refine (cruciblelaw0_Num.calls t446 t448 _ A71.out).mono ?_); rintro e w' ⟨rfl, ⟨nd, rfl⟩⟩; refine ⟨_, rfl, ?_⟩))
            go_ret
            exact ⟨by first | rfl | (simp [errW_none, errW_some] <;> rfl) | (simp only [← hji4]; first | rfl | (simp [errW_none, errW_some] <;> rfl)) | (simp [*, errW_none, errW_some] <;> rfl), by repeat (first | (with_reducible first | exact HB.out | apply below_alloc | apply pw_below_drewN | apply below_drew1 | refine below_set ?_ GE447.out) | exact HB.out)⟩
  · replace c3 := Bool.eq_false_iff.mpr c3
    subst c3
    have H1 : (some false) = some r := by rw [if_neg (show ¬ (false = true) by decide)] at H; exact H
    clear H
    have H := H1
    clear H1
    obtain rfl := Option.some.inj H
    go_enter Tryz.func6, Tryz.ntmps6
    go_wp2_with (first | ((with_reducible refine gate_callee (f := 15) rfl ?_); refine goesL_ (some 11) rfl rfl Tryz.func15 (by kernel_rfl) rfl #[] rfl (by (try simp only [List.map_toArray, List.map_cons, List.map_nil]); first | done | rfl | (simp only [List.length_drop, List.length_take]; rfl)) ?_; (with_reducible refine (cruciblelaw8_awake.calls  false _ A2.out).mono ?_); rintro e w91 ⟨rfl, hb⟩; refine ⟨_, rfl, ?_⟩; have n0_ := Aside0.mk (below_step (by repeat (first | (with_reducible first | exact HB.out | apply below_alloc | apply pw_below_drewN | apply below_drew1) | exact HB.out)) hb); clear HB; have HB := n0_; clear n0_; (try clear hb); (try clear hb2); (try clear hk); (try clear hi)))
    go_ret
    exact ⟨by first | rfl | (simp [errW_none, errW_some] <;> rfl) | (simp [*, errW_none, errW_some] <;> rfl), by repeat (first | (with_reducible first | exact HB.out | apply below_alloc | apply pw_below_drewN | apply below_drew1) | exact HB.out)⟩

/-- THE ONE PURE STATEMENT of cruciblelaw8_ManifestEdges: yours. -/
def cruciblelaw8_ManifestEdges.Pure : Prop := ∀ (l0 : List Int), l0.length ≤ maxLen → l0.length * 8 ≤ 140737488351232 → (∀ x ∈ l0, (Lit.int .i64 x).wf = true) → ∃ k, cruciblelaw8_ManifestEdges.f k l0 = some true
end Go.Proofs.YtefheailchihaaaGreatDoor.Print

end
section
namespace Go.Proofs.YtefheailchihaaaGreatDoor.Print
open Go.RowKit Go.Lib Go.Shelf Go.Proofs.YtefheailchihaaaGreatDoorW.PrintWords Go.Proofs.YtefheailchihaaaGreatDoorW.PrintLast Go.Proofs.YtefheailchihaaaGreatDoorW.PrintMore
set_option linter.unusedVariables false
set_option linter.unusedSimpArgs false

theorem parseGo_app : ∀ (l m : List S59) (p : Pst) (o : Opn), (parseGo l p o).2.2 = 0 → parseGo (l ++ m) p o = parseGo m (parseGo l p o).1 (parseGo l p o).2.1
  | [], m, p, o, _ => rfl
  | x :: l, m, p, o, h => by
    have e1 : parseGo (x :: l) p o = if (lineR p o x.f0 x.f1).2.2 = 0 then parseGo l (lineR p o x.f0 x.f1).1 (lineR p o x.f0 x.f1).2.1 else lineR p o x.f0 x.f1 := rfl
    have e2 : parseGo ((x :: l) ++ m) p o = if (lineR p o x.f0 x.f1).2.2 = 0 then parseGo (l ++ m) (lineR p o x.f0 x.f1).1 (lineR p o x.f0 x.f1).2.1 else lineR p o x.f0 x.f1 := rfl
    rw [e1] at h ⊢
    rw [e2]
    by_cases h0 : (lineR p o x.f0 x.f1).2.2 = 0
    · rw [if_pos h0] at h ⊢
      rw [if_pos h0]
      exact parseGo_app l m _ _ h
    · rw [if_neg h0] at h
      exact absurd h h0
/-- The same parser with more edges ahead. -/
def ahead (E : List S42) (p : Pst) : Pst := { p with edges := E ++ p.edges }
theorem ahead_over (E : List S42) (p : Pst) (o : Opn) : overP (ahead E p) o = ahead E (overP p o) ∧ ∀ e, overE (ahead E p) o e = overE p o e := by
  cases o with
  | build outs ins imp ord r own => exact ⟨by show finP (ahead E p) outs ins imp ord r own = ahead E (finP p outs ins imp ord r own); unfold finP ahead; simp only [List.append_assoc], fun e => rfl⟩
  | none => exact ⟨rfl, fun e => rfl⟩
  | rule => exact ⟨rfl, fun e => rfl⟩
  | pool => exact ⟨rfl, fun e => rfl⟩
theorem ahead_deep (E : List S42) (p : Pst) (o : Opn) (k v : ByteArray) : deepR (ahead E p) o k v = (ahead E (deepR p o k v).1, (deepR p o k v).2.1, (deepR p o k v).2.2) := by
  cases o with
  | none => rfl
  | rule => rfl
  | pool =>
    show (poolD (ahead E p) 0 k v, _, _) = (ahead E (poolD p 0 k v), _, _)
    have h1 : poolDE (ahead E p) 0 k v = poolDE p 0 k v := rfl
    unfold poolD
    rw [h1]
    split <;> rfl
  | build outs ins imp ord r own => rfl
theorem ahead_flat (E : List S42) (p : Pst) (t : ByteArray) (h : (E ++ p.edges).length < 16) : flatR (ahead E p) t = (ahead E (flatR p t).1, (flatR p t).2.1, (flatR p t).2.2) := by
  have hb : buildE (ahead E p) 0 (cutC 32 t).2.1 = buildE p 0 (cutC 32 t).2.1 := by
    have h1 : decide ((((E ++ p.edges).length : Nat) : Int) < 16) = true := decide_eq_true (by omega)
    have h2 : decide (((p.edges.length : Nat) : Int) < 16) = true := decide_eq_true (by rw [List.length_append] at h; omega)
    have e1 : buildE1 (ahead E p) 0 (buildR (cutC 32 t).2.1) = buildE1 p 0 (buildR (cutC 32 t).2.1) := rfl
    unfold buildE buildE2
    rw [e1]
    show (if _ then roomE _ (decide ((((E ++ p.edges).length : Nat) : Int) < 16)) else _) = _
    rw [h1, h2]
  unfold flatR
  simp only
  split
  · rfl
  split
  · rfl
  split
  · rw [hb]; rfl
  split
  · rfl
  · unfold bindFlat
    split <;> rfl
/-- A line, behind more edges. -/
theorem ahead_line (E : List S42) (p : Pst) (o : Opn) (d : Bool) (t : ByteArray) (h : (E ++ (overP p o).edges).length < 16) : lineR (ahead E p) o d t = (ahead E (lineR p o d t).1, (lineR p o d t).2.1, (lineR p o d t).2.2) := by
  obtain ⟨h1, h2⟩ := ahead_over E p o
  unfold lineR
  rw [h1, h2]
  split
  · unfold lineDeep
    split
    · rw [ahead_deep]
    · rfl
  · split
    · rw [ahead_flat E _ t h]
    · rfl
/-- Two texts of whole rows behind one another. -/
theorem lines_app (a b : List ByteArray) (ha : NoNl a) (hb : NoNl b) (hsz : (U (a ++ b)).size ≤ 2048) (h1 : (linesCut (U a)).2 = 0) (h2 : (linesCut (U b)).2 = 0) : linesCut (U (a ++ b)) = ((linesCut (U a)).1 ++ (linesCut (U b)).1, 0) := by
  have hab : NoNl (a ++ b) := fun r hr => (List.mem_append.1 hr).elim (ha r) (hb r)
  have ca := cut_rows a ha
  have cb := cut_rows b hb
  by_cases pa : (U a).size ≤ 2048 ∧ plainRows a = true
  · by_cases pb : (U b).size ≤ 2048 ∧ plainRows b = true
    · rw [if_pos pa] at ca
      rw [if_pos pb] at cb
      rw [ca] at h1 ⊢
      rw [cb] at h2 ⊢
      have pab : plainRows (a ++ b) = true := by
        unfold plainRows
        rw [List.all_append]
        rw [show (a.all fun r => plainL r.data.toList) = true from pa.2, show (b.all fun r => plainL r.data.toList) = true from pb.2]
        rfl
      rw [cut_rows (a ++ b) hab, if_pos ⟨hsz, pab⟩, List.length_append, go_app b b.length (Nat.le_refl _) a.length a [] (Nat.le_refl _) h1, go_out b.length b, if_pos h2]
    · rw [cb, if_neg pb] at h2
      exact absurd h2 (by decide)
  · rw [ca, if_neg pa] at h1
    exact absurd h1 (by decide)
end Go.Proofs.YtefheailchihaaaGreatDoor.Print

end
section
namespace Go.Proofs.YtefheailchihaaaGreatDoor.Print
open Go.RowKit Go.Lib Go.Shelf Go.Proofs.YtefheailchihaaaGreatDoorW.PrintWords Go.Proofs.YtefheailchihaaaGreatDoorW.PrintLast Go.Proofs.YtefheailchihaaaGreatDoorW.PrintMore
set_option linter.unusedVariables false

/-- Two texts that are cut, behind one another. -/
theorem lines_app2 {a b : ByteArray} (h1 : (linesCut a).2 = 0) (h2 : (linesCut b).2 = 0) (hsz : (a ++ b).size ≤ 2048) : linesCut (a ++ b) = ((linesCut a).1 ++ (linesCut b).1, 0) := by
  obtain ⟨ra, rfl, ha, _⟩ := cut_ok h1
  obtain ⟨rb, rfl, hb, _⟩ := cut_ok h2
  rw [U_app] at hsz ⊢
  exact lines_app ra rb ha hb hsz h1 h2
theorem over_len (p : Pst) (o : Opn) : (overP p o).edges.length ≤ p.edges.length + 1 := by
  cases o with
  | build outs ins imp ord r own => show (p.edges ++ [_]).length ≤ _; rw [List.length_append, List.length_singleton]; exact Nat.le_refl _
  | none => exact Nat.le_succ _
  | rule => exact Nat.le_succ _
  | pool => exact Nat.le_succ _
theorem deep_len (p : Pst) (o : Opn) (k v : ByteArray) : (deepR p o k v).1.edges.length ≤ p.edges.length + 1 := by
  cases o with
  | build outs ins imp ord r own => exact Nat.le_succ _
  | none => exact Nat.le_succ _
  | rule => exact Nat.le_succ _
  | pool =>
    show (poolD p 0 k v).edges.length ≤ _
    unfold poolD
    split <;> exact Nat.le_succ _
theorem flat_len (p : Pst) (t : ByteArray) : (flatR p t).1.edges = p.edges := by
  unfold flatR
  simp only
  split
  · rfl
  split
  · rfl
  split
  · rfl
  split
  · rfl
  · unfold bindFlat
    split <;> rfl
theorem line_len (p : Pst) (o : Opn) (d : Bool) (t : ByteArray) : (lineR p o d t).1.edges.length ≤ p.edges.length + 1 := by
  unfold lineR
  split
  · unfold lineDeep
    split
    · exact deep_len _ _ _ _
    · exact Nat.le_succ _
  · split
    · rw [flat_len]; exact over_len p o
    · exact over_len p o
/-- Lines, behind more edges. -/
theorem ahead_go (E : List S42) : ∀ (l : List S59) (p : Pst) (o : Opn), E.length + p.edges.length + l.length < 16 → parseGo l (ahead E p) o = (ahead E (parseGo l p o).1, (parseGo l p o).2.1, (parseGo l p o).2.2)
  | [], p, o, _ => rfl
  | x :: l, p, o, h => by
    rw [List.length_cons] at h
    have e1 : ∀ q, parseGo (x :: l) q o = if (lineR q o x.f0 x.f1).2.2 = 0 then parseGo l (lineR q o x.f0 x.f1).1 (lineR q o x.f0 x.f1).2.1 else lineR q o x.f0 x.f1 := fun _ => rfl
    have hl := ahead_line E p o x.f0 x.f1 (by rw [List.length_append]; have := over_len p o; omega)
    rw [e1, e1, hl]
    by_cases h0 : (lineR p o x.f0 x.f1).2.2 = 0
    · rw [if_pos h0, if_pos h0]
      exact ahead_go E l _ _ (by have := line_len p o x.f0 x.f1; omega)
    · rw [if_neg h0, if_neg h0]
/-- A flat line first: what was open is ended. -/
theorem go_flat (p q : Pst) (o : Opn) (x : S59) (l : List S59) (hx : x.f0 = false) (h0 : overE p o 0 = 0) (h1 : overP p o = q) : parseGo (x :: l) p o = parseGo (x :: l) q .none := by
  have e1 : ∀ q o, parseGo (x :: l) q o = if (lineR q o x.f0 x.f1).2.2 = 0 then parseGo l (lineR q o x.f0 x.f1).1 (lineR q o x.f0 x.f1).2.1 else lineR q o x.f0 x.f1 := fun _ _ => rfl
  have e2 : lineR p o x.f0 x.f1 = lineR q .none x.f0 x.f1 := by
    have a1 : lineR p o false x.f1 = flatR q x.f1 := by
      show (if false = true then lineDeep p o x.f1 else if overE p o 0 = 0 then flatR (overP p o) x.f1 else (overP p o, Opn.none, overE p o 0)) = _
      rw [if_neg (show ¬ (false = true) by decide), if_pos h0, h1]
    have a2 : lineR q .none false x.f1 = flatR q x.f1 := rfl
    rw [hx, a1, a2]
  rw [e1, e1, e2]
theorem pf_of {s : ByteArray} {r : List S42 × List S44 × List ByteArray × Int} (hs : s.size ≤ 9223372036854775807) (h : parseB s = r) : manifest_Parse.f s = some r := by unfold manifest_Parse.f; rw [if_pos hs, h]

def edH : ByteArray := (⟨#[119, 32, 61, 32, 45, 119, 10, 112, 111, 111, 108, 32, 112, 10, 32, 32, 100, 101, 112, 116, 104, 32, 61, 32, 51, 10, 114, 117, 108, 101, 32, 97, 10, 32, 32, 99, 111, 109, 109, 97, 110, 100, 32, 61, 32, 97, 32, 36, 119, 32, 36, 105, 110, 32, 62, 32, 36, 111, 117, 116, 36, 120, 10, 114, 117, 108, 101, 32, 98, 10, 32, 32, 112, 111, 111, 108, 32, 61, 32, 112, 10, 32, 32, 99, 111, 109, 109, 97, 110, 100, 32, 61, 32, 98, 32, 36, 123, 105, 110, 125, 10, 32, 32, 100, 101, 112, 115, 32, 61, 32, 49, 10]⟩ : ByteArray)
def edP : Pst := ⟨[], [⟨(⟨#[112]⟩ : ByteArray), 3⟩], [], [⟨(⟨#[119]⟩ : ByteArray), (⟨#[45, 119]⟩ : ByteArray)⟩], [⟨(⟨#[97]⟩ : ByteArray), (⟨#[97, 32, 36, 119, 32, 36, 105, 110, 32, 62, 32, 36, 111, 117, 116, 36, 120]⟩ : ByteArray), (⟨#[]⟩ : ByteArray), false, false⟩, ⟨(⟨#[98]⟩ : ByteArray), (⟨#[98, 32, 36, 123, 105, 110, 125]⟩ : ByteArray), (⟨#[112]⟩ : ByteArray), true, true⟩]⟩
theorem edH_lines : (linesCut edH).2 = 0 := by kernel_rfl
theorem edH_go : parseGo (linesCut edH).1 pst0 .none = (edP, .rule, 0) := by kernel_rfl
theorem edH_size : edH.size = 112 := by kernel_rfl
theorem edP_over : overE edP .rule 0 = 0 := by kernel_rfl
abbrev strO (i : Int) : ByteArray := (⟨#[111]⟩ : ByteArray) ++ (strOfNums ([(wrap64 (97 + i)) % 256] : List Int))
abbrev edB : ByteArray := (⟨#[98, 117, 105, 108, 100, 32]⟩ : ByteArray)
abbrev edT0 : ByteArray := (⟨#[32, 58, 32, 97, 32, 105, 49, 32, 46, 47, 105, 50, 32, 124, 32, 104, 10]⟩ : ByteArray)
abbrev edT1 : ByteArray := (⟨#[32, 58, 32, 98, 32, 124, 124, 32, 122, 47, 46, 46, 47, 122, 10]⟩ : ByteArray)
abbrev edT2 : ByteArray := (⟨#[32, 32, 120, 32, 61, 32, 36, 119, 33, 10, 32, 32, 119, 32, 61, 32, 45, 113, 10]⟩ : ByteArray)
/-- A block's text behind a text, in the law's form; its edge. -/
def edT (s : ByteArray) (i : Int) : Nat → ByteArray
  | 0 => ((s ++ edB) ++ strO i) ++ edT0
  | 1 => ((s ++ edB) ++ strO i) ++ edT1
  | _ => (((s ++ edB) ++ strO i) ++ edT0) ++ edT2
def edK (i : Int) : Nat → ByteArray
  | 0 => edB ++ (strO i ++ edT0)
  | 1 => edB ++ (strO i ++ edT1)
  | _ => edB ++ (strO i ++ (edT0 ++ edT2))
theorem edT_eq (s : ByteArray) (i : Int) (c : Nat) : edT s i c = s ++ edK i c := by
  unfold edT edK
  split <;> simp only [ByteArray.append_assoc]
def edE (i : Int) : Nat → S42
  | 0 => ⟨[strO i], [(⟨#[105, 49]⟩ : ByteArray), (⟨#[105, 50]⟩ : ByteArray)], [(⟨#[104]⟩ : ByteArray)], [], (⟨#[97, 32, 45, 119, 32, 105, 49, 32, 105, 50, 32, 62, 32]⟩ : ByteArray) ++ strO i, false, ⟨#[]⟩⟩
  | 1 => ⟨[strO i], [], [], [(⟨#[122]⟩ : ByteArray)], (⟨#[98, 32]⟩ : ByteArray), true, (⟨#[112]⟩ : ByteArray)⟩
  | _ => ⟨[strO i], [(⟨#[105, 49]⟩ : ByteArray), (⟨#[105, 50]⟩ : ByteArray)], [(⟨#[104]⟩ : ByteArray)], [], ((⟨#[97, 32, 45, 113, 32, 105, 49, 32, 105, 50, 32, 62, 32]⟩ : ByteArray) ++ strO i) ++ (⟨#[45, 119, 33]⟩ : ByteArray), false, ⟨#[]⟩⟩
/-- A block of its own: it is cut, its first line is flat, it leaves itself open, and then its edge. -/
structure Blk (i : Int) (c : Nat) : Prop where
  cut : (linesCut (edK i c)).2 = 0
  len : (linesCut (edK i c)).1.length ≤ 3
  flat : ∃ x l, (linesCut (edK i c)).1 = x :: l ∧ x.f0 = false
  state : (parseGo (linesCut (edK i c)).1 edP .none).1 = edP
  fine : (parseGo (linesCut (edK i c)).1 edP .none).2.2 = 0
  ends : overE edP (parseGo (linesCut (edK i c)).1 edP .none).2.1 0 = 0
  edge : overP edP (parseGo (linesCut (edK i c)).1 edP .none).2.1 = ahead [edE i c] edP
theorem blk_l0_0 : linesCut (edK 0 0) = ([⟨false, (⟨#[98, 117, 105, 108, 100, 32, 111, 97, 32, 58, 32, 97, 32, 105, 49, 32, 46, 47, 105, 50, 32, 124, 32, 104]⟩ : ByteArray)⟩], 0) := (congrArg linesCut (show edK 0 0 = (⟨#[98, 117, 105, 108, 100, 32, 111, 97, 32, 58, 32, 97, 32, 105, 49, 32, 46, 47, 105, 50, 32, 124, 32, 104, 10]⟩ : ByteArray) by kernel_rfl)).trans (by kernel_rfl)
theorem blk_0_0 : Blk 0 0 := ⟨by rw [blk_l0_0], by rw [blk_l0_0]; decide, ⟨_, _, by rw [blk_l0_0], rfl⟩, by rw [blk_l0_0]; kernel_rfl, by rw [blk_l0_0]; kernel_rfl, by rw [blk_l0_0]; kernel_rfl, by rw [blk_l0_0]; kernel_rfl⟩
theorem blk_l0_1 : linesCut (edK 0 1) = ([⟨false, (⟨#[98, 117, 105, 108, 100, 32, 111, 97, 32, 58, 32, 98, 32, 124, 124, 32, 122, 47, 46, 46, 47, 122]⟩ : ByteArray)⟩], 0) := (congrArg linesCut (show edK 0 1 = (⟨#[98, 117, 105, 108, 100, 32, 111, 97, 32, 58, 32, 98, 32, 124, 124, 32, 122, 47, 46, 46, 47, 122, 10]⟩ : ByteArray) by kernel_rfl)).trans (by kernel_rfl)
theorem blk_0_1 : Blk 0 1 := ⟨by rw [blk_l0_1], by rw [blk_l0_1]; decide, ⟨_, _, by rw [blk_l0_1], rfl⟩, by rw [blk_l0_1]; kernel_rfl, by rw [blk_l0_1]; kernel_rfl, by rw [blk_l0_1]; kernel_rfl, by rw [blk_l0_1]; kernel_rfl⟩
theorem blk_l0_2 : linesCut (edK 0 2) = ([⟨false, (⟨#[98, 117, 105, 108, 100, 32, 111, 97, 32, 58, 32, 97, 32, 105, 49, 32, 46, 47, 105, 50, 32, 124, 32, 104]⟩ : ByteArray)⟩, ⟨true, (⟨#[120, 32, 61, 32, 36, 119, 33]⟩ : ByteArray)⟩, ⟨true, (⟨#[119, 32, 61, 32, 45, 113]⟩ : ByteArray)⟩], 0) := (congrArg linesCut (show edK 0 2 = (⟨#[98, 117, 105, 108, 100, 32, 111, 97, 32, 58, 32, 97, 32, 105, 49, 32, 46, 47, 105, 50, 32, 124, 32, 104, 10, 32, 32, 120, 32, 61, 32, 36, 119, 33, 10, 32, 32, 119, 32, 61, 32, 45, 113, 10]⟩ : ByteArray) by kernel_rfl)).trans (by kernel_rfl)
theorem blk_0_2 : Blk 0 2 := ⟨by rw [blk_l0_2], by rw [blk_l0_2]; decide, ⟨_, _, by rw [blk_l0_2], rfl⟩, by rw [blk_l0_2]; kernel_rfl, by rw [blk_l0_2]; kernel_rfl, by rw [blk_l0_2]; kernel_rfl, by rw [blk_l0_2]; kernel_rfl⟩
theorem blk_l1_0 : linesCut (edK 1 0) = ([⟨false, (⟨#[98, 117, 105, 108, 100, 32, 111, 98, 32, 58, 32, 97, 32, 105, 49, 32, 46, 47, 105, 50, 32, 124, 32, 104]⟩ : ByteArray)⟩], 0) := (congrArg linesCut (show edK 1 0 = (⟨#[98, 117, 105, 108, 100, 32, 111, 98, 32, 58, 32, 97, 32, 105, 49, 32, 46, 47, 105, 50, 32, 124, 32, 104, 10]⟩ : ByteArray) by kernel_rfl)).trans (by kernel_rfl)
theorem blk_1_0 : Blk 1 0 := ⟨by rw [blk_l1_0], by rw [blk_l1_0]; decide, ⟨_, _, by rw [blk_l1_0], rfl⟩, by rw [blk_l1_0]; kernel_rfl, by rw [blk_l1_0]; kernel_rfl, by rw [blk_l1_0]; kernel_rfl, by rw [blk_l1_0]; kernel_rfl⟩
theorem blk_l1_1 : linesCut (edK 1 1) = ([⟨false, (⟨#[98, 117, 105, 108, 100, 32, 111, 98, 32, 58, 32, 98, 32, 124, 124, 32, 122, 47, 46, 46, 47, 122]⟩ : ByteArray)⟩], 0) := (congrArg linesCut (show edK 1 1 = (⟨#[98, 117, 105, 108, 100, 32, 111, 98, 32, 58, 32, 98, 32, 124, 124, 32, 122, 47, 46, 46, 47, 122, 10]⟩ : ByteArray) by kernel_rfl)).trans (by kernel_rfl)
theorem blk_1_1 : Blk 1 1 := ⟨by rw [blk_l1_1], by rw [blk_l1_1]; decide, ⟨_, _, by rw [blk_l1_1], rfl⟩, by rw [blk_l1_1]; kernel_rfl, by rw [blk_l1_1]; kernel_rfl, by rw [blk_l1_1]; kernel_rfl, by rw [blk_l1_1]; kernel_rfl⟩
theorem blk_l1_2 : linesCut (edK 1 2) = ([⟨false, (⟨#[98, 117, 105, 108, 100, 32, 111, 98, 32, 58, 32, 97, 32, 105, 49, 32, 46, 47, 105, 50, 32, 124, 32, 104]⟩ : ByteArray)⟩, ⟨true, (⟨#[120, 32, 61, 32, 36, 119, 33]⟩ : ByteArray)⟩, ⟨true, (⟨#[119, 32, 61, 32, 45, 113]⟩ : ByteArray)⟩], 0) := (congrArg linesCut (show edK 1 2 = (⟨#[98, 117, 105, 108, 100, 32, 111, 98, 32, 58, 32, 97, 32, 105, 49, 32, 46, 47, 105, 50, 32, 124, 32, 104, 10, 32, 32, 120, 32, 61, 32, 36, 119, 33, 10, 32, 32, 119, 32, 61, 32, 45, 113, 10]⟩ : ByteArray) by kernel_rfl)).trans (by kernel_rfl)
theorem blk_1_2 : Blk 1 2 := ⟨by rw [blk_l1_2], by rw [blk_l1_2]; decide, ⟨_, _, by rw [blk_l1_2], rfl⟩, by rw [blk_l1_2]; kernel_rfl, by rw [blk_l1_2]; kernel_rfl, by rw [blk_l1_2]; kernel_rfl, by rw [blk_l1_2]; kernel_rfl⟩
theorem blk_l2_0 : linesCut (edK 2 0) = ([⟨false, (⟨#[98, 117, 105, 108, 100, 32, 111, 99, 32, 58, 32, 97, 32, 105, 49, 32, 46, 47, 105, 50, 32, 124, 32, 104]⟩ : ByteArray)⟩], 0) := (congrArg linesCut (show edK 2 0 = (⟨#[98, 117, 105, 108, 100, 32, 111, 99, 32, 58, 32, 97, 32, 105, 49, 32, 46, 47, 105, 50, 32, 124, 32, 104, 10]⟩ : ByteArray) by kernel_rfl)).trans (by kernel_rfl)
theorem blk_2_0 : Blk 2 0 := ⟨by rw [blk_l2_0], by rw [blk_l2_0]; decide, ⟨_, _, by rw [blk_l2_0], rfl⟩, by rw [blk_l2_0]; kernel_rfl, by rw [blk_l2_0]; kernel_rfl, by rw [blk_l2_0]; kernel_rfl, by rw [blk_l2_0]; kernel_rfl⟩
theorem blk_l2_1 : linesCut (edK 2 1) = ([⟨false, (⟨#[98, 117, 105, 108, 100, 32, 111, 99, 32, 58, 32, 98, 32, 124, 124, 32, 122, 47, 46, 46, 47, 122]⟩ : ByteArray)⟩], 0) := (congrArg linesCut (show edK 2 1 = (⟨#[98, 117, 105, 108, 100, 32, 111, 99, 32, 58, 32, 98, 32, 124, 124, 32, 122, 47, 46, 46, 47, 122, 10]⟩ : ByteArray) by kernel_rfl)).trans (by kernel_rfl)
theorem blk_2_1 : Blk 2 1 := ⟨by rw [blk_l2_1], by rw [blk_l2_1]; decide, ⟨_, _, by rw [blk_l2_1], rfl⟩, by rw [blk_l2_1]; kernel_rfl, by rw [blk_l2_1]; kernel_rfl, by rw [blk_l2_1]; kernel_rfl, by rw [blk_l2_1]; kernel_rfl⟩
theorem blk_l2_2 : linesCut (edK 2 2) = ([⟨false, (⟨#[98, 117, 105, 108, 100, 32, 111, 99, 32, 58, 32, 97, 32, 105, 49, 32, 46, 47, 105, 50, 32, 124, 32, 104]⟩ : ByteArray)⟩, ⟨true, (⟨#[120, 32, 61, 32, 36, 119, 33]⟩ : ByteArray)⟩, ⟨true, (⟨#[119, 32, 61, 32, 45, 113]⟩ : ByteArray)⟩], 0) := (congrArg linesCut (show edK 2 2 = (⟨#[98, 117, 105, 108, 100, 32, 111, 99, 32, 58, 32, 97, 32, 105, 49, 32, 46, 47, 105, 50, 32, 124, 32, 104, 10, 32, 32, 120, 32, 61, 32, 36, 119, 33, 10, 32, 32, 119, 32, 61, 32, 45, 113, 10]⟩ : ByteArray) by kernel_rfl)).trans (by kernel_rfl)
theorem blk_2_2 : Blk 2 2 := ⟨by rw [blk_l2_2], by rw [blk_l2_2]; decide, ⟨_, _, by rw [blk_l2_2], rfl⟩, by rw [blk_l2_2]; kernel_rfl, by rw [blk_l2_2]; kernel_rfl, by rw [blk_l2_2]; kernel_rfl, by rw [blk_l2_2]; kernel_rfl⟩
theorem blk_l3_0 : linesCut (edK 3 0) = ([⟨false, (⟨#[98, 117, 105, 108, 100, 32, 111, 100, 32, 58, 32, 97, 32, 105, 49, 32, 46, 47, 105, 50, 32, 124, 32, 104]⟩ : ByteArray)⟩], 0) := (congrArg linesCut (show edK 3 0 = (⟨#[98, 117, 105, 108, 100, 32, 111, 100, 32, 58, 32, 97, 32, 105, 49, 32, 46, 47, 105, 50, 32, 124, 32, 104, 10]⟩ : ByteArray) by kernel_rfl)).trans (by kernel_rfl)
theorem blk_3_0 : Blk 3 0 := ⟨by rw [blk_l3_0], by rw [blk_l3_0]; decide, ⟨_, _, by rw [blk_l3_0], rfl⟩, by rw [blk_l3_0]; kernel_rfl, by rw [blk_l3_0]; kernel_rfl, by rw [blk_l3_0]; kernel_rfl, by rw [blk_l3_0]; kernel_rfl⟩
theorem blk_l3_1 : linesCut (edK 3 1) = ([⟨false, (⟨#[98, 117, 105, 108, 100, 32, 111, 100, 32, 58, 32, 98, 32, 124, 124, 32, 122, 47, 46, 46, 47, 122]⟩ : ByteArray)⟩], 0) := (congrArg linesCut (show edK 3 1 = (⟨#[98, 117, 105, 108, 100, 32, 111, 100, 32, 58, 32, 98, 32, 124, 124, 32, 122, 47, 46, 46, 47, 122, 10]⟩ : ByteArray) by kernel_rfl)).trans (by kernel_rfl)
theorem blk_3_1 : Blk 3 1 := ⟨by rw [blk_l3_1], by rw [blk_l3_1]; decide, ⟨_, _, by rw [blk_l3_1], rfl⟩, by rw [blk_l3_1]; kernel_rfl, by rw [blk_l3_1]; kernel_rfl, by rw [blk_l3_1]; kernel_rfl, by rw [blk_l3_1]; kernel_rfl⟩
theorem blk_l3_2 : linesCut (edK 3 2) = ([⟨false, (⟨#[98, 117, 105, 108, 100, 32, 111, 100, 32, 58, 32, 97, 32, 105, 49, 32, 46, 47, 105, 50, 32, 124, 32, 104]⟩ : ByteArray)⟩, ⟨true, (⟨#[120, 32, 61, 32, 36, 119, 33]⟩ : ByteArray)⟩, ⟨true, (⟨#[119, 32, 61, 32, 45, 113]⟩ : ByteArray)⟩], 0) := (congrArg linesCut (show edK 3 2 = (⟨#[98, 117, 105, 108, 100, 32, 111, 100, 32, 58, 32, 97, 32, 105, 49, 32, 46, 47, 105, 50, 32, 124, 32, 104, 10, 32, 32, 120, 32, 61, 32, 36, 119, 33, 10, 32, 32, 119, 32, 61, 32, 45, 113, 10]⟩ : ByteArray) by kernel_rfl)).trans (by kernel_rfl)
theorem blk_3_2 : Blk 3 2 := ⟨by rw [blk_l3_2], by rw [blk_l3_2]; decide, ⟨_, _, by rw [blk_l3_2], rfl⟩, by rw [blk_l3_2]; kernel_rfl, by rw [blk_l3_2]; kernel_rfl, by rw [blk_l3_2]; kernel_rfl, by rw [blk_l3_2]; kernel_rfl⟩
theorem blk_l4_0 : linesCut (edK 4 0) = ([⟨false, (⟨#[98, 117, 105, 108, 100, 32, 111, 101, 32, 58, 32, 97, 32, 105, 49, 32, 46, 47, 105, 50, 32, 124, 32, 104]⟩ : ByteArray)⟩], 0) := (congrArg linesCut (show edK 4 0 = (⟨#[98, 117, 105, 108, 100, 32, 111, 101, 32, 58, 32, 97, 32, 105, 49, 32, 46, 47, 105, 50, 32, 124, 32, 104, 10]⟩ : ByteArray) by kernel_rfl)).trans (by kernel_rfl)
theorem blk_4_0 : Blk 4 0 := ⟨by rw [blk_l4_0], by rw [blk_l4_0]; decide, ⟨_, _, by rw [blk_l4_0], rfl⟩, by rw [blk_l4_0]; kernel_rfl, by rw [blk_l4_0]; kernel_rfl, by rw [blk_l4_0]; kernel_rfl, by rw [blk_l4_0]; kernel_rfl⟩
theorem blk_l4_1 : linesCut (edK 4 1) = ([⟨false, (⟨#[98, 117, 105, 108, 100, 32, 111, 101, 32, 58, 32, 98, 32, 124, 124, 32, 122, 47, 46, 46, 47, 122]⟩ : ByteArray)⟩], 0) := (congrArg linesCut (show edK 4 1 = (⟨#[98, 117, 105, 108, 100, 32, 111, 101, 32, 58, 32, 98, 32, 124, 124, 32, 122, 47, 46, 46, 47, 122, 10]⟩ : ByteArray) by kernel_rfl)).trans (by kernel_rfl)
theorem blk_4_1 : Blk 4 1 := ⟨by rw [blk_l4_1], by rw [blk_l4_1]; decide, ⟨_, _, by rw [blk_l4_1], rfl⟩, by rw [blk_l4_1]; kernel_rfl, by rw [blk_l4_1]; kernel_rfl, by rw [blk_l4_1]; kernel_rfl, by rw [blk_l4_1]; kernel_rfl⟩
theorem blk_l4_2 : linesCut (edK 4 2) = ([⟨false, (⟨#[98, 117, 105, 108, 100, 32, 111, 101, 32, 58, 32, 97, 32, 105, 49, 32, 46, 47, 105, 50, 32, 124, 32, 104]⟩ : ByteArray)⟩, ⟨true, (⟨#[120, 32, 61, 32, 36, 119, 33]⟩ : ByteArray)⟩, ⟨true, (⟨#[119, 32, 61, 32, 45, 113]⟩ : ByteArray)⟩], 0) := (congrArg linesCut (show edK 4 2 = (⟨#[98, 117, 105, 108, 100, 32, 111, 101, 32, 58, 32, 97, 32, 105, 49, 32, 46, 47, 105, 50, 32, 124, 32, 104, 10, 32, 32, 120, 32, 61, 32, 36, 119, 33, 10, 32, 32, 119, 32, 61, 32, 45, 113, 10]⟩ : ByteArray) by kernel_rfl)).trans (by kernel_rfl)
theorem blk_4_2 : Blk 4 2 := ⟨by rw [blk_l4_2], by rw [blk_l4_2]; decide, ⟨_, _, by rw [blk_l4_2], rfl⟩, by rw [blk_l4_2]; kernel_rfl, by rw [blk_l4_2]; kernel_rfl, by rw [blk_l4_2]; kernel_rfl, by rw [blk_l4_2]; kernel_rfl⟩
theorem blk_l5_0 : linesCut (edK 5 0) = ([⟨false, (⟨#[98, 117, 105, 108, 100, 32, 111, 102, 32, 58, 32, 97, 32, 105, 49, 32, 46, 47, 105, 50, 32, 124, 32, 104]⟩ : ByteArray)⟩], 0) := (congrArg linesCut (show edK 5 0 = (⟨#[98, 117, 105, 108, 100, 32, 111, 102, 32, 58, 32, 97, 32, 105, 49, 32, 46, 47, 105, 50, 32, 124, 32, 104, 10]⟩ : ByteArray) by kernel_rfl)).trans (by kernel_rfl)
theorem blk_5_0 : Blk 5 0 := ⟨by rw [blk_l5_0], by rw [blk_l5_0]; decide, ⟨_, _, by rw [blk_l5_0], rfl⟩, by rw [blk_l5_0]; kernel_rfl, by rw [blk_l5_0]; kernel_rfl, by rw [blk_l5_0]; kernel_rfl, by rw [blk_l5_0]; kernel_rfl⟩
theorem blk_l5_1 : linesCut (edK 5 1) = ([⟨false, (⟨#[98, 117, 105, 108, 100, 32, 111, 102, 32, 58, 32, 98, 32, 124, 124, 32, 122, 47, 46, 46, 47, 122]⟩ : ByteArray)⟩], 0) := (congrArg linesCut (show edK 5 1 = (⟨#[98, 117, 105, 108, 100, 32, 111, 102, 32, 58, 32, 98, 32, 124, 124, 32, 122, 47, 46, 46, 47, 122, 10]⟩ : ByteArray) by kernel_rfl)).trans (by kernel_rfl)
theorem blk_5_1 : Blk 5 1 := ⟨by rw [blk_l5_1], by rw [blk_l5_1]; decide, ⟨_, _, by rw [blk_l5_1], rfl⟩, by rw [blk_l5_1]; kernel_rfl, by rw [blk_l5_1]; kernel_rfl, by rw [blk_l5_1]; kernel_rfl, by rw [blk_l5_1]; kernel_rfl⟩
theorem blk_l5_2 : linesCut (edK 5 2) = ([⟨false, (⟨#[98, 117, 105, 108, 100, 32, 111, 102, 32, 58, 32, 97, 32, 105, 49, 32, 46, 47, 105, 50, 32, 124, 32, 104]⟩ : ByteArray)⟩, ⟨true, (⟨#[120, 32, 61, 32, 36, 119, 33]⟩ : ByteArray)⟩, ⟨true, (⟨#[119, 32, 61, 32, 45, 113]⟩ : ByteArray)⟩], 0) := (congrArg linesCut (show edK 5 2 = (⟨#[98, 117, 105, 108, 100, 32, 111, 102, 32, 58, 32, 97, 32, 105, 49, 32, 46, 47, 105, 50, 32, 124, 32, 104, 10, 32, 32, 120, 32, 61, 32, 36, 119, 33, 10, 32, 32, 119, 32, 61, 32, 45, 113, 10]⟩ : ByteArray) by kernel_rfl)).trans (by kernel_rfl)
theorem blk_5_2 : Blk 5 2 := ⟨by rw [blk_l5_2], by rw [blk_l5_2]; decide, ⟨_, _, by rw [blk_l5_2], rfl⟩, by rw [blk_l5_2]; kernel_rfl, by rw [blk_l5_2]; kernel_rfl, by rw [blk_l5_2]; kernel_rfl, by rw [blk_l5_2]; kernel_rfl⟩
theorem blk_l6_0 : linesCut (edK 6 0) = ([⟨false, (⟨#[98, 117, 105, 108, 100, 32, 111, 103, 32, 58, 32, 97, 32, 105, 49, 32, 46, 47, 105, 50, 32, 124, 32, 104]⟩ : ByteArray)⟩], 0) := (congrArg linesCut (show edK 6 0 = (⟨#[98, 117, 105, 108, 100, 32, 111, 103, 32, 58, 32, 97, 32, 105, 49, 32, 46, 47, 105, 50, 32, 124, 32, 104, 10]⟩ : ByteArray) by kernel_rfl)).trans (by kernel_rfl)
theorem blk_6_0 : Blk 6 0 := ⟨by rw [blk_l6_0], by rw [blk_l6_0]; decide, ⟨_, _, by rw [blk_l6_0], rfl⟩, by rw [blk_l6_0]; kernel_rfl, by rw [blk_l6_0]; kernel_rfl, by rw [blk_l6_0]; kernel_rfl, by rw [blk_l6_0]; kernel_rfl⟩
theorem blk_l6_1 : linesCut (edK 6 1) = ([⟨false, (⟨#[98, 117, 105, 108, 100, 32, 111, 103, 32, 58, 32, 98, 32, 124, 124, 32, 122, 47, 46, 46, 47, 122]⟩ : ByteArray)⟩], 0) := (congrArg linesCut (show edK 6 1 = (⟨#[98, 117, 105, 108, 100, 32, 111, 103, 32, 58, 32, 98, 32, 124, 124, 32, 122, 47, 46, 46, 47, 122, 10]⟩ : ByteArray) by kernel_rfl)).trans (by kernel_rfl)
theorem blk_6_1 : Blk 6 1 := ⟨by rw [blk_l6_1], by rw [blk_l6_1]; decide, ⟨_, _, by rw [blk_l6_1], rfl⟩, by rw [blk_l6_1]; kernel_rfl, by rw [blk_l6_1]; kernel_rfl, by rw [blk_l6_1]; kernel_rfl, by rw [blk_l6_1]; kernel_rfl⟩
theorem blk_l6_2 : linesCut (edK 6 2) = ([⟨false, (⟨#[98, 117, 105, 108, 100, 32, 111, 103, 32, 58, 32, 97, 32, 105, 49, 32, 46, 47, 105, 50, 32, 124, 32, 104]⟩ : ByteArray)⟩, ⟨true, (⟨#[120, 32, 61, 32, 36, 119, 33]⟩ : ByteArray)⟩, ⟨true, (⟨#[119, 32, 61, 32, 45, 113]⟩ : ByteArray)⟩], 0) := (congrArg linesCut (show edK 6 2 = (⟨#[98, 117, 105, 108, 100, 32, 111, 103, 32, 58, 32, 97, 32, 105, 49, 32, 46, 47, 105, 50, 32, 124, 32, 104, 10, 32, 32, 120, 32, 61, 32, 36, 119, 33, 10, 32, 32, 119, 32, 61, 32, 45, 113, 10]⟩ : ByteArray) by kernel_rfl)).trans (by kernel_rfl)
theorem blk_6_2 : Blk 6 2 := ⟨by rw [blk_l6_2], by rw [blk_l6_2]; decide, ⟨_, _, by rw [blk_l6_2], rfl⟩, by rw [blk_l6_2]; kernel_rfl, by rw [blk_l6_2]; kernel_rfl, by rw [blk_l6_2]; kernel_rfl, by rw [blk_l6_2]; kernel_rfl⟩
theorem blk_l7_0 : linesCut (edK 7 0) = ([⟨false, (⟨#[98, 117, 105, 108, 100, 32, 111, 104, 32, 58, 32, 97, 32, 105, 49, 32, 46, 47, 105, 50, 32, 124, 32, 104]⟩ : ByteArray)⟩], 0) := (congrArg linesCut (show edK 7 0 = (⟨#[98, 117, 105, 108, 100, 32, 111, 104, 32, 58, 32, 97, 32, 105, 49, 32, 46, 47, 105, 50, 32, 124, 32, 104, 10]⟩ : ByteArray) by kernel_rfl)).trans (by kernel_rfl)
theorem blk_7_0 : Blk 7 0 := ⟨by rw [blk_l7_0], by rw [blk_l7_0]; decide, ⟨_, _, by rw [blk_l7_0], rfl⟩, by rw [blk_l7_0]; kernel_rfl, by rw [blk_l7_0]; kernel_rfl, by rw [blk_l7_0]; kernel_rfl, by rw [blk_l7_0]; kernel_rfl⟩
theorem blk_l7_1 : linesCut (edK 7 1) = ([⟨false, (⟨#[98, 117, 105, 108, 100, 32, 111, 104, 32, 58, 32, 98, 32, 124, 124, 32, 122, 47, 46, 46, 47, 122]⟩ : ByteArray)⟩], 0) := (congrArg linesCut (show edK 7 1 = (⟨#[98, 117, 105, 108, 100, 32, 111, 104, 32, 58, 32, 98, 32, 124, 124, 32, 122, 47, 46, 46, 47, 122, 10]⟩ : ByteArray) by kernel_rfl)).trans (by kernel_rfl)
theorem blk_7_1 : Blk 7 1 := ⟨by rw [blk_l7_1], by rw [blk_l7_1]; decide, ⟨_, _, by rw [blk_l7_1], rfl⟩, by rw [blk_l7_1]; kernel_rfl, by rw [blk_l7_1]; kernel_rfl, by rw [blk_l7_1]; kernel_rfl, by rw [blk_l7_1]; kernel_rfl⟩
theorem blk_l7_2 : linesCut (edK 7 2) = ([⟨false, (⟨#[98, 117, 105, 108, 100, 32, 111, 104, 32, 58, 32, 97, 32, 105, 49, 32, 46, 47, 105, 50, 32, 124, 32, 104]⟩ : ByteArray)⟩, ⟨true, (⟨#[120, 32, 61, 32, 36, 119, 33]⟩ : ByteArray)⟩, ⟨true, (⟨#[119, 32, 61, 32, 45, 113]⟩ : ByteArray)⟩], 0) := (congrArg linesCut (show edK 7 2 = (⟨#[98, 117, 105, 108, 100, 32, 111, 104, 32, 58, 32, 97, 32, 105, 49, 32, 46, 47, 105, 50, 32, 124, 32, 104, 10, 32, 32, 120, 32, 61, 32, 36, 119, 33, 10, 32, 32, 119, 32, 61, 32, 45, 113, 10]⟩ : ByteArray) by kernel_rfl)).trans (by kernel_rfl)
theorem blk_7_2 : Blk 7 2 := ⟨by rw [blk_l7_2], by rw [blk_l7_2]; decide, ⟨_, _, by rw [blk_l7_2], rfl⟩, by rw [blk_l7_2]; kernel_rfl, by rw [blk_l7_2]; kernel_rfl, by rw [blk_l7_2]; kernel_rfl, by rw [blk_l7_2]; kernel_rfl⟩
theorem blk_all : ∀ (i : Nat) (c : Nat), i < 8 → c < 3 → Blk (i : Int) c
  | 0, 0, _, _ => blk_0_0
  | 0, 1, _, _ => blk_0_1
  | 0, 2, _, _ => blk_0_2
  | 1, 0, _, _ => blk_1_0
  | 1, 1, _, _ => blk_1_1
  | 1, 2, _, _ => blk_1_2
  | 2, 0, _, _ => blk_2_0
  | 2, 1, _, _ => blk_2_1
  | 2, 2, _, _ => blk_2_2
  | 3, 0, _, _ => blk_3_0
  | 3, 1, _, _ => blk_3_1
  | 3, 2, _, _ => blk_3_2
  | 4, 0, _, _ => blk_4_0
  | 4, 1, _, _ => blk_4_1
  | 4, 2, _, _ => blk_4_2
  | 5, 0, _, _ => blk_5_0
  | 5, 1, _, _ => blk_5_1
  | 5, 2, _, _ => blk_5_2
  | 6, 0, _, _ => blk_6_0
  | 6, 1, _, _ => blk_6_1
  | 6, 2, _, _ => blk_6_2
  | 7, 0, _, _ => blk_7_0
  | 7, 1, _, _ => blk_7_1
  | 7, 2, _, _ => blk_7_2
  | _ + 8, _, h, _ => absurd h (by omega)
  | _, _ + 3, _, h => absurd h (by omega)
end Go.Proofs.YtefheailchihaaaGreatDoor.Print

end
section
namespace Go.Proofs.YtefheailchihaaaGreatDoor.Print
open Go.RowKit Go.Lib Go.Shelf Go.Proofs.YtefheailchihaaaGreatDoorW.PrintWords Go.Proofs.YtefheailchihaaaGreatDoorW.PrintLast Go.Proofs.YtefheailchihaaaGreatDoorW.PrintMore
set_option linter.unusedVariables false

theorem wrapN (i : Nat) (h : i ≤ 4611686018427387904) : wrap64 ((i : Int) + 1) = ((i + 1 : Nat) : Int) := by unfold wrap64; omega
theorem same_texts_go (l : List ByteArray) (hl : l.length ≤ 1000000000) : ∀ (d i k : Nat), i + d = l.length → d < k → cruciblelaw0_SameTexts.l0 k l l (i : Int) = some true
  | _, _, 0, _, h => absurd h (by omega)
  | 0, i, k + 1, h, _ => by
    unfold cruciblelaw0_SameTexts.l0
    rw [if_neg (by omega)]
  | d + 1, i, k + 1, h, hk => by
    unfold cruciblelaw0_SameTexts.l0
    rw [if_pos (by omega), if_pos (by omega), if_pos (by omega), if_pos rfl, wrapN i (by omega)]
    exact same_texts_go l hl d (i + 1) k (by omega) (by omega)
theorem same_texts (l : List ByteArray) (hl : l.length ≤ 1000000000) (k : Nat) (hk : l.length < k) : cruciblelaw0_SameTexts.f k l l = some true := by
  unfold cruciblelaw0_SameTexts.f
  rw [if_pos rfl]
  exact same_texts_go l hl l.length 0 k (by omega) hk
theorem same_pools_go (l : List S44) (hl : l.length ≤ 1000000000) : ∀ (d i k : Nat), i + d = l.length → d < k → cruciblelaw0_SamePools.l0 k l l (i : Int) = some true
  | _, _, 0, _, h => absurd h (by omega)
  | 0, i, k + 1, h, _ => by
    unfold cruciblelaw0_SamePools.l0
    rw [if_neg (by omega)]
  | d + 1, i, k + 1, h, hk => by
    unfold cruciblelaw0_SamePools.l0
    rw [if_pos (by omega), if_pos (by omega), if_pos (by omega), if_neg (by simp), wrapN i (by omega)]
    exact same_pools_go l hl d (i + 1) k (by omega) (by omega)
theorem same_pools (l : List S44) (hl : l.length ≤ 1000000000) (k : Nat) (hk : l.length < k) : cruciblelaw0_SamePools.f k l l = some true := by
  unfold cruciblelaw0_SamePools.f
  rw [if_pos rfl]
  exact same_pools_go l hl l.length 0 k (by omega) hk
def FewE (M : Nat) (e : S42) : Prop := e.f0.length ≤ M ∧ e.f1.length ≤ M ∧ e.f2.length ≤ M ∧ e.f3.length ≤ M
theorem same_edge (M : Nat) (hM : M ≤ 1000000000) (e : S42) (h : FewE M e) (k : Nat) (hk : M < k) : cruciblelaw0_SameEdge.f k e.f0 e.f1 e.f2 e.f3 e.f4 e.f5 e.f6 e.f0 e.f1 e.f2 e.f3 e.f4 e.f5 e.f6 = some true := by
  obtain ⟨h0, h1, h2, h3⟩ := h
  unfold cruciblelaw0_SameEdge.f
  rw [same_texts e.f0 (by omega) k (by omega), same_texts e.f1 (by omega) k (by omega), same_texts e.f2 (by omega) k (by omega), same_texts e.f3 (by omega) k (by omega)]
  simp
theorem rd_T42_mem (l : List S42) (i : Nat) (h : i < l.length) : rd_T42 l (i : Int) ∈ l := by
  have e : rd_T42 l (i : Int) = l[i] := by simp [rd_T42, List.getD_eq_getElem?_getD, h]
  rw [e]
  exact List.getElem_mem h
theorem same_graph_go (M : Nat) (hM : M ≤ 1000000000) (l : List S42) (hl : l.length ≤ 1000000000) (he : ∀ e ∈ l, FewE M e) (ps : List S44) (hp : ps.length ≤ M) (ds : List ByteArray) (hd : ds.length ≤ M) : ∀ (d i k : Nat), i + d = l.length → M + d + 1 < k → cruciblelaw0_SameGraph.l0 k (i : Int) l ps ds l ps ds = some true
  | _, _, 0, _, h => absurd h (by omega)
  | 0, i, k + 1, h, hk => by
    unfold cruciblelaw0_SameGraph.l0
    rw [if_neg (by omega), same_pools ps (by omega) k (by omega), same_texts ds (by omega) k (by omega)]
    rfl
  | d + 1, i, k + 1, h, hk => by
    unfold cruciblelaw0_SameGraph.l0
    rw [if_pos (by omega), if_pos (by omega), if_pos (by omega), same_edge M hM _ (he _ (rd_T42_mem l i (by omega))) k (by omega), wrapN i (by omega)]
    show (if true = true then cruciblelaw0_SameGraph.l0 k ((i + 1 : Nat) : Int) l ps ds l ps ds else some false) = some true
    rw [if_pos rfl]
    exact same_graph_go M hM l hl he ps hp ds hd d (i + 1) k (by omega) (by omega)
theorem same_graph (M : Nat) (hM : M ≤ 1000000000) (l : List S42) (hl : l.length ≤ M) (he : ∀ e ∈ l, FewE M e) (ps : List S44) (hp : ps.length ≤ M) (ds : List ByteArray) (hd : ds.length ≤ M) (k : Nat) (hk : M + M + 1 < k) : cruciblelaw0_SameGraph.f k l ps ds l ps ds = some true := by
  unfold cruciblelaw0_SameGraph.f
  rw [if_pos rfl]
  exact same_graph_go M hM l (by omega) he ps hp ds hd l.length 0 k (by omega) (by omega)
end Go.Proofs.YtefheailchihaaaGreatDoor.Print

end
