/- YtefheailchihaaaGreatDoorSc11: out of this seat's texts (wip/tools/shake.py), what is needed alone. -/
import Derived.Test.YtefheailchihaaaGreatDoorSc10
section
namespace Go.Proofs.YtefheailchihaaaGreatDoor.Print
open Go.RowKit Go.Lib Go.Shelf Go.Proofs.YtefheailchihaaaGreatDoorW.PrintWords Go.Proofs.YtefheailchihaaaGreatDoorW.PrintLast Go.Proofs.YtefheailchihaaaGreatDoorW.PrintMore
set_option linter.unusedVariables false
set_option linter.unusedSimpArgs false
attribute [local go_sem ↓] Go.wp_at_zero Go.wp_at_succ

/-- What Parse answers: a graph's rows of its own, and what is wrong. -/
def Ans (w w' : World) (e : Ending) (r : List S42 × List S44 × List ByteArray × Int) : Prop := ∃ v0_ v1_ v2_ : Value, e = .returned (.tuple #[.agg #[v0_, v1_, v2_], .int .i64 r.2.2.2]) ∧
  Kd.R k42 42 w' w.heap.size (fun k_ => some k_ ≠ (v1_ : Value).ownBlock ∧ some k_ ≠ (v2_ : Value).ownBlock) v0_ r.1 ∧ Kd.R k44 44 w' w.heap.size (fun k_ => some k_ ≠ (v0_ : Value).ownBlock ∧ some k_ ≠ (v2_ : Value).ownBlock) v1_ r.2.1 ∧ Kd.R Kd.string 9 w' w.heap.size (fun k_ => some k_ ≠ (v0_ : Value).ownBlock ∧ some k_ ≠ (v1_ : Value).ownBlock) v2_ r.2.2.1 ∧ Below w.heap.size w w'
theorem ans_nil {w w' : World} {c : Int} (hb : Below w.heap.size w w') : Ans w w' (.returned (.tuple #[.agg #[.slice none 0 0, .slice none 0 0, .slice none 0 0], .int .i64 c])) ([], [], [], c) :=
  ⟨_, _, _, rfl, Kd.R_nil _ _ _ _ _, Kd.R_nil _ _ _ _ _, Kd.R_nil _ _ _ _ _, hb⟩

theorem linesGo_len : ∀ (k : Nat) (rs : List ByteArray) (out : List S59), (linesGo k rs out).1.length ≤ out.length + k
  | 0, rs, out => by cases rs <;> exact Nat.le_refl _
  | _ + 1, [], out => Nat.le_add_right _ _
  | k + 1, r :: rs, out => by
    unfold linesGo
    cases hj : joinGo r r rs with
    | none => exact Nat.zero_le _
    | some q =>
      have h1 := linesGo_len k q.2 (addLine out q.1)
      have h2 : (addLine out q.1).length ≤ out.length + 1 := by
        unfold addLine
        split
        · omega
        · rw [List.length_append, List.length_singleton]; omega
      simp only
      omega
theorem splitL_len : ∀ (l cur : List UInt8), (splitL cur l).length ≤ l.length + 1
  | [], cur => by simp [splitL]
  | c :: l, cur => by
    unfold splitL
    split
    · have := splitL_len l []
      simp only [List.length_cons]
      omega
    · have := splitL_len l (cur ++ [c])
      simp only [List.length_cons]
      omega
theorem lines_len (s : ByteArray) (hs : s.size ≤ 9223372036854775807) : (linesCut s).1.length ≤ 4096 := by
  unfold linesCut
  split
  · rename_i hm
    unfold mayB at hm
    simp only [Bool.and_eq_true, Bool.or_eq_true, decide_eq_true_eq] at hm
    have h1 := linesGo_len (rowsOf s).length (rowsOf s) []
    have h2 := splitL_len s.data.toList []
    have h3 : (rowsOf s).length ≤ (splitL [] s.data.toList).length := by unfold rowsOf; rw [List.length_map, List.length_dropLast]; omega
    have h4 := hm.1
    rw [Lib.size_eq] at h4
    simp only [List.length_nil] at h1
    omega
  · exact Nat.zero_le _
theorem parseGo_cons (x : S59) (l : List S59) (p : Pst) (o : Opn) : parseGo (x :: l) p o = if (lineR p o x.f0 x.f1).2.2 = 0 then parseGo l (lineR p o x.f0 x.f1).1 (lineR p o x.f0 x.f1).2.1 else lineR p o x.f0 x.f1 := rfl
theorem g_nil {w : World} {G : Nat} (h : w.heap[G]? = some (.cells #[.slice none 0 0, .slice none 0 0, .slice none 0 0] 26 (0, 0))) : (((w.setCell ⟨G, 0, none⟩ (.slice none 0 0)).setCell ⟨G, 1, none⟩ (.slice none 0 0)).setCell ⟨G, 2, none⟩ (.slice none 0 0)).heap[G]? = some (.cells #[.slice none 0 0, .slice none 0 0, .slice none 0 0] 26 (0, 0)) := blk_put (blk_put (blk_put h 0 _ rfl) 1 _ rfl) 2 _ rfl
theorem g_put {w : World} {G : Nat} {a b c : Value} (h : w.heap[G]? = some (.cells #[.slice none 0 0, .slice none 0 0, .slice none 0 0] 26 (0, 0))) : (((w.setCell ⟨G, 0, none⟩ a).setCell ⟨G, 1, none⟩ b).setCell ⟨G, 2, none⟩ c).heap[G]? = some (.cells #[a, b, c] 26 (0, 0)) := blk_put (blk_put (blk_put h 0 _ rfl) 1 _ rfl) 2 _ rfl
theorem g_below {w W : World} {a b c : Value} (h : Below w.heap.size w W) : Below w.heap.size w (((W.setCell ⟨w.heap.size, 0, none⟩ a).setCell ⟨w.heap.size, 1, none⟩ b).setCell ⟨w.heap.size, 2, none⟩ c) :=
  ((h.setCell (p := ⟨w.heap.size, 0, none⟩) (Nat.le_refl _) _).setCell (p := ⟨w.heap.size, 1, none⟩) (Nat.le_refl _) _).setCell (p := ⟨w.heap.size, 2, none⟩) (Nat.le_refl _) _
/-- A row is none of another's block, by types. -/
theorem R_not {α β : Type} {d : Kd α} {d' : Kd β} {e t base base' : Nat} {ok ok' : Nat → Prop} {w : World} {v v' : Value} {xs : List α} {ys : List β} (h : d.R e w base ok v xs) (h' : d'.R t w base' ok' v' ys) (ht : t ∉ e :: d.E) : d.R e w base (fun k => ok k ∧ some k ≠ v'.ownBlock) v xs :=
  Kd.R_mono (Kd.R_bound h) (fun k hk => ⟨hk.1, fun he => by
    obtain ⟨_, _, _, q, hq, cells, hc⟩ := hk
    obtain ⟨cells2, hc2⟩ := R_own_type h' he.symm
    rw [hc] at hc2
    simp only [Option.some.injEq, Obj.cells.injEq] at hc2
    exact ht (hc2.2.1 ▸ hq)⟩)

set_option maxHeartbeats 1000000 in
set_option maxRecDepth 100000 in
theorem parse_calls (s : ByteArray) (hs : s.size ≤ 9223372036854775807) (w : World) :
    Calls Tryz.prog 10 #[.string s] w fun e w' => Ans w w' e (parseB s) := by
  have hls := lines_size s
  have hln := lines_len s hs
  have HL := Lib.hid (lines_calls s hs (w.alloc (.cells #[.slice none 0 0, .slice none 0 0, .slice none 0 0] 26)))
  obtain ⟨Z, hZ⟩ : ∃ Z, parseB s = Z := ⟨_, rfl⟩
  have hZ2 := hZ
  rw [hZ]
  unfold parseB at hZ2
  obtain ⟨⟨ls, c⟩, hlc⟩ : ∃ q, linesCut s = q := ⟨_, rfl⟩
  rw [hlc] at hls hln HL hZ2
  simp only at hls hln HL hZ2
  have HZ := Lib.hid hZ2
  have HLS := Lib.hid hls
  clear hls hZ hZ2 hlc
  have HA := Aside0.mk ((Below.refl w.heap.size w).alloc (Nat.le_refl _) (.cells #[.slice none 0 0, .slice none 0 0, .slice none 0 0] 26))
  have HGa := Aside0.mk (blk_new w (.cells #[.slice none 0 0, .slice none 0 0, .slice none 0 0] 26))
  have hsz : (w.alloc (.cells #[.slice none 0 0, .slice none 0 0, .slice none 0 0] 26)).heap.size = w.heap.size + 1 := by simp
  by_cases h0 : c = 0
  · subst h0
    have hz := HZ.out
    rw [if_pos rfl] at hz
    have HZ1 := Lib.hid hz
    clear hz HZ
    go_enter Tryz.func10, Tryz.ntmps10
    go_upto_region 5 with (first | (go_at_call 18; refine HL.out.mono ?_; rintro x w1 ⟨vl, rfl, hl, hb⟩; obtain ⟨Al, cl, rfl⟩ := Kd.R_slice hl; have HG1 := Aside0.mk (blk_below HGa.out hb); have RL1 := Aside0.mk (Kd.R_reads' hl).2.2; have HB1 := Aside0.mk (HA.out.trans (hb.mono (by omega))); clear hl hb HGa HA))
    have hGB : w.heap.size < w1.heap.size := blk_lt HG1.out
    have hd := (Below.refl w1.heap.size w1).alloc (Nat.le_refl _) (.cells #[.slice none 0 0, .slice none 0 0, .slice none 0 0, .slice none 0 0, .slice none 0 0, .nilFunc, .nilFunc, .int .i64 0] 57)
    have HM2 : Aside0 (Mst (w1.alloc (.cells #[.slice none 0 0, .slice none 0 0, .slice none 0 0, .slice none 0 0, .slice none 0 0, .nilFunc, .nilFunc, .int .i64 0] 57)) w1.heap.size w1.heap.size pst0 .none 0) := ⟨⟨_, _, _, _, _, _, _, Nat.le_refl _, blk_new w1 _, ⟨Kd.R_nil _ _ _ _ _, Kd.R_nil _ _ _ _ _, Kd.R_nil _ _ _ _ _, Kd.R_nil _ _ _ _ _, Kd.R_nil _ _ _ _ _⟩, rfl, rfl⟩⟩
    have HB2 := Aside0.mk hd
    clear hd
    obtain ⟨B, hB⟩ : ∃ B, w1.heap.size = B := ⟨_, rfl⟩
    rw [hB] at HM2 HB2 hGB ⊢
    have hBG : B ≠ w.heap.size := by omega
    have HBB := Lib.hid hB
    clear hB
    generalize w1.alloc (.cells #[.slice none 0 0, .slice none 0 0, .slice none 0 0, .slice none 0 0, .slice none 0 0, .nilFunc, .nilFunc, .int .i64 0] 57) = w2 at HM2 HB2 ⊢
    go_wp2_with fail
    go_loopw [8, 21] (fun v8 v21 wr => ∃ (k : Nat) (p : Pst) (o : Opn), v21 = .int .i64 k ∧ k ≤ ls.length ∧ Aside0 (parseGo ls pst0 .none = parseGo (ls.drop k) p o) ∧ Aside0 (Inv p o) ∧ Aside0 (Mst wr B B p o 0) ∧ Aside0 (Below B w1 wr)) (fun v8 v21 _ => ls.length - (intOf v21).toNat)
    case atStart => exact ⟨0, pst0, .none, rfl, Nat.zero_le _, ⟨by rw [List.drop_zero]⟩, ⟨inv0⟩, ⟨HM2.out⟩, ⟨HB2.out⟩⟩
    case round =>
      obtain ⟨k, p, o, rfl, hk, HPG, HIV, HM, HB⟩ := hrel
      have hBw : B ≤ wr.heap.size := by
        have h1 := HB.out.size
        have h2 := HBB.out
        omega
      have HG := Aside0.mk ((HB.out.block _ hGB).trans HG1.out)
      by_cases hlt : k < ls.length
      · have RLr := Aside0.mk (Kd.C_below RL1.out (by rw [HBB.out]; exact HB.out))
        obtain ⟨ad, rfl, r0, r1⟩ := at_T59 RLr.out (k : Int) (by omega) (by omega)
        have hx := HLS.out _ (List.getElem_mem hlt)
        have hrd : rd_T59 ls (k : Int) = ls[k] := by simp [rd_T59, List.getD_eq_getElem?_getD, hlt]
        rw [hrd] at r0 r1
        simp only [Int.toNat_natCast] at r0 r1
        have hgo := HPG.out
        rw [List.drop_eq_getElem_cons hlt] at hgo
        rw [parseGo_cons] at hgo
        generalize ls[k] = x at *
        obtain ⟨xd, xt⟩ := x
        have HA3 := Aside0.mk ((Below.refl wr.heap.size wr).alloc (Nat.le_refl _) (.cells #[.bool xd, .string xt] 59))
        have HLC := Lib.hid (line_calls B B p o xd xt hx (wr.alloc (.cells #[.bool xd, .string xt] 59)) (Nat.le_trans hBw HA3.out.size) (Mst_below HM.out HA3.out) HIV.out)
        have hinv := inv_line (p := p) (o := o) (d := xd) hx HIV.out
        obtain ⟨⟨P', O', E'⟩, hL⟩ : ∃ q, lineR p o xd xt = q := ⟨_, rfl⟩
        rw [hL] at HLC hgo hinv
        simp only at HLC hgo hinv r0 r1
        have HINV := Lib.hid hinv
        clear hL hinv
        have CALL := HLC
        by_cases hE : E' = 0
        · subst hE
          rw [if_pos rfl] at hgo
          have HGO := Aside0.mk hgo
          clear hgo
          go_wp2_with (first | (go_at_call 19; refine HLC.out.mono ?_; rintro y w3 ⟨rfl, hm, hb⟩; have HM3 := Aside0.mk hm; have HB3 := Aside0.mk (HB.out.trans ((HA3.out.mono hBw).trans hb)); obtain ⟨_, _, _, _, _, _, _, _, hp3, _⟩ := hm; have q7 : w3.cell? ⟨B, 7, none⟩ = some (.int .i64 0) := blk_cell hp3 7; clear hp3 hb))
          exact ⟨⟨k + 1, P', O', by go_num, by omega, ⟨HGO.out⟩, ⟨HINV.out trivial⟩, ⟨HM3.out⟩, ⟨HB3.out⟩⟩, by simp [intOf]; omega⟩
        · rw [if_neg hE] at hgo
          have HGO := Aside0.mk hgo
          clear hgo
          have hEb : (E' != 0) = true := bne_iff_ne.2 hE
          go_upto_region 10 with (first | (go_at_call 19; refine HLC.out.mono ?_; rintro y w3 ⟨rfl, hm, hb⟩; have HB3 := Aside0.mk (HB.out.trans ((HA3.out.mono hBw).trans hb)); obtain ⟨_, _, _, _, _, _, _, _, hp3, _⟩ := hm; have HP3 := Aside0.mk hp3; have q7 : w3.cell? ⟨B, 7, none⟩ = some (.int .i64 E') := blk_cell hp3 7; clear hp3 hb))
          have HG3 := Aside0.mk ((HB3.out.block _ hGB).trans HG1.out)
          refine start_ (n := 7) (S := fun w' => w'.cell? ⟨B, 7, none⟩ = some (.int .i64 E')) (ds := []) #[false, false, false, false, false, false, false] (by kernel_rfl) rfl rfl (q7) (fun hHeld => ?_)
          have g0 := blk_cell HG3.out 0
          have g1 := blk_cell (HG3.out) 1
          have g2 := blk_cell (HG3.out) 2
          have f0 := blk_frozen (HG3.out) 0
          have f1 := blk_frozen (HG3.out) 1
          have f2 := blk_frozen (HG3.out) 2
          refine pure_ (i := 0) (N := some 33) (v := ?_) (a' := ?_) #[true, false, false, false, false, false, false] rfl rfl (by kernel_rfl) (fun _ _ _ h => h) (Or.inl ⟨by rfl, ?_⟩) ?_ ?_
          rotate_left
          · intro w'
            go_simp
            with_reducible rfl
          rotate_left
          · simp only [Act.put, List.setIfInBounds_toArray, List.set_cons_zero, List.set_cons_succ, i64_w, i32_w]
            rfl
          refine pure_ (i := 1) (N := some 34) (v := ?_) (a' := ?_) #[true, true, false, false, false, false, false] rfl rfl (by kernel_rfl) (fun _ _ _ h => h) (Or.inl ⟨by rfl, ?_⟩) ?_ ?_
          rotate_left
          · intro w'
            go_simp
            with_reducible rfl
          rotate_left
          · simp only [Act.put, List.setIfInBounds_toArray, List.set_cons_zero, List.set_cons_succ, i64_w, i32_w]
            rfl
          refine pure_ (i := 2) (N := some 35) (v := ?_) (a' := ?_) #[true, true, true, false, false, false, false] rfl rfl (by kernel_rfl) (fun _ _ _ h => h) (Or.inl ⟨by rfl, ?_⟩) ?_ ?_
          rotate_left
          · intro w'
            go_simp
            with_reducible rfl
          rotate_left
          · simp only [Act.put, List.setIfInBounds_toArray, List.set_cons_zero, List.set_cons_succ, i64_w, i32_w]
            rfl
          refine pure_ (i := 3) (N := some 36) (v := ?_) (a' := ?_) #[true, true, true, true, false, false, false] rfl rfl (by kernel_rfl) (fun _ _ _ h => h) (Or.inl ⟨by rfl, ?_⟩) ?_ ?_
          rotate_left
          · intro w'
            go_simp
            with_reducible rfl
          rotate_left
          · simp only [Act.put, List.setIfInBounds_toArray, List.set_cons_zero, List.set_cons_succ, i64_w, i32_w]
            rfl
          refine take_ (i := 4) (N := some 37) (v := ?_) (a' := ?_) #[true, true, true, true, true, false, false] rfl rfl (by kernel_rfl) (fun _ _ _ h => h) (Or.inl ⟨by rfl, ?_⟩) hHeld ?_ ?_
          rotate_left
          · intro w' s0
            go_simp
            with_reducible rfl
          rotate_left
          · simp only [Act.put, List.setIfInBounds_toArray, List.set_cons_zero, List.set_cons_succ, i64_w, i32_w]
            rfl
          refine one_ (i := 5) (N := none) #[true, true, true, true, true, true, false] rfl rfl (by kernel_rfl) (by decide) (fun K hK => ?_)
          refine skip_ (w1 := ?_) (by rfl) rfl ?_ ?_
          rotate_left
          · go_simp
            rfl
          refine hK.out _ _ (blk_cell (blk_far (blk_far (blk_far (blk_drew HP3.out) hBG _) hBG _) hBG _) 7) (fun hHeld => ?_)
          clear hK K
          refine pure_ (i := 6) (N := some 3) (v := ?_) (a' := ?_) #[true, true, true, true, true, true, true] rfl rfl (by kernel_rfl) (fun _ _ _ h => h) (Or.inl ⟨by rfl, ?_⟩) ?_ ?_
          rotate_left
          · intro w'
            go_simp
            with_reducible rfl
          rotate_left
          · simp only [Act.put, List.setIfInBounds_toArray, List.set_cons_zero, List.set_cons_succ, i64_w, i32_w]
            rfl
          refine done_ (by kernel_rfl) ?_
          have hz := HZ1.out
          rw [HGO.out] at hz
          unfold parseEnd at hz
          rw [if_neg hE] at hz
          subst hz
          go_wp2_with fail
          have HGN := blk_drew (g_nil HG3.out)
          have HBN := (g_below (a := .slice none 0 0) (b := .slice none 0 0) (c := .slice none 0 0) (HB1.out.trans (HB3.out.mono (Nat.le_of_lt hGB)))).drew
          generalize (((w3.setCell ⟨w.heap.size, 0, none⟩ (.slice none 0 0)).setCell ⟨w.heap.size, 1, none⟩ (.slice none 0 0)).setCell ⟨w.heap.size, 2, none⟩ (.slice none 0 0)).drew = w9 at HGN HBN ⊢
          have z0 := blk_cell HGN 0
          have z1 := blk_cell HGN 1
          have z2 := blk_cell HGN 2
          refine bodyPost_ret (v := .tuple #[.agg #[.slice none 0 0, .slice none 0 0, .slice none 0 0], .int .i64 E']) (by simp [results, Tryz.results10, go_sem, z0, z1, z2]) rfl ?_
          exact ans_nil HBN
      · obtain rfl : k = ls.length := by omega
        have hgo := HPG.out
        rw [List.drop_length] at hgo
        have hgo2 : parseGo ls pst0 .none = (p, o, 0) := hgo
        have hz := HZ1.out
        rw [hgo2] at hz
        unfold parseEnd at hz
        rw [if_pos rfl] at hz
        simp only at hz
        clear hgo hgo2
        have HEN := Lib.hid (end_calls B B p o 0 wr HM.out HIV.out w.heap.size 26 _ HG.out (by decide))
        obtain ⟨E', hE'⟩ : ∃ q, overE p o 0 = q := ⟨_, rfl⟩
        obtain ⟨P', hP'⟩ : ∃ q, overP p o = q := ⟨_, rfl⟩
        rw [hE', hP'] at HEN hz
        clear hE' hP'
        by_cases hE : E' = 0
        · subst hE
          rw [if_pos rfl] at hz
          have HZ2 := Lib.hid hz
          clear hz
          go_wp2_with (first | (go_at_call 20; refine HEN.out.mono ?_; rintro y w3 ⟨rfl, hm, hb, hq⟩; have HB3 := Aside0.mk (HB.out.trans hb); have HG3 := Aside0.mk hq; obtain ⟨vE, vP, vD, vO, vR, fd, fo, _, hp3, hr3, _⟩ := hm; obtain ⟨AE, cE, rfl⟩ := Kd.R_slice hr3.1; obtain ⟨AP, cP, rfl⟩ := Kd.R_slice hr3.2.1; obtain ⟨AD, cD, rfl⟩ := Kd.R_slice hr3.2.2.1; have HP3 := Aside0.mk hp3; have HR3 := Aside0.mk hr3; have q7 : w3.cell? ⟨B, 7, none⟩ = some (.int .i64 0) := blk_cell hp3 7; have q0 := blk_cell hp3 0; have q1 := blk_cell hp3 1; have q2 := blk_cell hp3 2; have g0 := blk_cell HG3.out 0; have g1 := blk_cell HG3.out 1; have g2 := blk_cell HG3.out 2; have f0 := blk_frozen HG3.out 0; have f1 := blk_frozen HG3.out 1; have f2 := blk_frozen HG3.out 2; clear hp3 hr3 hb hq))
          have hz2 := HZ2.out
          subst hz2
          have HGN := g_put (a := .slice AE P'.edges.length cE) (b := .slice AP P'.pools.length cP) (c := .slice AD P'.defs.length cD) HG3.out
          have HBN := g_below (a := .slice AE P'.edges.length cE) (b := .slice AP P'.pools.length cP) (c := .slice AD P'.defs.length cD) (HB1.out.trans (HB3.out.mono (Nat.le_of_lt hGB)))
          have hkk := Kept.then_ (Kept.then_ (kept_one w3 w.heap.size 0 (.slice AE P'.edges.length cE)) (kept_one _ w.heap.size 1 (.slice AP P'.pools.length cP)) (fun k hk => .inl hk)) (kept_one _ w.heap.size 2 (.slice AD P'.defs.length cD)) (fun k hk => .inl hk)
          have HRN := Rows_kept HR3.out hkk (apart_one HG3.out (by decide))
          clear hkk
          generalize ((w3.setCell ⟨w.heap.size, 0, none⟩ (.slice AE P'.edges.length cE)).setCell ⟨w.heap.size, 1, none⟩ (.slice AP P'.pools.length cP)).setCell ⟨w.heap.size, 2, none⟩ (.slice AD P'.defs.length cD) = w9 at HGN HBN HRN ⊢
          have z0 := blk_cell HGN 0
          have z1 := blk_cell HGN 1
          have z2 := blk_cell HGN 2
          refine bodyPost_ret (v := .tuple #[.agg #[.slice AE P'.edges.length cE, .slice AP P'.pools.length cP, .slice AD P'.defs.length cD], .int .i64 0]) (by simp [results, Tryz.results10, go_sem, z0, z1, z2]) rfl ?_
          obtain ⟨n1, n2, n3, _, _⟩ := HRN
          have hle := Nat.le_of_lt hGB
          exact ⟨_, _, _, rfl, Kd.R_lower (Kd.R_mono (R_not n1 n2 (by decide)) (fun k hk => ⟨hk.2, hk.1⟩)) hle, Kd.R_lower (Kd.R_mono (R_not (R_not n2 n1 (by decide)) n3 (by decide)) (fun k hk => ⟨hk.1.2, hk.2⟩)) hle, Kd.R_lower (Kd.R_mono (R_not (R_not n3 n1 (by decide)) n2 (by decide)) (fun k hk => ⟨hk.1.2, hk.2⟩)) hle, HBN⟩
        · rw [if_neg hE] at hz
          have HZ2 := Lib.hid hz
          clear hz
          have hEb : (E' != 0) = true := bne_iff_ne.2 hE
          go_upto_region 14 with (first | (go_at_call 20; refine HEN.out.mono ?_; rintro y w3 ⟨rfl, hm, hb, hq⟩; have HB3 := Aside0.mk (HB.out.trans hb); have HG3 := Aside0.mk hq; obtain ⟨_, _, _, _, _, _, _, _, hp3, _⟩ := hm; have HP3 := Aside0.mk hp3; have q7 : w3.cell? ⟨B, 7, none⟩ = some (.int .i64 E') := blk_cell hp3 7; clear hp3 hb hq))
          refine start_ (n := 7) (S := fun w' => w'.cell? ⟨B, 7, none⟩ = some (.int .i64 E')) (ds := []) #[false, false, false, false, false, false, false] (by kernel_rfl) rfl rfl (q7) (fun hHeld => ?_)
          have g0 := blk_cell HG3.out 0
          have g1 := blk_cell (HG3.out) 1
          have g2 := blk_cell (HG3.out) 2
          have f0 := blk_frozen (HG3.out) 0
          have f1 := blk_frozen (HG3.out) 1
          have f2 := blk_frozen (HG3.out) 2
          refine pure_ (i := 0) (N := some 46) (v := ?_) (a' := ?_) #[true, false, false, false, false, false, false] rfl rfl (by kernel_rfl) (fun _ _ _ h => h) (Or.inl ⟨by rfl, ?_⟩) ?_ ?_
          rotate_left
          · intro w'
            go_simp
            with_reducible rfl
          rotate_left
          · simp only [Act.put, List.setIfInBounds_toArray, List.set_cons_zero, List.set_cons_succ, i64_w, i32_w]
            rfl
          refine pure_ (i := 1) (N := some 47) (v := ?_) (a' := ?_) #[true, true, false, false, false, false, false] rfl rfl (by kernel_rfl) (fun _ _ _ h => h) (Or.inl ⟨by rfl, ?_⟩) ?_ ?_
          rotate_left
          · intro w'
            go_simp
            with_reducible rfl
          rotate_left
          · simp only [Act.put, List.setIfInBounds_toArray, List.set_cons_zero, List.set_cons_succ, i64_w, i32_w]
            rfl
          refine pure_ (i := 2) (N := some 48) (v := ?_) (a' := ?_) #[true, true, true, false, false, false, false] rfl rfl (by kernel_rfl) (fun _ _ _ h => h) (Or.inl ⟨by rfl, ?_⟩) ?_ ?_
          rotate_left
          · intro w'
            go_simp
            with_reducible rfl
          rotate_left
          · simp only [Act.put, List.setIfInBounds_toArray, List.set_cons_zero, List.set_cons_succ, i64_w, i32_w]
            rfl
          refine pure_ (i := 3) (N := some 49) (v := ?_) (a' := ?_) #[true, true, true, true, false, false, false] rfl rfl (by kernel_rfl) (fun _ _ _ h => h) (Or.inl ⟨by rfl, ?_⟩) ?_ ?_
          rotate_left
          · intro w'
            go_simp
            with_reducible rfl
          rotate_left
          · simp only [Act.put, List.setIfInBounds_toArray, List.set_cons_zero, List.set_cons_succ, i64_w, i32_w]
            rfl
          refine take_ (i := 4) (N := some 50) (v := ?_) (a' := ?_) #[true, true, true, true, true, false, false] rfl rfl (by kernel_rfl) (fun _ _ _ h => h) (Or.inl ⟨by rfl, ?_⟩) hHeld ?_ ?_
          rotate_left
          · intro w' s0
            go_simp
            with_reducible rfl
          rotate_left
          · simp only [Act.put, List.setIfInBounds_toArray, List.set_cons_zero, List.set_cons_succ, i64_w, i32_w]
            rfl
          refine one_ (i := 5) (N := none) #[true, true, true, true, true, true, false] rfl rfl (by kernel_rfl) (by decide) (fun K hK => ?_)
          refine skip_ (w1 := ?_) (by rfl) rfl ?_ ?_
          rotate_left
          · go_simp
            rfl
          refine hK.out _ _ (blk_cell (blk_far (blk_far (blk_far (blk_drew HP3.out) hBG _) hBG _) hBG _) 7) (fun hHeld => ?_)
          clear hK K
          refine pure_ (i := 6) (N := some 3) (v := ?_) (a' := ?_) #[true, true, true, true, true, true, true] rfl rfl (by kernel_rfl) (fun _ _ _ h => h) (Or.inl ⟨by rfl, ?_⟩) ?_ ?_
          rotate_left
          · intro w'
            go_simp
            with_reducible rfl
          rotate_left
          · simp only [Act.put, List.setIfInBounds_toArray, List.set_cons_zero, List.set_cons_succ, i64_w, i32_w]
            rfl
          refine done_ (by kernel_rfl) ?_
          have hz := HZ2.out
          subst hz
          go_wp2_with fail
          have HGN := blk_drew (g_nil HG3.out)
          have HBN := (g_below (a := .slice none 0 0) (b := .slice none 0 0) (c := .slice none 0 0) (HB1.out.trans (HB3.out.mono (Nat.le_of_lt hGB)))).drew
          generalize (((w3.setCell ⟨w.heap.size, 0, none⟩ (.slice none 0 0)).setCell ⟨w.heap.size, 1, none⟩ (.slice none 0 0)).setCell ⟨w.heap.size, 2, none⟩ (.slice none 0 0)).drew = w9 at HGN HBN ⊢
          have z0 := blk_cell HGN 0
          have z1 := blk_cell HGN 1
          have z2 := blk_cell HGN 2
          refine bodyPost_ret (v := .tuple #[.agg #[.slice none 0 0, .slice none 0 0, .slice none 0 0], .int .i64 E']) (by simp [results, Tryz.results10, go_sem, z0, z1, z2]) rfl ?_
          exact ans_nil HBN
  · have h0b : (c != 0) = true := bne_iff_ne.2 h0
    have hz := HZ.out
    rw [if_neg h0] at hz
    subst hz
    go_enter Tryz.func10, Tryz.ntmps10
    go_wp2_with (first | (go_at_call 18; refine HL.out.mono ?_; rintro x w1 ⟨vl, rfl, hl, hb⟩; obtain ⟨Al, cl, rfl⟩ := Kd.R_slice hl; have HG1 := Aside0.mk (blk_below HGa.out hb); have HB1 := Aside0.mk (HA.out.trans (hb.mono (by omega))); have g0 := blk_cell HG1.out 0; have g1 := blk_cell HG1.out 1; have g2 := blk_cell HG1.out 2; have f0 := blk_frozen HG1.out 0; have f1 := blk_frozen HG1.out 1; have f2 := blk_frozen HG1.out 2; clear hl hb))
    have HGN := g_nil HG1.out
    have HBN := g_below (a := .slice none 0 0) (b := .slice none 0 0) (c := .slice none 0 0) HB1.out
    generalize ((w1.setCell ⟨w.heap.size, 0, none⟩ (.slice none 0 0)).setCell ⟨w.heap.size, 1, none⟩ (.slice none 0 0)).setCell ⟨w.heap.size, 2, none⟩ (.slice none 0 0) = w9 at HGN HBN ⊢
    have z0 := blk_cell HGN 0
    have z1 := blk_cell HGN 1
    have z2 := blk_cell HGN 2
    refine bodyPost_ret (v := .tuple #[.agg #[.slice none 0 0, .slice none 0 0, .slice none 0 0], .int .i64 800]) (by simp [results, Tryz.results10, go_sem, z0, z1, z2]) rfl ?_
    exact ans_nil HBN

def manifest_Parse.f (a0 : ByteArray) : Option (List S42 × List S44 × List ByteArray × Int) := if a0.size ≤ 9223372036854775807 then some (parseB a0) else none
theorem manifest_Parse.calls (a0 : ByteArray) (r1 : List S42) (r2 : List S44) (r3 : List ByteArray) (r4 : Int) (w : World) (h : manifest_Parse.f a0 = some (r1, r2, r3, r4)) :
    Calls Tryz.prog 10 #[.string a0] w fun e w' => ∃ v0_ v1_ v2_ : Value, e = .returned (.tuple #[.agg #[v0_, v1_, v2_], .int .i64 r4]) ∧ Kd.R k42 42 w' w.heap.size (fun k_ => some k_ ≠ (v2_ : Value).ownBlock) v0_ r1 ∧ Kd.R k44 44 w' w.heap.size (fun _ => True) v1_ r2 ∧ Kd.R Kd.string 9 w' w.heap.size (fun _ => True) v2_ r3 ∧ Below w.heap.size w w' := by
  unfold manifest_Parse.f at h
  split at h
  · rename_i hs
    have h2 := Option.some.inj h
    have hc := parse_calls a0 hs w
    rw [h2] at hc
    refine hc.mono ?_
    rintro e w1 ⟨v0, v1, v2, he, n1, n2, n3, hb⟩
    exact ⟨v0, v1, v2, he, Kd.R_mono n1 (fun k hk => hk.2), Kd.R_mono n2 (fun k hk => trivial), Kd.R_mono n3 (fun k hk => trivial), hb⟩
  · cases h
end Go.Proofs.YtefheailchihaaaGreatDoor.Print

end
section
namespace Go.Proofs.YtefheailchihaaaGreatDoor.Print
open Go.RowKit Go.Lib Go.Shelf Go.Proofs.YtefheailchihaaaGreatDoorW.PrintWords Go.Proofs.YtefheailchihaaaGreatDoorW.PrintLast Go.Proofs.YtefheailchihaaaGreatDoorW.PrintMore
set_option linter.unusedVariables false
set_option linter.unusedSimpArgs false
attribute [local go_sem ↓] Go.wp_at_zero Go.wp_at_succ

def wantE : List S42 := [⟨[⟨#[97, 46, 111]⟩], [⟨#[97, 46, 99]⟩], [⟨#[97, 46, 104]⟩], [], ⟨#[99, 99, 32, 45, 111, 50, 32, 97, 46, 99, 32, 45, 111, 32, 97, 46, 111, 32, 45, 103]⟩, true, ⟨#[116, 119, 111]⟩⟩, ⟨[⟨#[98, 46, 111]⟩], [⟨#[98, 46, 99]⟩], [], [⟨#[97, 46, 111]⟩], ⟨#[99, 99, 32, 45, 111, 50, 32, 98, 46, 99, 32, 45, 111, 32, 98, 46, 111, 32]⟩, true, ⟨#[116, 119, 111]⟩⟩]
def wantP : List S44 := [⟨⟨#[116, 119, 111]⟩, 2⟩]
def wantD : List ByteArray := [⟨#[98, 46, 111]⟩]
def badR : ByteArray := ⟨#[114, 117, 108, 101, 32, 99, 99, 10]⟩
def badB : ByteArray := ⟨#[98, 117, 105, 108, 100, 32, 97, 32, 58, 32, 99, 99, 32, 98, 10]⟩
theorem parse_text : parseB textB = (wantE, wantP, wantD, 0) := by kernel_rfl
theorem parse_badR : parseB badR = ([], [], [], 800) := by kernel_rfl
theorem parse_badB : parseB badB = ([], [], [], 800) := by kernel_rfl
theorem same_want : cruciblelaw0_SameGraph.f 100 wantE wantP wantD wantE wantP wantD = some true := by kernel_rfl

/-- Rows of one and of two, as they lie. -/
theorem C_one {α : Type} {d : Kd α} {w : World} {g t : Nat} {cells : Array Value} {x : α} {cs : List Value} (h : w.heap[g]? = some (.cells cells t (0, 0))) (hK : d.K w x cs) (hc : cells.toList = cs) : d.C w (some ⟨g, 0, none⟩) 1 [x] := by
  refine ⟨rfl, by omega, fun _ => ⟨_, rfl, fun j p hj => ?_⟩⟩
  cases j with
  | zero =>
    simp only [List.getElem?_cons_zero, Option.some.injEq] at hj
    subst hj
    refine ⟨cs, d.K_len hK, hK, fun i u hi => ?_⟩
    have h1 := blk_cell h i
    have h2 : (⟨g, 0, none⟩ : Addr).add (0 * d.sz + i) = ⟨g, i, none⟩ := by simp [Addr.add]; try omega
    rw [h2, h1, ← hi, ← hc, Array.getElem?_toList]
  | succ j => simp at hj
theorem C_two {α : Type} {d : Kd α} {w : World} {g t : Nat} {cells : Array Value} {x y : α} {c1 c2 : List Value} (h : w.heap[g]? = some (.cells cells t (0, 0))) (hK1 : d.K w x c1) (hK2 : d.K w y c2) (hc : cells.toList = c1 ++ c2) : d.C w (some ⟨g, 0, none⟩) 2 [x, y] := by
  refine ⟨rfl, by omega, fun _ => ⟨_, rfl, fun j p hj => ?_⟩⟩
  have l1 := d.K_len hK1
  have l2 := d.K_len hK2
  match j, hj with
  | 0, hj =>
    simp only [List.getElem?_cons_zero, Option.some.injEq] at hj
    subst hj
    refine ⟨c1, l1, hK1, fun i u hi => ?_⟩
    have h1 := blk_cell h i
    have h2 : (⟨g, 0, none⟩ : Addr).add (0 * d.sz + i) = ⟨g, i, none⟩ := by simp [Addr.add]; try omega
    have h3 : i < c1.length := (List.getElem?_eq_some_iff.1 hi).1
    rw [h2, h1, ← Array.getElem?_toList, hc, List.getElem?_append_left h3]
    exact hi
  | 1, hj =>
    simp only [List.getElem?_cons_succ, List.getElem?_cons_zero, Option.some.injEq] at hj
    subst hj
    refine ⟨c2, l2, hK2, fun i u hi => ?_⟩
    have h1 := blk_cell h (d.sz + i)
    have h2 : (⟨g, 0, none⟩ : Addr).add (1 * d.sz + i) = ⟨g, d.sz + i, none⟩ := by simp [Addr.add]; try omega
    rw [h2, h1, ← Array.getElem?_toList, hc, List.getElem?_append_right (by omega)]
    rw [show d.sz + i - c1.length = i from by omega]
    exact hi
  | j + 2, hj => simp at hj

set_option maxHeartbeats 4000000 in
set_option maxRecDepth 100000 in
theorem awake_calls (w : World) : Calls Tryz.prog 15 #[] w fun e w' => e = .returned (.bool true) ∧ Below w.heap.size w w' := by
  have HT := Lib.hid (fun W => cruciblelaw8_text.calls textB W rfl)
  have H1 := Lib.hid (fun W => manifest_Parse.calls textB wantE wantP wantD 0 W (by unfold manifest_Parse.f; rw [if_pos (by decide), parse_text]))
  have H2 := Lib.hid (fun W => manifest_Parse.calls badR [] [] [] 800 W (by unfold manifest_Parse.f; rw [if_pos (by decide), parse_badR]))
  have H3 := Lib.hid (fun W => manifest_Parse.calls badB [] [] [] 800 W (by unfold manifest_Parse.f; rw [if_pos (by decide), parse_badB]))
  obtain ⟨T, hT⟩ : ∃ T, textB = T := ⟨_, rfl⟩
  obtain ⟨wE, hE⟩ : ∃ q, wantE = q := ⟨_, rfl⟩
  obtain ⟨wP, hP⟩ : ∃ q, wantP = q := ⟨_, rfl⟩
  obtain ⟨wD, hD⟩ : ∃ q, wantD = q := ⟨_, rfl⟩
  rw [hT] at HT H1
  rw [hE, hP, hD] at H1
  have HE := Lib.hid hE
  have HP := Lib.hid hP
  have HD := Lib.hid hD
  clear hT hE hP hD
  go_enter Tryz.func15, Tryz.ntmps15
  go_upto_region 5 with (first | (go_at_call 16; refine (HT.out _).mono ?_; rintro x w1 ⟨rfl, hd⟩; have HB1 := Aside0.mk hd.below; clear hd) | (go_at_call_of 10 (Value.string T); refine (H1.out _).mono ?_; rintro x w2 ⟨v0, v1, v2, rfl, r0, r1, r2, hb⟩; obtain ⟨A0, c0, rfl, l0, C0⟩ := Kd.R_reads r0; obtain ⟨A1, c1, rfl, l1, C1⟩ := Kd.R_reads r1; obtain ⟨A2, c2, rfl, l2, C2⟩ := Kd.R_reads r2; have HB2 := Aside0.mk (HB1.out.trans (hb.mono HB1.out.size)); have HC0 := Aside0.mk C0; have HC1 := Aside0.mk C1; have HC2 := Aside0.mk C2; clear r0 r1 r2 C0 C1 C2 hb) | (go_at_call_of 10 (Value.string ⟨#[114, 117, 108, 101, 32, 99, 99, 10]⟩); refine (H2.out _).mono ?_; rintro x w3 ⟨u0, u1, u2, rfl, r0, r1, r2, hb⟩; obtain ⟨D0, d0, rfl⟩ := Kd.R_slice r0; obtain ⟨D1, d1, rfl⟩ := Kd.R_slice r1; obtain ⟨D2, d2, rfl⟩ := Kd.R_slice r2; have hal := (Below.refl w2.heap.size w2).alloc (Nat.le_refl _) (.cells #[.slice A0 wE.length c0, .slice A1 wP.length c1, .slice A2 wD.length c2] 26); have HB3 := Aside0.mk (HB2.out.trans ((hal.mono HB2.out.size).trans (hb.mono (Nat.le_trans HB2.out.size hal.size)))); have BT3 := Aside0.mk (blk_below (blk_new w2 (.cells #[.slice A0 wE.length c0, .slice A1 wP.length c1, .slice A2 wD.length c2] 26)) hb); have HC03 := Aside0.mk (Kd.C_below (Kd.C_below HC0.out hal) hb); have HC13 := Aside0.mk (Kd.C_below (Kd.C_below HC1.out hal) hb); have HC23 := Aside0.mk (Kd.C_below (Kd.C_below HC2.out hal) hb); clear r0 r1 r2 hal hb HC0 HC1 HC2) | (go_at_call_of 10 (Value.string ⟨#[98, 117, 105, 108, 100, 32, 97, 32, 58, 32, 99, 99, 32, 98, 10]⟩); refine (H3.out _).mono ?_; rintro x w4 ⟨u0, u1, u2, rfl, r0, r1, r2, hb⟩; obtain ⟨F0, f0, rfl⟩ := Kd.R_slice r0; obtain ⟨F1, f1, rfl⟩ := Kd.R_slice r1; obtain ⟨F2, f2, rfl⟩ := Kd.R_slice r2; have hal := (Below.refl w3.heap.size w3).alloc (Nat.le_refl _) (.cells #[.slice D0 0 d0, .slice D1 0 d1, .slice D2 0 d2] 26); have HB4 := Aside0.mk (HB3.out.trans ((hal.mono HB3.out.size).trans (hb.mono (Nat.le_trans HB3.out.size hal.size)))); have BT4 := Aside0.mk (blk_below (blk_below BT3.out hal) hb); have HC04 := Aside0.mk (Kd.C_below (Kd.C_below HC03.out hal) hb); have HC14 := Aside0.mk (Kd.C_below (Kd.C_below HC13.out hal) hb); have HC24 := Aside0.mk (Kd.C_below (Kd.C_below HC23.out hal) hb); clear r0 r1 r2 hal hb HC03 HC13 HC23 BT3))
  obtain ⟨b, hb⟩ : ∃ b, w4.heap.size = b := ⟨_, rfl⟩
  rw [hb]
  have hb4 : w4.heap.size = b := hb
  have k0 : Aside0 ((w4.alloc (.cells #[.slice F0 0 f0, .slice F1 0 f1, .slice F2 0 f2] 26)).heap[b]? = some (.cells #[.slice F0 0 f0, .slice F1 0 f1, .slice F2 0 f2] 26)) := ⟨by have := blk_new w4 (.cells #[.slice F0 0 f0, .slice F1 0 f1, .slice F2 0 f2] 26); rwa [hb] at this⟩
  have s0 : (w4.alloc (.cells #[.slice F0 0 f0, .slice F1 0 f1, .slice F2 0 f2] 26)).heap.size = b + 1 := by simp [hb]
  replace HB4 := Aside0.mk (below_alloc HB4.out (.cells #[.slice F0 0 f0, .slice F1 0 f1, .slice F2 0 f2] 26))
  replace BT4 := Aside0.mk (blk_alloc BT4.out (.cells #[.slice F0 0 f0, .slice F1 0 f1, .slice F2 0 f2] 26))
  replace HC04 := Aside0.mk (Kd.C_alloc HC04.out (.cells #[.slice F0 0 f0, .slice F1 0 f1, .slice F2 0 f2] 26))
  replace HC14 := Aside0.mk (Kd.C_alloc HC14.out (.cells #[.slice F0 0 f0, .slice F1 0 f1, .slice F2 0 f2] 26))
  replace HC24 := Aside0.mk (Kd.C_alloc HC24.out (.cells #[.slice F0 0 f0, .slice F1 0 f1, .slice F2 0 f2] 26))
  clear k0
  generalize w4.alloc (.cells #[.slice F0 0 f0, .slice F1 0 f1, .slice F2 0 f2] 26) = u0 at s0 HB4 BT4 HC04 HC14 HC24 ⊢
  have k1 : Aside0 ((u0.alloc (.cells #[.string ⟨#[97, 46, 111]⟩] 9)).heap[b + 1]? = some (.cells #[.string ⟨#[97, 46, 111]⟩] 9)) := ⟨by have := blk_new u0 (.cells #[.string ⟨#[97, 46, 111]⟩] 9); rwa [s0] at this⟩
  have s1 : (u0.alloc (.cells #[.string ⟨#[97, 46, 111]⟩] 9)).heap.size = b + 1 + 1 := by simp [s0]
  replace HB4 := Aside0.mk (below_alloc HB4.out (.cells #[.string ⟨#[97, 46, 111]⟩] 9))
  replace BT4 := Aside0.mk (blk_alloc BT4.out (.cells #[.string ⟨#[97, 46, 111]⟩] 9))
  replace HC04 := Aside0.mk (Kd.C_alloc HC04.out (.cells #[.string ⟨#[97, 46, 111]⟩] 9))
  replace HC14 := Aside0.mk (Kd.C_alloc HC14.out (.cells #[.string ⟨#[97, 46, 111]⟩] 9))
  replace HC24 := Aside0.mk (Kd.C_alloc HC24.out (.cells #[.string ⟨#[97, 46, 111]⟩] 9))
  generalize u0.alloc (.cells #[.string ⟨#[97, 46, 111]⟩] 9) = u1 at k1 s1 HB4 BT4 HC04 HC14 HC24 ⊢
  have k2 : Aside0 ((u1.alloc (.cells #[.string ⟨#[97, 46, 99]⟩] 9)).heap[b + 1 + 1]? = some (.cells #[.string ⟨#[97, 46, 99]⟩] 9)) := ⟨by have := blk_new u1 (.cells #[.string ⟨#[97, 46, 99]⟩] 9); rwa [s1] at this⟩
  have s2 : (u1.alloc (.cells #[.string ⟨#[97, 46, 99]⟩] 9)).heap.size = b + 1 + 1 + 1 := by simp [s1]
  replace k1 := Aside0.mk (blk_alloc k1.out (.cells #[.string ⟨#[97, 46, 99]⟩] 9))
  replace HB4 := Aside0.mk (below_alloc HB4.out (.cells #[.string ⟨#[97, 46, 99]⟩] 9))
  replace BT4 := Aside0.mk (blk_alloc BT4.out (.cells #[.string ⟨#[97, 46, 99]⟩] 9))
  replace HC04 := Aside0.mk (Kd.C_alloc HC04.out (.cells #[.string ⟨#[97, 46, 99]⟩] 9))
  replace HC14 := Aside0.mk (Kd.C_alloc HC14.out (.cells #[.string ⟨#[97, 46, 99]⟩] 9))
  replace HC24 := Aside0.mk (Kd.C_alloc HC24.out (.cells #[.string ⟨#[97, 46, 99]⟩] 9))
  generalize u1.alloc (.cells #[.string ⟨#[97, 46, 99]⟩] 9) = u2 at k1 k2 s2 HB4 BT4 HC04 HC14 HC24 ⊢
  have k3 : Aside0 ((u2.alloc (.cells #[.string ⟨#[97, 46, 104]⟩] 9)).heap[b + 1 + 1 + 1]? = some (.cells #[.string ⟨#[97, 46, 104]⟩] 9)) := ⟨by have := blk_new u2 (.cells #[.string ⟨#[97, 46, 104]⟩] 9); rwa [s2] at this⟩
  have s3 : (u2.alloc (.cells #[.string ⟨#[97, 46, 104]⟩] 9)).heap.size = b + 1 + 1 + 1 + 1 := by simp [s2]
  replace k1 := Aside0.mk (blk_alloc k1.out (.cells #[.string ⟨#[97, 46, 104]⟩] 9))
  replace k2 := Aside0.mk (blk_alloc k2.out (.cells #[.string ⟨#[97, 46, 104]⟩] 9))
  replace HB4 := Aside0.mk (below_alloc HB4.out (.cells #[.string ⟨#[97, 46, 104]⟩] 9))
  replace BT4 := Aside0.mk (blk_alloc BT4.out (.cells #[.string ⟨#[97, 46, 104]⟩] 9))
  replace HC04 := Aside0.mk (Kd.C_alloc HC04.out (.cells #[.string ⟨#[97, 46, 104]⟩] 9))
  replace HC14 := Aside0.mk (Kd.C_alloc HC14.out (.cells #[.string ⟨#[97, 46, 104]⟩] 9))
  replace HC24 := Aside0.mk (Kd.C_alloc HC24.out (.cells #[.string ⟨#[97, 46, 104]⟩] 9))
  generalize u2.alloc (.cells #[.string ⟨#[97, 46, 104]⟩] 9) = u3 at k1 k2 k3 s3 HB4 BT4 HC04 HC14 HC24 ⊢
  have k4 : Aside0 ((u3.alloc (.cells #[.string ⟨#[98, 46, 111]⟩] 9)).heap[b + 1 + 1 + 1 + 1]? = some (.cells #[.string ⟨#[98, 46, 111]⟩] 9)) := ⟨by have := blk_new u3 (.cells #[.string ⟨#[98, 46, 111]⟩] 9); rwa [s3] at this⟩
  have s4 : (u3.alloc (.cells #[.string ⟨#[98, 46, 111]⟩] 9)).heap.size = b + 1 + 1 + 1 + 1 + 1 := by simp [s3]
  replace k1 := Aside0.mk (blk_alloc k1.out (.cells #[.string ⟨#[98, 46, 111]⟩] 9))
  replace k2 := Aside0.mk (blk_alloc k2.out (.cells #[.string ⟨#[98, 46, 111]⟩] 9))
  replace k3 := Aside0.mk (blk_alloc k3.out (.cells #[.string ⟨#[98, 46, 111]⟩] 9))
  replace HB4 := Aside0.mk (below_alloc HB4.out (.cells #[.string ⟨#[98, 46, 111]⟩] 9))
  replace BT4 := Aside0.mk (blk_alloc BT4.out (.cells #[.string ⟨#[98, 46, 111]⟩] 9))
  replace HC04 := Aside0.mk (Kd.C_alloc HC04.out (.cells #[.string ⟨#[98, 46, 111]⟩] 9))
  replace HC14 := Aside0.mk (Kd.C_alloc HC14.out (.cells #[.string ⟨#[98, 46, 111]⟩] 9))
  replace HC24 := Aside0.mk (Kd.C_alloc HC24.out (.cells #[.string ⟨#[98, 46, 111]⟩] 9))
  generalize u3.alloc (.cells #[.string ⟨#[98, 46, 111]⟩] 9) = u4 at k1 k2 k3 k4 s4 HB4 BT4 HC04 HC14 HC24 ⊢
  have k5 : Aside0 ((u4.alloc (.cells #[.string ⟨#[98, 46, 99]⟩] 9)).heap[b + 1 + 1 + 1 + 1 + 1]? = some (.cells #[.string ⟨#[98, 46, 99]⟩] 9)) := ⟨by have := blk_new u4 (.cells #[.string ⟨#[98, 46, 99]⟩] 9); rwa [s4] at this⟩
  have s5 : (u4.alloc (.cells #[.string ⟨#[98, 46, 99]⟩] 9)).heap.size = b + 1 + 1 + 1 + 1 + 1 + 1 := by simp [s4]
  replace k1 := Aside0.mk (blk_alloc k1.out (.cells #[.string ⟨#[98, 46, 99]⟩] 9))
  replace k2 := Aside0.mk (blk_alloc k2.out (.cells #[.string ⟨#[98, 46, 99]⟩] 9))
  replace k3 := Aside0.mk (blk_alloc k3.out (.cells #[.string ⟨#[98, 46, 99]⟩] 9))
  replace k4 := Aside0.mk (blk_alloc k4.out (.cells #[.string ⟨#[98, 46, 99]⟩] 9))
  replace HB4 := Aside0.mk (below_alloc HB4.out (.cells #[.string ⟨#[98, 46, 99]⟩] 9))
  replace BT4 := Aside0.mk (blk_alloc BT4.out (.cells #[.string ⟨#[98, 46, 99]⟩] 9))
  replace HC04 := Aside0.mk (Kd.C_alloc HC04.out (.cells #[.string ⟨#[98, 46, 99]⟩] 9))
  replace HC14 := Aside0.mk (Kd.C_alloc HC14.out (.cells #[.string ⟨#[98, 46, 99]⟩] 9))
  replace HC24 := Aside0.mk (Kd.C_alloc HC24.out (.cells #[.string ⟨#[98, 46, 99]⟩] 9))
  generalize u4.alloc (.cells #[.string ⟨#[98, 46, 99]⟩] 9) = u5 at k1 k2 k3 k4 k5 s5 HB4 BT4 HC04 HC14 HC24 ⊢
  have k6 : Aside0 ((u5.alloc (.cells #[.string ⟨#[97, 46, 111]⟩] 9)).heap[b + 1 + 1 + 1 + 1 + 1 + 1]? = some (.cells #[.string ⟨#[97, 46, 111]⟩] 9)) := ⟨by have := blk_new u5 (.cells #[.string ⟨#[97, 46, 111]⟩] 9); rwa [s5] at this⟩
  have s6 : (u5.alloc (.cells #[.string ⟨#[97, 46, 111]⟩] 9)).heap.size = b + 1 + 1 + 1 + 1 + 1 + 1 + 1 := by simp [s5]
  replace k1 := Aside0.mk (blk_alloc k1.out (.cells #[.string ⟨#[97, 46, 111]⟩] 9))
  replace k2 := Aside0.mk (blk_alloc k2.out (.cells #[.string ⟨#[97, 46, 111]⟩] 9))
  replace k3 := Aside0.mk (blk_alloc k3.out (.cells #[.string ⟨#[97, 46, 111]⟩] 9))
  replace k4 := Aside0.mk (blk_alloc k4.out (.cells #[.string ⟨#[97, 46, 111]⟩] 9))
  replace k5 := Aside0.mk (blk_alloc k5.out (.cells #[.string ⟨#[97, 46, 111]⟩] 9))
  replace HB4 := Aside0.mk (below_alloc HB4.out (.cells #[.string ⟨#[97, 46, 111]⟩] 9))
  replace BT4 := Aside0.mk (blk_alloc BT4.out (.cells #[.string ⟨#[97, 46, 111]⟩] 9))
  replace HC04 := Aside0.mk (Kd.C_alloc HC04.out (.cells #[.string ⟨#[97, 46, 111]⟩] 9))
  replace HC14 := Aside0.mk (Kd.C_alloc HC14.out (.cells #[.string ⟨#[97, 46, 111]⟩] 9))
  replace HC24 := Aside0.mk (Kd.C_alloc HC24.out (.cells #[.string ⟨#[97, 46, 111]⟩] 9))
  generalize u5.alloc (.cells #[.string ⟨#[97, 46, 111]⟩] 9) = u6 at k1 k2 k3 k4 k5 k6 s6 HB4 BT4 HC04 HC14 HC24 ⊢
  have k7 : Aside0 ((u6.alloc (.cells #[.slice (some ⟨b + 1, 0, none⟩) 1 1, .slice (some ⟨b + 1 + 1, 0, none⟩) 1 1, .slice (some ⟨b + 1 + 1 + 1, 0, none⟩) 1 1, .slice none 0 0, .string ⟨#[99, 99, 32, 45, 111, 50, 32, 97, 46, 99, 32, 45, 111, 32, 97, 46, 111, 32, 45, 103]⟩, .bool true, .string ⟨#[116, 119, 111]⟩, .slice (some ⟨b + 1 + 1 + 1 + 1, 0, none⟩) 1 1, .slice (some ⟨b + 1 + 1 + 1 + 1 + 1, 0, none⟩) 1 1, .slice none 0 0, .slice (some ⟨b + 1 + 1 + 1 + 1 + 1 + 1, 0, none⟩) 1 1, .string ⟨#[99, 99, 32, 45, 111, 50, 32, 98, 46, 99, 32, 45, 111, 32, 98, 46, 111, 32]⟩, .bool true, .string ⟨#[116, 119, 111]⟩] 42)).heap[b + 1 + 1 + 1 + 1 + 1 + 1 + 1]? = some (.cells #[.slice (some ⟨b + 1, 0, none⟩) 1 1, .slice (some ⟨b + 1 + 1, 0, none⟩) 1 1, .slice (some ⟨b + 1 + 1 + 1, 0, none⟩) 1 1, .slice none 0 0, .string ⟨#[99, 99, 32, 45, 111, 50, 32, 97, 46, 99, 32, 45, 111, 32, 97, 46, 111, 32, 45, 103]⟩, .bool true, .string ⟨#[116, 119, 111]⟩, .slice (some ⟨b + 1 + 1 + 1 + 1, 0, none⟩) 1 1, .slice (some ⟨b + 1 + 1 + 1 + 1 + 1, 0, none⟩) 1 1, .slice none 0 0, .slice (some ⟨b + 1 + 1 + 1 + 1 + 1 + 1, 0, none⟩) 1 1, .string ⟨#[99, 99, 32, 45, 111, 50, 32, 98, 46, 99, 32, 45, 111, 32, 98, 46, 111, 32]⟩, .bool true, .string ⟨#[116, 119, 111]⟩] 42)) := ⟨by have := blk_new u6 (.cells #[.slice (some ⟨b + 1, 0, none⟩) 1 1, .slice (some ⟨b + 1 + 1, 0, none⟩) 1 1, .slice (some ⟨b + 1 + 1 + 1, 0, none⟩) 1 1, .slice none 0 0, .string ⟨#[99, 99, 32, 45, 111, 50, 32, 97, 46, 99, 32, 45, 111, 32, 97, 46, 111, 32, 45, 103]⟩, .bool true, .string ⟨#[116, 119, 111]⟩, .slice (some ⟨b + 1 + 1 + 1 + 1, 0, none⟩) 1 1, .slice (some ⟨b + 1 + 1 + 1 + 1 + 1, 0, none⟩) 1 1, .slice none 0 0, .slice (some ⟨b + 1 + 1 + 1 + 1 + 1 + 1, 0, none⟩) 1 1, .string ⟨#[99, 99, 32, 45, 111, 50, 32, 98, 46, 99, 32, 45, 111, 32, 98, 46, 111, 32]⟩, .bool true, .string ⟨#[116, 119, 111]⟩] 42); rwa [s6] at this⟩
  have s7 : (u6.alloc (.cells #[.slice (some ⟨b + 1, 0, none⟩) 1 1, .slice (some ⟨b + 1 + 1, 0, none⟩) 1 1, .slice (some ⟨b + 1 + 1 + 1, 0, none⟩) 1 1, .slice none 0 0, .string ⟨#[99, 99, 32, 45, 111, 50, 32, 97, 46, 99, 32, 45, 111, 32, 97, 46, 111, 32, 45, 103]⟩, .bool true, .string ⟨#[116, 119, 111]⟩, .slice (some ⟨b + 1 + 1 + 1 + 1, 0, none⟩) 1 1, .slice (some ⟨b + 1 + 1 + 1 + 1 + 1, 0, none⟩) 1 1, .slice none 0 0, .slice (some ⟨b + 1 + 1 + 1 + 1 + 1 + 1, 0, none⟩) 1 1, .string ⟨#[99, 99, 32, 45, 111, 50, 32, 98, 46, 99, 32, 45, 111, 32, 98, 46, 111, 32]⟩, .bool true, .string ⟨#[116, 119, 111]⟩] 42)).heap.size = b + 1 + 1 + 1 + 1 + 1 + 1 + 1 + 1 := by simp [s6]
  replace k1 := Aside0.mk (blk_alloc k1.out (.cells #[.slice (some ⟨b + 1, 0, none⟩) 1 1, .slice (some ⟨b + 1 + 1, 0, none⟩) 1 1, .slice (some ⟨b + 1 + 1 + 1, 0, none⟩) 1 1, .slice none 0 0, .string ⟨#[99, 99, 32, 45, 111, 50, 32, 97, 46, 99, 32, 45, 111, 32, 97, 46, 111, 32, 45, 103]⟩, .bool true, .string ⟨#[116, 119, 111]⟩, .slice (some ⟨b + 1 + 1 + 1 + 1, 0, none⟩) 1 1, .slice (some ⟨b + 1 + 1 + 1 + 1 + 1, 0, none⟩) 1 1, .slice none 0 0, .slice (some ⟨b + 1 + 1 + 1 + 1 + 1 + 1, 0, none⟩) 1 1, .string ⟨#[99, 99, 32, 45, 111, 50, 32, 98, 46, 99, 32, 45, 111, 32, 98, 46, 111, 32]⟩, .bool true, .string ⟨#[116, 119, 111]⟩] 42))
  replace k2 := Aside0.mk (blk_alloc k2.out (.cells #[.slice (some ⟨b + 1, 0, none⟩) 1 1, .slice (some ⟨b + 1 + 1, 0, none⟩) 1 1, .slice (some ⟨b + 1 + 1 + 1, 0, none⟩) 1 1, .slice none 0 0, .string ⟨#[99, 99, 32, 45, 111, 50, 32, 97, 46, 99, 32, 45, 111, 32, 97, 46, 111, 32, 45, 103]⟩, .bool true, .string ⟨#[116, 119, 111]⟩, .slice (some ⟨b + 1 + 1 + 1 + 1, 0, none⟩) 1 1, .slice (some ⟨b + 1 + 1 + 1 + 1 + 1, 0, none⟩) 1 1, .slice none 0 0, .slice (some ⟨b + 1 + 1 + 1 + 1 + 1 + 1, 0, none⟩) 1 1, .string ⟨#[99, 99, 32, 45, 111, 50, 32, 98, 46, 99, 32, 45, 111, 32, 98, 46, 111, 32]⟩, .bool true, .string ⟨#[116, 119, 111]⟩] 42))
  replace k3 := Aside0.mk (blk_alloc k3.out (.cells #[.slice (some ⟨b + 1, 0, none⟩) 1 1, .slice (some ⟨b + 1 + 1, 0, none⟩) 1 1, .slice (some ⟨b + 1 + 1 + 1, 0, none⟩) 1 1, .slice none 0 0, .string ⟨#[99, 99, 32, 45, 111, 50, 32, 97, 46, 99, 32, 45, 111, 32, 97, 46, 111, 32, 45, 103]⟩, .bool true, .string ⟨#[116, 119, 111]⟩, .slice (some ⟨b + 1 + 1 + 1 + 1, 0, none⟩) 1 1, .slice (some ⟨b + 1 + 1 + 1 + 1 + 1, 0, none⟩) 1 1, .slice none 0 0, .slice (some ⟨b + 1 + 1 + 1 + 1 + 1 + 1, 0, none⟩) 1 1, .string ⟨#[99, 99, 32, 45, 111, 50, 32, 98, 46, 99, 32, 45, 111, 32, 98, 46, 111, 32]⟩, .bool true, .string ⟨#[116, 119, 111]⟩] 42))
  replace k4 := Aside0.mk (blk_alloc k4.out (.cells #[.slice (some ⟨b + 1, 0, none⟩) 1 1, .slice (some ⟨b + 1 + 1, 0, none⟩) 1 1, .slice (some ⟨b + 1 + 1 + 1, 0, none⟩) 1 1, .slice none 0 0, .string ⟨#[99, 99, 32, 45, 111, 50, 32, 97, 46, 99, 32, 45, 111, 32, 97, 46, 111, 32, 45, 103]⟩, .bool true, .string ⟨#[116, 119, 111]⟩, .slice (some ⟨b + 1 + 1 + 1 + 1, 0, none⟩) 1 1, .slice (some ⟨b + 1 + 1 + 1 + 1 + 1, 0, none⟩) 1 1, .slice none 0 0, .slice (some ⟨b + 1 + 1 + 1 + 1 + 1 + 1, 0, none⟩) 1 1, .string ⟨#[99, 99, 32, 45, 111, 50, 32, 98, 46, 99, 32, 45, 111, 32, 98, 46, 111, 32]⟩, .bool true, .string ⟨#[116, 119, 111]⟩] 42))
  replace k5 := Aside0.mk (blk_alloc k5.out (.cells #[.slice (some ⟨b + 1, 0, none⟩) 1 1, .slice (some ⟨b + 1 + 1, 0, none⟩) 1 1, .slice (some ⟨b + 1 + 1 + 1, 0, none⟩) 1 1, .slice none 0 0, .string ⟨#[99, 99, 32, 45, 111, 50, 32, 97, 46, 99, 32, 45, 111, 32, 97, 46, 111, 32, 45, 103]⟩, .bool true, .string ⟨#[116, 119, 111]⟩, .slice (some ⟨b + 1 + 1 + 1 + 1, 0, none⟩) 1 1, .slice (some ⟨b + 1 + 1 + 1 + 1 + 1, 0, none⟩) 1 1, .slice none 0 0, .slice (some ⟨b + 1 + 1 + 1 + 1 + 1 + 1, 0, none⟩) 1 1, .string ⟨#[99, 99, 32, 45, 111, 50, 32, 98, 46, 99, 32, 45, 111, 32, 98, 46, 111, 32]⟩, .bool true, .string ⟨#[116, 119, 111]⟩] 42))
  replace k6 := Aside0.mk (blk_alloc k6.out (.cells #[.slice (some ⟨b + 1, 0, none⟩) 1 1, .slice (some ⟨b + 1 + 1, 0, none⟩) 1 1, .slice (some ⟨b + 1 + 1 + 1, 0, none⟩) 1 1, .slice none 0 0, .string ⟨#[99, 99, 32, 45, 111, 50, 32, 97, 46, 99, 32, 45, 111, 32, 97, 46, 111, 32, 45, 103]⟩, .bool true, .string ⟨#[116, 119, 111]⟩, .slice (some ⟨b + 1 + 1 + 1 + 1, 0, none⟩) 1 1, .slice (some ⟨b + 1 + 1 + 1 + 1 + 1, 0, none⟩) 1 1, .slice none 0 0, .slice (some ⟨b + 1 + 1 + 1 + 1 + 1 + 1, 0, none⟩) 1 1, .string ⟨#[99, 99, 32, 45, 111, 50, 32, 98, 46, 99, 32, 45, 111, 32, 98, 46, 111, 32]⟩, .bool true, .string ⟨#[116, 119, 111]⟩] 42))
  replace HB4 := Aside0.mk (below_alloc HB4.out (.cells #[.slice (some ⟨b + 1, 0, none⟩) 1 1, .slice (some ⟨b + 1 + 1, 0, none⟩) 1 1, .slice (some ⟨b + 1 + 1 + 1, 0, none⟩) 1 1, .slice none 0 0, .string ⟨#[99, 99, 32, 45, 111, 50, 32, 97, 46, 99, 32, 45, 111, 32, 97, 46, 111, 32, 45, 103]⟩, .bool true, .string ⟨#[116, 119, 111]⟩, .slice (some ⟨b + 1 + 1 + 1 + 1, 0, none⟩) 1 1, .slice (some ⟨b + 1 + 1 + 1 + 1 + 1, 0, none⟩) 1 1, .slice none 0 0, .slice (some ⟨b + 1 + 1 + 1 + 1 + 1 + 1, 0, none⟩) 1 1, .string ⟨#[99, 99, 32, 45, 111, 50, 32, 98, 46, 99, 32, 45, 111, 32, 98, 46, 111, 32]⟩, .bool true, .string ⟨#[116, 119, 111]⟩] 42))
  replace BT4 := Aside0.mk (blk_alloc BT4.out (.cells #[.slice (some ⟨b + 1, 0, none⟩) 1 1, .slice (some ⟨b + 1 + 1, 0, none⟩) 1 1, .slice (some ⟨b + 1 + 1 + 1, 0, none⟩) 1 1, .slice none 0 0, .string ⟨#[99, 99, 32, 45, 111, 50, 32, 97, 46, 99, 32, 45, 111, 32, 97, 46, 111, 32, 45, 103]⟩, .bool true, .string ⟨#[116, 119, 111]⟩, .slice (some ⟨b + 1 + 1 + 1 + 1, 0, none⟩) 1 1, .slice (some ⟨b + 1 + 1 + 1 + 1 + 1, 0, none⟩) 1 1, .slice none 0 0, .slice (some ⟨b + 1 + 1 + 1 + 1 + 1 + 1, 0, none⟩) 1 1, .string ⟨#[99, 99, 32, 45, 111, 50, 32, 98, 46, 99, 32, 45, 111, 32, 98, 46, 111, 32]⟩, .bool true, .string ⟨#[116, 119, 111]⟩] 42))
  replace HC04 := Aside0.mk (Kd.C_alloc HC04.out (.cells #[.slice (some ⟨b + 1, 0, none⟩) 1 1, .slice (some ⟨b + 1 + 1, 0, none⟩) 1 1, .slice (some ⟨b + 1 + 1 + 1, 0, none⟩) 1 1, .slice none 0 0, .string ⟨#[99, 99, 32, 45, 111, 50, 32, 97, 46, 99, 32, 45, 111, 32, 97, 46, 111, 32, 45, 103]⟩, .bool true, .string ⟨#[116, 119, 111]⟩, .slice (some ⟨b + 1 + 1 + 1 + 1, 0, none⟩) 1 1, .slice (some ⟨b + 1 + 1 + 1 + 1 + 1, 0, none⟩) 1 1, .slice none 0 0, .slice (some ⟨b + 1 + 1 + 1 + 1 + 1 + 1, 0, none⟩) 1 1, .string ⟨#[99, 99, 32, 45, 111, 50, 32, 98, 46, 99, 32, 45, 111, 32, 98, 46, 111, 32]⟩, .bool true, .string ⟨#[116, 119, 111]⟩] 42))
  replace HC14 := Aside0.mk (Kd.C_alloc HC14.out (.cells #[.slice (some ⟨b + 1, 0, none⟩) 1 1, .slice (some ⟨b + 1 + 1, 0, none⟩) 1 1, .slice (some ⟨b + 1 + 1 + 1, 0, none⟩) 1 1, .slice none 0 0, .string ⟨#[99, 99, 32, 45, 111, 50, 32, 97, 46, 99, 32, 45, 111, 32, 97, 46, 111, 32, 45, 103]⟩, .bool true, .string ⟨#[116, 119, 111]⟩, .slice (some ⟨b + 1 + 1 + 1 + 1, 0, none⟩) 1 1, .slice (some ⟨b + 1 + 1 + 1 + 1 + 1, 0, none⟩) 1 1, .slice none 0 0, .slice (some ⟨b + 1 + 1 + 1 + 1 + 1 + 1, 0, none⟩) 1 1, .string ⟨#[99, 99, 32, 45, 111, 50, 32, 98, 46, 99, 32, 45, 111, 32, 98, 46, 111, 32]⟩, .bool true, .string ⟨#[116, 119, 111]⟩] 42))
  replace HC24 := Aside0.mk (Kd.C_alloc HC24.out (.cells #[.slice (some ⟨b + 1, 0, none⟩) 1 1, .slice (some ⟨b + 1 + 1, 0, none⟩) 1 1, .slice (some ⟨b + 1 + 1 + 1, 0, none⟩) 1 1, .slice none 0 0, .string ⟨#[99, 99, 32, 45, 111, 50, 32, 97, 46, 99, 32, 45, 111, 32, 97, 46, 111, 32, 45, 103]⟩, .bool true, .string ⟨#[116, 119, 111]⟩, .slice (some ⟨b + 1 + 1 + 1 + 1, 0, none⟩) 1 1, .slice (some ⟨b + 1 + 1 + 1 + 1 + 1, 0, none⟩) 1 1, .slice none 0 0, .slice (some ⟨b + 1 + 1 + 1 + 1 + 1 + 1, 0, none⟩) 1 1, .string ⟨#[99, 99, 32, 45, 111, 50, 32, 98, 46, 99, 32, 45, 111, 32, 98, 46, 111, 32]⟩, .bool true, .string ⟨#[116, 119, 111]⟩] 42))
  generalize u6.alloc (.cells #[.slice (some ⟨b + 1, 0, none⟩) 1 1, .slice (some ⟨b + 1 + 1, 0, none⟩) 1 1, .slice (some ⟨b + 1 + 1 + 1, 0, none⟩) 1 1, .slice none 0 0, .string ⟨#[99, 99, 32, 45, 111, 50, 32, 97, 46, 99, 32, 45, 111, 32, 97, 46, 111, 32, 45, 103]⟩, .bool true, .string ⟨#[116, 119, 111]⟩, .slice (some ⟨b + 1 + 1 + 1 + 1, 0, none⟩) 1 1, .slice (some ⟨b + 1 + 1 + 1 + 1 + 1, 0, none⟩) 1 1, .slice none 0 0, .slice (some ⟨b + 1 + 1 + 1 + 1 + 1 + 1, 0, none⟩) 1 1, .string ⟨#[99, 99, 32, 45, 111, 50, 32, 98, 46, 99, 32, 45, 111, 32, 98, 46, 111, 32]⟩, .bool true, .string ⟨#[116, 119, 111]⟩] 42) = u7 at k1 k2 k3 k4 k5 k6 k7 s7 HB4 BT4 HC04 HC14 HC24 ⊢
  have k8 : Aside0 ((u7.alloc (.cells #[.string ⟨#[116, 119, 111]⟩, .int .i64 2] 44)).heap[b + 1 + 1 + 1 + 1 + 1 + 1 + 1 + 1]? = some (.cells #[.string ⟨#[116, 119, 111]⟩, .int .i64 2] 44)) := ⟨by have := blk_new u7 (.cells #[.string ⟨#[116, 119, 111]⟩, .int .i64 2] 44); rwa [s7] at this⟩
  have s8 : (u7.alloc (.cells #[.string ⟨#[116, 119, 111]⟩, .int .i64 2] 44)).heap.size = b + 1 + 1 + 1 + 1 + 1 + 1 + 1 + 1 + 1 := by simp [s7]
  replace k1 := Aside0.mk (blk_alloc k1.out (.cells #[.string ⟨#[116, 119, 111]⟩, .int .i64 2] 44))
  replace k2 := Aside0.mk (blk_alloc k2.out (.cells #[.string ⟨#[116, 119, 111]⟩, .int .i64 2] 44))
  replace k3 := Aside0.mk (blk_alloc k3.out (.cells #[.string ⟨#[116, 119, 111]⟩, .int .i64 2] 44))
  replace k4 := Aside0.mk (blk_alloc k4.out (.cells #[.string ⟨#[116, 119, 111]⟩, .int .i64 2] 44))
  replace k5 := Aside0.mk (blk_alloc k5.out (.cells #[.string ⟨#[116, 119, 111]⟩, .int .i64 2] 44))
  replace k6 := Aside0.mk (blk_alloc k6.out (.cells #[.string ⟨#[116, 119, 111]⟩, .int .i64 2] 44))
  replace k7 := Aside0.mk (blk_alloc k7.out (.cells #[.string ⟨#[116, 119, 111]⟩, .int .i64 2] 44))
  replace HB4 := Aside0.mk (below_alloc HB4.out (.cells #[.string ⟨#[116, 119, 111]⟩, .int .i64 2] 44))
  replace BT4 := Aside0.mk (blk_alloc BT4.out (.cells #[.string ⟨#[116, 119, 111]⟩, .int .i64 2] 44))
  replace HC04 := Aside0.mk (Kd.C_alloc HC04.out (.cells #[.string ⟨#[116, 119, 111]⟩, .int .i64 2] 44))
  replace HC14 := Aside0.mk (Kd.C_alloc HC14.out (.cells #[.string ⟨#[116, 119, 111]⟩, .int .i64 2] 44))
  replace HC24 := Aside0.mk (Kd.C_alloc HC24.out (.cells #[.string ⟨#[116, 119, 111]⟩, .int .i64 2] 44))
  generalize u7.alloc (.cells #[.string ⟨#[116, 119, 111]⟩, .int .i64 2] 44) = u8 at k1 k2 k3 k4 k5 k6 k7 k8 s8 HB4 BT4 HC04 HC14 HC24 ⊢
  have k9 : Aside0 ((u8.alloc (.cells #[.string ⟨#[98, 46, 111]⟩] 9)).heap[b + 1 + 1 + 1 + 1 + 1 + 1 + 1 + 1 + 1]? = some (.cells #[.string ⟨#[98, 46, 111]⟩] 9)) := ⟨by have := blk_new u8 (.cells #[.string ⟨#[98, 46, 111]⟩] 9); rwa [s8] at this⟩
  have s9 : (u8.alloc (.cells #[.string ⟨#[98, 46, 111]⟩] 9)).heap.size = b + 1 + 1 + 1 + 1 + 1 + 1 + 1 + 1 + 1 + 1 := by simp [s8]
  replace k1 := Aside0.mk (blk_alloc k1.out (.cells #[.string ⟨#[98, 46, 111]⟩] 9))
  replace k2 := Aside0.mk (blk_alloc k2.out (.cells #[.string ⟨#[98, 46, 111]⟩] 9))
  replace k3 := Aside0.mk (blk_alloc k3.out (.cells #[.string ⟨#[98, 46, 111]⟩] 9))
  replace k4 := Aside0.mk (blk_alloc k4.out (.cells #[.string ⟨#[98, 46, 111]⟩] 9))
  replace k5 := Aside0.mk (blk_alloc k5.out (.cells #[.string ⟨#[98, 46, 111]⟩] 9))
  replace k6 := Aside0.mk (blk_alloc k6.out (.cells #[.string ⟨#[98, 46, 111]⟩] 9))
  replace k7 := Aside0.mk (blk_alloc k7.out (.cells #[.string ⟨#[98, 46, 111]⟩] 9))
  replace k8 := Aside0.mk (blk_alloc k8.out (.cells #[.string ⟨#[98, 46, 111]⟩] 9))
  replace HB4 := Aside0.mk (below_alloc HB4.out (.cells #[.string ⟨#[98, 46, 111]⟩] 9))
  replace BT4 := Aside0.mk (blk_alloc BT4.out (.cells #[.string ⟨#[98, 46, 111]⟩] 9))
  replace HC04 := Aside0.mk (Kd.C_alloc HC04.out (.cells #[.string ⟨#[98, 46, 111]⟩] 9))
  replace HC14 := Aside0.mk (Kd.C_alloc HC14.out (.cells #[.string ⟨#[98, 46, 111]⟩] 9))
  replace HC24 := Aside0.mk (Kd.C_alloc HC24.out (.cells #[.string ⟨#[98, 46, 111]⟩] 9))
  generalize u8.alloc (.cells #[.string ⟨#[98, 46, 111]⟩] 9) = u9 at k1 k2 k3 k4 k5 k6 k7 k8 k9 s9 HB4 BT4 HC04 HC14 HC24 ⊢
  have k10 : Aside0 ((u9.alloc (.cells #[.slice (some ⟨b + 1 + 1 + 1 + 1 + 1 + 1 + 1, 0, none⟩) 2 2, .slice (some ⟨b + 1 + 1 + 1 + 1 + 1 + 1 + 1 + 1, 0, none⟩) 1 1, .slice (some ⟨b + 1 + 1 + 1 + 1 + 1 + 1 + 1 + 1 + 1, 0, none⟩) 1 1] 26)).heap[b + 1 + 1 + 1 + 1 + 1 + 1 + 1 + 1 + 1 + 1]? = some (.cells #[.slice (some ⟨b + 1 + 1 + 1 + 1 + 1 + 1 + 1, 0, none⟩) 2 2, .slice (some ⟨b + 1 + 1 + 1 + 1 + 1 + 1 + 1 + 1, 0, none⟩) 1 1, .slice (some ⟨b + 1 + 1 + 1 + 1 + 1 + 1 + 1 + 1 + 1, 0, none⟩) 1 1] 26)) := ⟨by have := blk_new u9 (.cells #[.slice (some ⟨b + 1 + 1 + 1 + 1 + 1 + 1 + 1, 0, none⟩) 2 2, .slice (some ⟨b + 1 + 1 + 1 + 1 + 1 + 1 + 1 + 1, 0, none⟩) 1 1, .slice (some ⟨b + 1 + 1 + 1 + 1 + 1 + 1 + 1 + 1 + 1, 0, none⟩) 1 1] 26); rwa [s9] at this⟩
  have s10 : (u9.alloc (.cells #[.slice (some ⟨b + 1 + 1 + 1 + 1 + 1 + 1 + 1, 0, none⟩) 2 2, .slice (some ⟨b + 1 + 1 + 1 + 1 + 1 + 1 + 1 + 1, 0, none⟩) 1 1, .slice (some ⟨b + 1 + 1 + 1 + 1 + 1 + 1 + 1 + 1 + 1, 0, none⟩) 1 1] 26)).heap.size = b + 1 + 1 + 1 + 1 + 1 + 1 + 1 + 1 + 1 + 1 + 1 := by simp [s9]
  replace k1 := Aside0.mk (blk_alloc k1.out (.cells #[.slice (some ⟨b + 1 + 1 + 1 + 1 + 1 + 1 + 1, 0, none⟩) 2 2, .slice (some ⟨b + 1 + 1 + 1 + 1 + 1 + 1 + 1 + 1, 0, none⟩) 1 1, .slice (some ⟨b + 1 + 1 + 1 + 1 + 1 + 1 + 1 + 1 + 1, 0, none⟩) 1 1] 26))
  replace k2 := Aside0.mk (blk_alloc k2.out (.cells #[.slice (some ⟨b + 1 + 1 + 1 + 1 + 1 + 1 + 1, 0, none⟩) 2 2, .slice (some ⟨b + 1 + 1 + 1 + 1 + 1 + 1 + 1 + 1, 0, none⟩) 1 1, .slice (some ⟨b + 1 + 1 + 1 + 1 + 1 + 1 + 1 + 1 + 1, 0, none⟩) 1 1] 26))
  replace k3 := Aside0.mk (blk_alloc k3.out (.cells #[.slice (some ⟨b + 1 + 1 + 1 + 1 + 1 + 1 + 1, 0, none⟩) 2 2, .slice (some ⟨b + 1 + 1 + 1 + 1 + 1 + 1 + 1 + 1, 0, none⟩) 1 1, .slice (some ⟨b + 1 + 1 + 1 + 1 + 1 + 1 + 1 + 1 + 1, 0, none⟩) 1 1] 26))
  replace k4 := Aside0.mk (blk_alloc k4.out (.cells #[.slice (some ⟨b + 1 + 1 + 1 + 1 + 1 + 1 + 1, 0, none⟩) 2 2, .slice (some ⟨b + 1 + 1 + 1 + 1 + 1 + 1 + 1 + 1, 0, none⟩) 1 1, .slice (some ⟨b + 1 + 1 + 1 + 1 + 1 + 1 + 1 + 1 + 1, 0, none⟩) 1 1] 26))
  replace k5 := Aside0.mk (blk_alloc k5.out (.cells #[.slice (some ⟨b + 1 + 1 + 1 + 1 + 1 + 1 + 1, 0, none⟩) 2 2, .slice (some ⟨b + 1 + 1 + 1 + 1 + 1 + 1 + 1 + 1, 0, none⟩) 1 1, .slice (some ⟨b + 1 + 1 + 1 + 1 + 1 + 1 + 1 + 1 + 1, 0, none⟩) 1 1] 26))
  replace k6 := Aside0.mk (blk_alloc k6.out (.cells #[.slice (some ⟨b + 1 + 1 + 1 + 1 + 1 + 1 + 1, 0, none⟩) 2 2, .slice (some ⟨b + 1 + 1 + 1 + 1 + 1 + 1 + 1 + 1, 0, none⟩) 1 1, .slice (some ⟨b + 1 + 1 + 1 + 1 + 1 + 1 + 1 + 1 + 1, 0, none⟩) 1 1] 26))
  replace k7 := Aside0.mk (blk_alloc k7.out (.cells #[.slice (some ⟨b + 1 + 1 + 1 + 1 + 1 + 1 + 1, 0, none⟩) 2 2, .slice (some ⟨b + 1 + 1 + 1 + 1 + 1 + 1 + 1 + 1, 0, none⟩) 1 1, .slice (some ⟨b + 1 + 1 + 1 + 1 + 1 + 1 + 1 + 1 + 1, 0, none⟩) 1 1] 26))
  replace k8 := Aside0.mk (blk_alloc k8.out (.cells #[.slice (some ⟨b + 1 + 1 + 1 + 1 + 1 + 1 + 1, 0, none⟩) 2 2, .slice (some ⟨b + 1 + 1 + 1 + 1 + 1 + 1 + 1 + 1, 0, none⟩) 1 1, .slice (some ⟨b + 1 + 1 + 1 + 1 + 1 + 1 + 1 + 1 + 1, 0, none⟩) 1 1] 26))
  replace k9 := Aside0.mk (blk_alloc k9.out (.cells #[.slice (some ⟨b + 1 + 1 + 1 + 1 + 1 + 1 + 1, 0, none⟩) 2 2, .slice (some ⟨b + 1 + 1 + 1 + 1 + 1 + 1 + 1 + 1, 0, none⟩) 1 1, .slice (some ⟨b + 1 + 1 + 1 + 1 + 1 + 1 + 1 + 1 + 1, 0, none⟩) 1 1] 26))
  replace HB4 := Aside0.mk (below_alloc HB4.out (.cells #[.slice (some ⟨b + 1 + 1 + 1 + 1 + 1 + 1 + 1, 0, none⟩) 2 2, .slice (some ⟨b + 1 + 1 + 1 + 1 + 1 + 1 + 1 + 1, 0, none⟩) 1 1, .slice (some ⟨b + 1 + 1 + 1 + 1 + 1 + 1 + 1 + 1 + 1, 0, none⟩) 1 1] 26))
  replace BT4 := Aside0.mk (blk_alloc BT4.out (.cells #[.slice (some ⟨b + 1 + 1 + 1 + 1 + 1 + 1 + 1, 0, none⟩) 2 2, .slice (some ⟨b + 1 + 1 + 1 + 1 + 1 + 1 + 1 + 1, 0, none⟩) 1 1, .slice (some ⟨b + 1 + 1 + 1 + 1 + 1 + 1 + 1 + 1 + 1, 0, none⟩) 1 1] 26))
  replace HC04 := Aside0.mk (Kd.C_alloc HC04.out (.cells #[.slice (some ⟨b + 1 + 1 + 1 + 1 + 1 + 1 + 1, 0, none⟩) 2 2, .slice (some ⟨b + 1 + 1 + 1 + 1 + 1 + 1 + 1 + 1, 0, none⟩) 1 1, .slice (some ⟨b + 1 + 1 + 1 + 1 + 1 + 1 + 1 + 1 + 1, 0, none⟩) 1 1] 26))
  replace HC14 := Aside0.mk (Kd.C_alloc HC14.out (.cells #[.slice (some ⟨b + 1 + 1 + 1 + 1 + 1 + 1 + 1, 0, none⟩) 2 2, .slice (some ⟨b + 1 + 1 + 1 + 1 + 1 + 1 + 1 + 1, 0, none⟩) 1 1, .slice (some ⟨b + 1 + 1 + 1 + 1 + 1 + 1 + 1 + 1 + 1, 0, none⟩) 1 1] 26))
  replace HC24 := Aside0.mk (Kd.C_alloc HC24.out (.cells #[.slice (some ⟨b + 1 + 1 + 1 + 1 + 1 + 1 + 1, 0, none⟩) 2 2, .slice (some ⟨b + 1 + 1 + 1 + 1 + 1 + 1 + 1 + 1, 0, none⟩) 1 1, .slice (some ⟨b + 1 + 1 + 1 + 1 + 1 + 1 + 1 + 1 + 1, 0, none⟩) 1 1] 26))
  generalize u9.alloc (.cells #[.slice (some ⟨b + 1 + 1 + 1 + 1 + 1 + 1 + 1, 0, none⟩) 2 2, .slice (some ⟨b + 1 + 1 + 1 + 1 + 1 + 1 + 1 + 1, 0, none⟩) 1 1, .slice (some ⟨b + 1 + 1 + 1 + 1 + 1 + 1 + 1 + 1 + 1, 0, none⟩) 1 1] 26) = u10 at k1 k2 k3 k4 k5 k6 k7 k8 k9 k10 s10 HB4 BT4 HC04 HC14 HC24 ⊢
  have p1 : Kd.string.C u10 (some ⟨b + 1, 0, none⟩) 1 [⟨#[97, 46, 111]⟩] := C_one k1.out rfl rfl
  have p2 : Kd.string.C u10 (some ⟨b + 1 + 1, 0, none⟩) 1 [⟨#[97, 46, 99]⟩] := C_one k2.out rfl rfl
  have p3 : Kd.string.C u10 (some ⟨b + 1 + 1 + 1, 0, none⟩) 1 [⟨#[97, 46, 104]⟩] := C_one k3.out rfl rfl
  have p4 : Kd.string.C u10 (some ⟨b + 1 + 1 + 1 + 1, 0, none⟩) 1 [⟨#[98, 46, 111]⟩] := C_one k4.out rfl rfl
  have p5 : Kd.string.C u10 (some ⟨b + 1 + 1 + 1 + 1 + 1, 0, none⟩) 1 [⟨#[98, 46, 99]⟩] := C_one k5.out rfl rfl
  have p6 : Kd.string.C u10 (some ⟨b + 1 + 1 + 1 + 1 + 1 + 1, 0, none⟩) 1 [⟨#[97, 46, 111]⟩] := C_one k6.out rfl rfl
  have p0 : Kd.string.C u10 none 0 [] := ⟨rfl, by omega, fun h => absurd h (by decide)⟩
  have PE : Kd.C k42 u10 (some ⟨b + 1 + 1 + 1 + 1 + 1 + 1 + 1, 0, none⟩) wantE.length wantE := C_two k7.out (k42_mk u10 wantE[0] (A0 := some ⟨b + 1, 0, none⟩) (c0 := 1) (by decide) p1 (A1 := some ⟨b + 1 + 1, 0, none⟩) (c1 := 1) (by decide) p2 (A2 := some ⟨b + 1 + 1 + 1, 0, none⟩) (c2 := 1) (by decide) p3 (A3 := none) (c3 := 0) (by decide) p0) (k42_mk u10 wantE[1] (A0 := some ⟨b + 1 + 1 + 1 + 1, 0, none⟩) (c0 := 1) (by decide) p4 (A1 := some ⟨b + 1 + 1 + 1 + 1 + 1, 0, none⟩) (c1 := 1) (by decide) p5 (A2 := none) (c2 := 0) (by decide) p0 (A3 := some ⟨b + 1 + 1 + 1 + 1 + 1 + 1, 0, none⟩) (c3 := 1) (by decide) p6) rfl
  have PP : Kd.C k44 u10 (some ⟨b + 1 + 1 + 1 + 1 + 1 + 1 + 1 + 1, 0, none⟩) wantP.length wantP := C_one k8.out (k44_mk u10 wantP[0]) rfl
  have PD : Kd.C Kd.string u10 (some ⟨b + 1 + 1 + 1 + 1 + 1 + 1 + 1 + 1 + 1, 0, none⟩) wantD.length wantD := C_one k9.out rfl rfl
  have hsame : cruciblelaw0_SameGraph.f 100 wE wP wD wantE wantP wantD = some true := by rw [← HE.out, ← HP.out, ← HD.out]; exact same_want
  have HSG := Lib.hid (cruciblelaw0_SameGraph.calls 100 A0 c0 wE A1 c1 wP A2 c2 wD (some ⟨b + 1 + 1 + 1 + 1 + 1 + 1 + 1, 0, none⟩) 2 wantE (some ⟨b + 1 + 1 + 1 + 1 + 1 + 1 + 1 + 1, 0, none⟩) 1 wantP (some ⟨b + 1 + 1 + 1 + 1 + 1 + 1 + 1 + 1 + 1, 0, none⟩) 1 wantD true u10 HC04.out l0 HC14.out l1 HC24.out l2 PE (by decide) PP (by decide) PD (by decide) hsame)
  have z0 := blk_cell BT4.out 0
  have z1 := blk_cell BT4.out 1
  have z2 := blk_cell BT4.out 2
  have y0 := blk_cell k10.out 0
  have y1 := blk_cell k10.out 1
  have y2 := blk_cell k10.out 2
  clear p0 p1 p2 p3 p4 p5 p6 PE PP PD k1 k2 k3 k4 k5 k6 k7 k8 k9 k10 BT4 HC04 HC14 HC24 hsame
  go_wp2_with (first | (go_at_call 12; refine HSG.out.mono ?_; rintro x w5 ⟨rfl, hb5⟩; have HB5 := Aside0.mk (HB4.out.trans (hb5.mono HB4.out.size)); clear hb5) | (go_at_call 13; refine (cruciblelaw0_Num.calls _ _ _ rfl).mono ?_; rintro x w6 ⟨rfl, hd⟩; replace HB5 := Aside0.mk (HB5.out.trans (hd.below.mono HB5.out.size)); clear hd))
  go_ret
  exact ⟨rfl, HB5.out⟩
def cruciblelaw8_awake.f : Option (Bool) := some true
theorem cruciblelaw8_awake.calls (r : Bool) (w : World) (h : cruciblelaw8_awake.f = some r) :
    Calls Tryz.prog 15 #[] w fun e w' => e = .returned (.bool r) ∧ Below w.heap.size w w' := by
  obtain rfl := Option.some.inj h
  exact awake_calls w
end Go.Proofs.YtefheailchihaaaGreatDoor.Print

end
