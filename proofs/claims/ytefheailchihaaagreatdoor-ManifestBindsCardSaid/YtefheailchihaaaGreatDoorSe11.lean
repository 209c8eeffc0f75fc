/- YtefheailchihaaaGreatDoorSe11: out of this seat's texts (wip/tools/shake.py), what is needed alone. -/
import Derived.Test.YtefheailchihaaaGreatDoorSe10
section
namespace Go.Proofs.YtefheailchihaaaGreatDoor.Print
open Go.RowKit Go.Lib Go.Shelf Go.Proofs.YtefheailchihaaaGreatDoorW.PrintWords Go.Proofs.YtefheailchihaaaGreatDoorW.PrintLast Go.Proofs.YtefheailchihaaaGreatDoorW.PrintMore
set_option linter.unusedVariables false
set_option linter.unusedSimpArgs false
attribute [local go_sem ↓] Go.wp_at_zero Go.wp_at_succ

/-- What Parse answers: a graph's rows of its own, and what is wrong. -/
def Ans (w w' : World) (e : Ending) (r : List S42 × List S44 × List ByteArray × Int) : Prop := ∃ v0_ v1_ v2_ : Value, e = .returned (.tuple #[.agg #[v0_, v1_, v2_], .int .i64 r.2.2.2]) ∧
  Kd.R k42 42 w' w.heap.size (fun k_ => some k_ ≠ (v1_ : Value).ownBlock ∧ some k_ ≠ (v2_ : Value).ownBlock) v0_ r.1 ∧ Kd.R k44 44 w' w.heap.size (fun k_ => some k_ ≠ (v0_ : Value).ownBlock ∧ some k_ ≠ (v2_ : Value).ownBlock) v1_ r.2.1 ∧ Kd.R Kd.string 9 w' w.heap.size (fun k_ => some k_ ≠ (v0_ : Value).ownBlock ∧ some k_ ≠ (v1_ : Value).ownBlock) v2_ r.2.2.1 ∧ Below w.heap.size w w'
theorem ans_nil {w w' : World} {c : Int} (hb : Below w.heap.size w w') : Ans w w' (.returned (.tuple #[.agg #[.slice none 0 0, .slice none 0 0, .slice none 0 0], .int .i64 c])) ([], [], [], c) :=
  ⟨_, _, _, rfl, Kd.R_nil _ _ _ _ _, Kd.R_nil _ _ _ _ _, Kd.R_nil _ _ _ _ _, hb⟩

theorem linesGo_len : ∀ (k : Nat) (rs : List ByteArray) (out : List S59), (linesGo k rs out).1.length ≤ out.length + k
  | 0, rs, out => by cases rs <;> exact Nat.le_refl _
  | _ + 1, [], out => Nat.le_add_right _ _
  | k + 1, r :: rs, out => by
    unfold linesGo
    cases hj : joinGo r r rs with
    | none => exact Nat.zero_le _
    | some q =>
      have h1 := linesGo_len k q.2 (addLine out q.1)
      have h2 : (addLine out q.1).length ≤ out.length + 1 := by
        unfold addLine
        split
        · omega
        · rw [List.length_append, List.length_singleton]; omega
      simp only
      omega
theorem splitL_len : ∀ (l cur : List UInt8), (splitL cur l).length ≤ l.length + 1
  | [], cur => by simp [splitL]
  | c :: l, cur => by
    unfold splitL
    split
    · have := splitL_len l []
      simp only [List.length_cons]
      omega
    · have := splitL_len l (cur ++ [c])
      simp only [List.length_cons]
      omega
theorem lines_len (s : ByteArray) (hs : s.size ≤ 9223372036854775807) : (linesCut s).1.length ≤ 4096 := by
  unfold linesCut
  split
  · rename_i hm
    unfold mayB at hm
    simp only [Bool.and_eq_true, Bool.or_eq_true, decide_eq_true_eq] at hm
    have h1 := linesGo_len (rowsOf s).length (rowsOf s) []
    have h2 := splitL_len s.data.toList []
    have h3 : (rowsOf s).length ≤ (splitL [] s.data.toList).length := by unfold rowsOf; rw [List.length_map, List.length_dropLast]; omega
    have h4 := hm.1
    rw [Lib.size_eq] at h4
    simp only [List.length_nil] at h1
    omega
  · exact Nat.zero_le _
theorem parseGo_cons (x : S59) (l : List S59) (p : Pst) (o : Opn) : parseGo (x :: l) p o = if (lineR p o x.f0 x.f1).2.2 = 0 then parseGo l (lineR p o x.f0 x.f1).1 (lineR p o x.f0 x.f1).2.1 else lineR p o x.f0 x.f1 := rfl
theorem g_nil {w : World} {G : Nat} (h : w.heap[G]? = some (.cells #[.slice none 0 0, .slice none 0 0, .slice none 0 0] 26 (0, 0))) : (((w.setCell ⟨G, 0, none⟩ (.slice none 0 0)).setCell ⟨G, 1, none⟩ (.slice none 0 0)).setCell ⟨G, 2, none⟩ (.slice none 0 0)).heap[G]? = some (.cells #[.slice none 0 0, .slice none 0 0, .slice none 0 0] 26 (0, 0)) := blk_put (blk_put (blk_put h 0 _ rfl) 1 _ rfl) 2 _ rfl
theorem g_put {w : World} {G : Nat} {a b c : Value} (h : w.heap[G]? = some (.cells #[.slice none 0 0, .slice none 0 0, .slice none 0 0] 26 (0, 0))) : (((w.setCell ⟨G, 0, none⟩ a).setCell ⟨G, 1, none⟩ b).setCell ⟨G, 2, none⟩ c).heap[G]? = some (.cells #[a, b, c] 26 (0, 0)) := blk_put (blk_put (blk_put h 0 _ rfl) 1 _ rfl) 2 _ rfl
theorem g_below {w W : World} {a b c : Value} (h : Below w.heap.size w W) : Below w.heap.size w (((W.setCell ⟨w.heap.size, 0, none⟩ a).setCell ⟨w.heap.size, 1, none⟩ b).setCell ⟨w.heap.size, 2, none⟩ c) :=
  ((h.setCell (p := ⟨w.heap.size, 0, none⟩) (Nat.le_refl _) _).setCell (p := ⟨w.heap.size, 1, none⟩) (Nat.le_refl _) _).setCell (p := ⟨w.heap.size, 2, none⟩) (Nat.le_refl _) _
/-- A row is none of another's block, by types. -/
theorem R_not {α β : Type} {d : Kd α} {d' : Kd β} {e t base base' : Nat} {ok ok' : Nat → Prop} {w : World} {v v' : Value} {xs : List α} {ys : List β} (h : d.R e w base ok v xs) (h' : d'.R t w base' ok' v' ys) (ht : t ∉ e :: d.E) : d.R e w base (fun k => ok k ∧ some k ≠ v'.ownBlock) v xs :=
  Kd.R_mono (Kd.R_bound h) (fun k hk => ⟨hk.1, fun he => by
    obtain ⟨_, _, _, q, hq, cells, hc⟩ := hk
    obtain ⟨cells2, hc2⟩ := R_own_type h' he.symm
    rw [hc] at hc2
    simp only [Option.some.injEq, Obj.cells.injEq] at hc2
    exact ht (hc2.2.1 ▸ hq)⟩)

set_option maxHeartbeats 1000000 in
set_option maxRecDepth 100000 in
theorem parse_calls (s : ByteArray) (hs : s.size ≤ 9223372036854775807) (w : World) :
    Calls Tryz.prog 10 #[.string s] w fun e w' => Ans w w' e (parseB s) := by
  have hls := lines_size s
  have hln := lines_len s hs
  have HL := Lib.hid (lines_calls s hs (w.alloc (.cells #[.slice none 0 0, .slice none 0 0, .slice none 0 0] 26)))
  obtain ⟨Z, hZ⟩ : ∃ Z, parseB s = Z := ⟨_, rfl⟩
  have hZ2 := hZ
  rw [hZ]
  unfold parseB at hZ2
  obtain ⟨⟨ls, c⟩, hlc⟩ : ∃ q, linesCut s = q := ⟨_, rfl⟩
  rw [hlc] at hls hln HL hZ2
  simp only at hls hln HL hZ2
  have HZ := Lib.hid hZ2
  have HLS := Lib.hid hls
  clear hls hZ hZ2 hlc
  have HA := Aside0.mk ((Below.refl w.heap.size w).alloc (Nat.le_refl _) (.cells #[.slice none 0 0, .slice none 0 0, .slice none 0 0] 26))
  have HGa := Aside0.mk (blk_new w (.cells #[.slice none 0 0, .slice none 0 0, .slice none 0 0] 26))
  have hsz : (w.alloc (.cells #[.slice none 0 0, .slice none 0 0, .slice none 0 0] 26)).heap.size = w.heap.size + 1 := by simp
  by_cases h0 : c = 0
  · subst h0
    have hz := HZ.out
    rw [if_pos rfl] at hz
    have HZ1 := Lib.hid hz
    clear hz HZ
    go_enter Tryz.func10, Tryz.ntmps10
    go_upto_region 5 with (first | (go_at_call 18; refine HL.out.mono ?_; rintro x w1 ⟨vl, rfl, hl, hb⟩; obtain ⟨Al, cl, rfl⟩ := Kd.R_slice hl; have HG1 := Aside0.mk (blk_below HGa.out hb); have RL1 := Aside0.mk (Kd.R_reads' hl).2.2; have HB1 := Aside0.mk (HA.out.trans (hb.mono (by omega))); clear hl hb HGa HA))
    have hGB : w.heap.size < w1.heap.size := blk_lt HG1.out
    have hd := (Below.refl w1.heap.size w1).alloc (Nat.le_refl _) (.cells #[.slice none 0 0, .slice none 0 0, .slice none 0 0, .slice none 0 0, .slice none 0 0, .nilFunc, .nilFunc, .int .i64 0] 57)
    have HM2 : Aside0 (Mst (w1.alloc (.cells #[.slice none 0 0, .slice none 0 0, .slice none 0 0, .slice none 0 0, .slice none 0 0, .nilFunc, .nilFunc, .int .i64 0] 57)) w1.heap.size w1.heap.size pst0 .none 0) := ⟨⟨_, _, _, _, _, _, _, Nat.le_refl _, blk_new w1 _, ⟨Kd.R_nil _ _ _ _ _, Kd.R_nil _ _ _ _ _, Kd.R_nil _ _ _ _ _, Kd.R_nil _ _ _ _ _, Kd.R_nil _ _ _ _ _⟩, rfl, rfl⟩⟩
    have HB2 := Aside0.mk hd
    clear hd
    obtain ⟨B, hB⟩ : ∃ B, w1.heap.size = B := ⟨_, rfl⟩
    rw [hB] at HM2 HB2 hGB ⊢
    have hBG : B ≠ w.heap.size := by omega
    have HBB := Lib.hid hB
    clear hB
    generalize w1.alloc (.cells #[.slice none 0 0, .slice none 0 0, .slice none 0 0, .slice none 0 0, .slice none 0 0, .nilFunc, .nilFunc, .int .i64 0] 57) = w2 at HM2 HB2 ⊢
    go_wp2_with fail
    go_loopw [8, 21] (fun v8 v21 wr => ∃ (k : Nat) (p : Pst) (o : Opn), v21 = .int .i64 k ∧ k ≤ ls.length ∧ Aside0 (parseGo ls pst0 .none = parseGo (ls.drop k) p o) ∧ Aside0 (Inv p o) ∧ Aside0 (Mst wr B B p o 0) ∧ Aside0 (Below B w1 wr)) (fun v8 v21 _ => ls.length - (intOf v21).toNat)
    case atStart => exact ⟨0, pst0, .none, rfl, Nat.zero_le _, ⟨by rw [List.drop_zero]⟩, ⟨inv0⟩, ⟨HM2.out⟩, ⟨HB2.out⟩⟩
    case round =>
      obtain ⟨k, p, o, rfl, hk, HPG, HIV, HM, HB⟩ := hrel
      have hBw : B ≤ wr.heap.size := by
        have h1 := HB.out.size
        have h2 := HBB.out
        omega
      have HG := Aside0.mk ((HB.out.block _ hGB).trans HG1.out)
      by_cases hlt : k < ls.length
      · have RLr := Aside0.mk (Kd.C_below RL1.out (by rw [HBB.out]; exact HB.out))
        obtain ⟨ad, rfl, r0, r1⟩ := at_T59 RLr.out (k : Int) (by omega) (by omega)
        have hx := HLS.out _ (List.getElem_mem hlt)
        have hrd : rd_T59 ls (k : Int) = ls[k] := by simp [rd_T59, List.getD_eq_getElem?_getD, hlt]
        rw [hrd] at r0 r1
        simp only [Int.toNat_natCast] at r0 r1
        have hgo := HPG.out
        rw [List.drop_eq_getElem_cons hlt] at hgo
        rw [parseGo_cons] at hgo
        generalize ls[k] = x at *
        obtain ⟨xd, xt⟩ := x
        have HA3 := Aside0.mk ((Below.refl wr.heap.size wr).alloc (Nat.le_refl _) (.cells #[.bool xd, .string xt] 59))
        have HLC := Lib.hid (line_calls B B p o xd xt hx (wr.alloc (.cells #[.bool xd, .string xt] 59)) (Nat.le_trans hBw HA3.out.size) (Mst_below HM.out HA3.out) HIV.out)
        have hinv := inv_line (p := p) (o := o) (d := xd) hx HIV.out
        obtain ⟨⟨P', O', E'⟩, hL⟩ : ∃ q, lineR p o xd xt = q := ⟨_, rfl⟩
        rw [hL] at HLC hgo hinv
        simp only at HLC hgo hinv r0 r1
        have HINV := Lib.hid hinv
        clear hL hinv
        have CALL := HLC
        by_cases hE : E' = 0
        · subst hE
          rw [if_pos rfl] at hgo
          have HGO := Aside0.mk hgo
          clear hgo
          go_wp2_with (first | (go_at_call 19; refine HLC.out.mono ?_; rintro y w3 ⟨rfl, hm, hb⟩; have HM3 := Aside0.mk hm; have HB3 := Aside0.mk (HB.out.trans ((HA3.out.mono hBw).trans hb)); obtain ⟨_, _, _, _, _, _, _, _, hp3, _⟩ := hm; have q7 : w3.cell? ⟨B, 7, none⟩ = some (.int .i64 0) := blk_cell hp3 7; clear hp3 hb))
          exact ⟨⟨k + 1, P', O', by go_num, by omega, ⟨HGO.out⟩, ⟨HINV.out trivial⟩, ⟨HM3.out⟩, ⟨HB3.out⟩⟩, by simp [intOf]; omega⟩
        · rw [if_neg hE] at hgo
          have HGO := Aside0.mk hgo
          clear hgo
          have hEb : (E' != 0) = true := bne_iff_ne.2 hE
          go_upto_region 10 with (first | (go_at_call 19; refine HLC.out.mono ?_; rintro y w3 ⟨rfl, hm, hb⟩; have HB3 := Aside0.mk (HB.out.trans ((HA3.out.mono hBw).trans hb)); obtain ⟨_, _, _, _, _, _, _, _, hp3, _⟩ := hm; have HP3 := Aside0.mk hp3; have q7 : w3.cell? ⟨B, 7, none⟩ = some (.int .i64 E') := blk_cell hp3 7; clear hp3 hb))
          have HG3 := Aside0.mk ((HB3.out.block _ hGB).trans HG1.out)
          refine start_ (n := 7) (S := fun w' => w'.cell? ⟨B, 7, none⟩ = some (.int .i64 E')) (ds := []) #[false, false, false, false, false, false, false] (by kernel_rfl) rfl rfl (q7) (fun hHeld => ?_)
          have g0 := blk_cell HG3.out 0
          have g1 := blk_cell (HG3.out) 1
          have g2 := blk_cell (HG3.out) 2
          have f0 := blk_frozen (HG3.out) 0
          have f1 := blk_frozen (HG3.out) 1
          have f2 := blk_frozen (HG3.out) 2
          refine pure_ (i := 0) (N := some 33) (v := ?_) (a' := ?_) #[true, false, false, false, false, false, false] rfl rfl (by kernel_rfl) (fun _ _ _ h => h) (Or.inl ⟨by rfl, ?_⟩) ?_ ?_
          rotate_left
          · intro w'
            go_simp
            with_reducible rfl
          rotate_left
          · simp only [Act.put, List.setIfInBounds_toArray, List.set_cons_zero, List.set_cons_succ, i64_w, i32_w]
            rfl
          refine pure_ (i := 1) (N := some 34) (v := ?_) (a' := ?_) #[true, true, false, false, false, false, false] rfl rfl (by kernel_rfl) (fun _ _ _ h => h) (Or.inl ⟨by rfl, ?_⟩) ?_ ?_
          rotate_left
          · intro w'
            go_simp
            with_reducible rfl
          rotate_left
          · simp only [Act.put, List.setIfInBounds_toArray, List.set_cons_zero, List.set_cons_succ, i64_w, i32_w]
            rfl
          refine pure_ (i := 2) (N := some 35) (v := ?_) (a' := ?_) #[true, true, true, false, false, false, false] rfl rfl (by kernel_rfl) (fun _ _ _ h => h) (Or.inl ⟨by rfl, ?_⟩) ?_ ?_
          rotate_left
          · intro w'
            go_simp
            with_reducible rfl
          rotate_left
          · simp only [Act.put, List.setIfInBounds_toArray, List.set_cons_zero, List.set_cons_succ, i64_w, i32_w]
            rfl
          refine pure_ (i := 3) (N := some 36) (v := ?_) (a' := ?_) #[true, true, true, true, false, false, false] rfl rfl (by kernel_rfl) (fun _ _ _ h => h) (Or.inl ⟨by rfl, ?_⟩) ?_ ?_
          rotate_left
          · intro w'
            go_simp
            with_reducible rfl
          rotate_left
          · simp only [Act.put, List.setIfInBounds_toArray, List.set_cons_zero, List.set_cons_succ, i64_w, i32_w]
            rfl
          refine take_ (i := 4) (N := some 37) (v := ?_) (a' := ?_) #[true, true, true, true, true, false, false] rfl rfl (by kernel_rfl) (fun _ _ _ h => h) (Or.inl ⟨by rfl, ?_⟩) hHeld ?_ ?_
          rotate_left
          · intro w' s0
            go_simp
            with_reducible rfl
          rotate_left
          · simp only [Act.put, List.setIfInBounds_toArray, List.set_cons_zero, List.set_cons_succ, i64_w, i32_w]
            rfl
          refine one_ (i := 5) (N := none) #[true, true, true, true, true, true, false] rfl rfl (by kernel_rfl) (by decide) (fun K hK => ?_)
          refine skip_ (w1 := ?_) (by rfl) rfl ?_ ?_
          rotate_left
          · go_simp
            rfl
          refine hK.out _ _ (blk_cell (blk_far (blk_far (blk_far (blk_drew HP3.out) hBG _) hBG _) hBG _) 7) (fun hHeld => ?_)
          clear hK K
          refine pure_ (i := 6) (N := some 3) (v := ?_) (a' := ?_) #[true, true, true, true, true, true, true] rfl rfl (by kernel_rfl) (fun _ _ _ h => h) (Or.inl ⟨by rfl, ?_⟩) ?_ ?_
          rotate_left
          · intro w'
            go_simp
            with_reducible rfl
          rotate_left
          · simp only [Act.put, List.setIfInBounds_toArray, List.set_cons_zero, List.set_cons_succ, i64_w, i32_w]
            rfl
          refine done_ (by kernel_rfl) ?_
          have hz := HZ1.out
          rw [HGO.out] at hz
          unfold parseEnd at hz
          rw [if_neg hE] at hz
          subst hz
          go_wp2_with fail
          have HGN := blk_drew (g_nil HG3.out)
          have HBN := (g_below (a := .slice none 0 0) (b := .slice none 0 0) (c := .slice none 0 0) (HB1.out.trans (HB3.out.mono (Nat.le_of_lt hGB)))).drew
          generalize (((w3.setCell ⟨w.heap.size, 0, none⟩ (.slice none 0 0)).setCell ⟨w.heap.size, 1, none⟩ (.slice none 0 0)).setCell ⟨w.heap.size, 2, none⟩ (.slice none 0 0)).drew = w9 at HGN HBN ⊢
          have z0 := blk_cell HGN 0
          have z1 := blk_cell HGN 1
          have z2 := blk_cell HGN 2
          refine bodyPost_ret (v := .tuple #[.agg #[.slice none 0 0, .slice none 0 0, .slice none 0 0], .int .i64 E']) (by simp [results, Tryz.results10, go_sem, z0, z1, z2]) rfl ?_
          exact ans_nil HBN
      · obtain rfl : k = ls.length := by omega
        have hgo := HPG.out
        rw [List.drop_length] at hgo
        have hgo2 : parseGo ls pst0 .none = (p, o, 0) := hgo
        have hz := HZ1.out
        rw [hgo2] at hz
        unfold parseEnd at hz
        rw [if_pos rfl] at hz
        simp only at hz
        clear hgo hgo2
        have HEN := Lib.hid (end_calls B B p o 0 wr HM.out HIV.out w.heap.size 26 _ HG.out (by decide))
        obtain ⟨E', hE'⟩ : ∃ q, overE p o 0 = q := ⟨_, rfl⟩
        obtain ⟨P', hP'⟩ : ∃ q, overP p o = q := ⟨_, rfl⟩
        rw [hE', hP'] at HEN hz
        clear hE' hP'
        by_cases hE : E' = 0
        · subst hE
          rw [if_pos rfl] at hz
          have HZ2 := Lib.hid hz
          clear hz
          go_wp2_with (first | (go_at_call 20; refine HEN.out.mono ?_; rintro y w3 ⟨rfl, hm, hb, hq⟩; have HB3 := Aside0.mk (HB.out.trans hb); have HG3 := Aside0.mk hq; obtain ⟨vE, vP, vD, vO, vR, fd, fo, _, hp3, hr3, _⟩ := hm; obtain ⟨AE, cE, rfl⟩ := Kd.R_slice hr3.1; obtain ⟨AP, cP, rfl⟩ := Kd.R_slice hr3.2.1; obtain ⟨AD, cD, rfl⟩ := Kd.R_slice hr3.2.2.1; have HP3 := Aside0.mk hp3; have HR3 := Aside0.mk hr3; have q7 : w3.cell? ⟨B, 7, none⟩ = some (.int .i64 0) := blk_cell hp3 7; have q0 := blk_cell hp3 0; have q1 := blk_cell hp3 1; have q2 := blk_cell hp3 2; have g0 := blk_cell HG3.out 0; have g1 := blk_cell HG3.out 1; have g2 := blk_cell HG3.out 2; have f0 := blk_frozen HG3.out 0; have f1 := blk_frozen HG3.out 1; have f2 := blk_frozen HG3.out 2; clear hp3 hr3 hb hq))
          have hz2 := HZ2.out
          subst hz2
          have HGN := g_put (a := .slice AE P'.edges.length cE) (b := .slice AP P'.pools.length cP) (c := .slice AD P'.defs.length cD) HG3.out
          have HBN := g_below (a := .slice AE P'.edges.length cE) (b := .slice AP P'.pools.length cP) (c := .slice AD P'.defs.length cD) (HB1.out.trans (HB3.out.mono (Nat.le_of_lt hGB)))
          have hkk := Kept.then_ (Kept.then_ (kept_one w3 w.heap.size 0 (.slice AE P'.edges.length cE)) (kept_one _ w.heap.size 1 (.slice AP P'.pools.length cP)) (fun k hk => .inl hk)) (kept_one _ w.heap.size 2 (.slice AD P'.defs.length cD)) (fun k hk => .inl hk)
          have HRN := Rows_kept HR3.out hkk (apart_one HG3.out (by decide))
          clear hkk
          generalize ((w3.setCell ⟨w.heap.size, 0, none⟩ (.slice AE P'.edges.length cE)).setCell ⟨w.heap.size, 1, none⟩ (.slice AP P'.pools.length cP)).setCell ⟨w.heap.size, 2, none⟩ (.slice AD P'.defs.length cD) = w9 at HGN HBN HRN ⊢
          have z0 := blk_cell HGN 0
          have z1 := blk_cell HGN 1
          have z2 := blk_cell HGN 2
          refine bodyPost_ret (v := .tuple #[.agg #[.slice AE P'.edges.length cE, .slice AP P'.pools.length cP, .slice AD P'.defs.length cD], .int .i64 0]) (by simp [results, Tryz.results10, go_sem, z0, z1, z2]) rfl ?_
          obtain ⟨n1, n2, n3, _, _⟩ := HRN
          have hle := Nat.le_of_lt hGB
          exact ⟨_, _, _, rfl, Kd.R_lower (Kd.R_mono (R_not n1 n2 (by decide)) (fun k hk => ⟨hk.2, hk.1⟩)) hle, Kd.R_lower (Kd.R_mono (R_not (R_not n2 n1 (by decide)) n3 (by decide)) (fun k hk => ⟨hk.1.2, hk.2⟩)) hle, Kd.R_lower (Kd.R_mono (R_not (R_not n3 n1 (by decide)) n2 (by decide)) (fun k hk => ⟨hk.1.2, hk.2⟩)) hle, HBN⟩
        · rw [if_neg hE] at hz
          have HZ2 := Lib.hid hz
          clear hz
          have hEb : (E' != 0) = true := bne_iff_ne.2 hE
          go_upto_region 14 with (first | (go_at_call 20; refine HEN.out.mono ?_; rintro y w3 ⟨rfl, hm, hb, hq⟩; have HB3 := Aside0.mk (HB.out.trans hb); have HG3 := Aside0.mk hq; obtain ⟨_, _, _, _, _, _, _, _, hp3, _⟩ := hm; have HP3 := Aside0.mk hp3; have q7 : w3.cell? ⟨B, 7, none⟩ = some (.int .i64 E') := blk_cell hp3 7; clear hp3 hb hq))
          refine start_ (n := 7) (S := fun w' => w'.cell? ⟨B, 7, none⟩ = some (.int .i64 E')) (ds := []) #[false, false, false, false, false, false, false] (by kernel_rfl) rfl rfl (q7) (fun hHeld => ?_)
          have g0 := blk_cell HG3.out 0
          have g1 := blk_cell (HG3.out) 1
          have g2 := blk_cell (HG3.out) 2
          have f0 := blk_frozen (HG3.out) 0
          have f1 := blk_frozen (HG3.out) 1
          have f2 := blk_frozen (HG3.out) 2
          refine pure_ (i := 0) (N := some 46) (v := ?_) (a' := ?_) #[true, false, false, false, false, false, false] rfl rfl (by kernel_rfl) (fun _ _ _ h => h) (Or.inl ⟨by rfl, ?_⟩) ?_ ?_
          rotate_left
          · intro w'
            go_simp
            with_reducible rfl
          rotate_left
          · simp only [Act.put, List.setIfInBounds_toArray, List.set_cons_zero, List.set_cons_succ, i64_w, i32_w]
            rfl
          refine pure_ (i := 1) (N := some 47) (v := ?_) (a' := ?_) #[true, true, false, false, false, false, false] rfl rfl (by kernel_rfl) (fun _ _ _ h => h) (Or.inl ⟨by rfl, ?_⟩) ?_ ?_
          rotate_left
          · intro w'
            go_simp
            with_reducible rfl
          rotate_left
          · simp only [Act.put, List.setIfInBounds_toArray, List.set_cons_zero, List.set_cons_succ, i64_w, i32_w]
            rfl
          refine pure_ (i := 2) (N := some 48) (v := ?_) (a' := ?_) #[true, true, true, false, false, false, false] rfl rfl (by kernel_rfl) (fun _ _ _ h => h) (Or.inl ⟨by rfl, ?_⟩) ?_ ?_
          rotate_left
          · intro w'
            go_simp
            with_reducible rfl
          rotate_left
          · simp only [Act.put, List.setIfInBounds_toArray, List.set_cons_zero, List.set_cons_succ, i64_w, i32_w]
            rfl
          refine pure_ (i := 3) (N := some 49) (v := ?_) (a' := ?_) #[true, true, true, true, false, false, false] rfl rfl (by kernel_rfl) (fun _ _ _ h => h) (Or.inl ⟨by rfl, ?_⟩) ?_ ?_
          rotate_left
          · intro w'
            go_simp
            with_reducible rfl
          rotate_left
          · simp only [Act.put, List.setIfInBounds_toArray, List.set_cons_zero, List.set_cons_succ, i64_w, i32_w]
            rfl
          refine take_ (i := 4) (N := some 50) (v := ?_) (a' := ?_) #[true, true, true, true, true, false, false] rfl rfl (by kernel_rfl) (fun _ _ _ h => h) (Or.inl ⟨by rfl, ?_⟩) hHeld ?_ ?_
          rotate_left
          · intro w' s0
            go_simp
            with_reducible rfl
          rotate_left
          · simp only [Act.put, List.setIfInBounds_toArray, List.set_cons_zero, List.set_cons_succ, i64_w, i32_w]
            rfl
          refine one_ (i := 5) (N := none) #[true, true, true, true, true, true, false] rfl rfl (by kernel_rfl) (by decide) (fun K hK => ?_)
          refine skip_ (w1 := ?_) (by rfl) rfl ?_ ?_
          rotate_left
          · go_simp
            rfl
          refine hK.out _ _ (blk_cell (blk_far (blk_far (blk_far (blk_drew HP3.out) hBG _) hBG _) hBG _) 7) (fun hHeld => ?_)
          clear hK K
          refine pure_ (i := 6) (N := some 3) (v := ?_) (a' := ?_) #[true, true, true, true, true, true, true] rfl rfl (by kernel_rfl) (fun _ _ _ h => h) (Or.inl ⟨by rfl, ?_⟩) ?_ ?_
          rotate_left
          · intro w'
            go_simp
            with_reducible rfl
          rotate_left
          · simp only [Act.put, List.setIfInBounds_toArray, List.set_cons_zero, List.set_cons_succ, i64_w, i32_w]
            rfl
          refine done_ (by kernel_rfl) ?_
          have hz := HZ2.out
          subst hz
          go_wp2_with fail
          have HGN := blk_drew (g_nil HG3.out)
          have HBN := (g_below (a := .slice none 0 0) (b := .slice none 0 0) (c := .slice none 0 0) (HB1.out.trans (HB3.out.mono (Nat.le_of_lt hGB)))).drew
          generalize (((w3.setCell ⟨w.heap.size, 0, none⟩ (.slice none 0 0)).setCell ⟨w.heap.size, 1, none⟩ (.slice none 0 0)).setCell ⟨w.heap.size, 2, none⟩ (.slice none 0 0)).drew = w9 at HGN HBN ⊢
          have z0 := blk_cell HGN 0
          have z1 := blk_cell HGN 1
          have z2 := blk_cell HGN 2
          refine bodyPost_ret (v := .tuple #[.agg #[.slice none 0 0, .slice none 0 0, .slice none 0 0], .int .i64 E']) (by simp [results, Tryz.results10, go_sem, z0, z1, z2]) rfl ?_
          exact ans_nil HBN
  · have h0b : (c != 0) = true := bne_iff_ne.2 h0
    have hz := HZ.out
    rw [if_neg h0] at hz
    subst hz
    go_enter Tryz.func10, Tryz.ntmps10
    go_wp2_with (first | (go_at_call 18; refine HL.out.mono ?_; rintro x w1 ⟨vl, rfl, hl, hb⟩; obtain ⟨Al, cl, rfl⟩ := Kd.R_slice hl; have HG1 := Aside0.mk (blk_below HGa.out hb); have HB1 := Aside0.mk (HA.out.trans (hb.mono (by omega))); have g0 := blk_cell HG1.out 0; have g1 := blk_cell HG1.out 1; have g2 := blk_cell HG1.out 2; have f0 := blk_frozen HG1.out 0; have f1 := blk_frozen HG1.out 1; have f2 := blk_frozen HG1.out 2; clear hl hb))
    have HGN := g_nil HG1.out
    have HBN := g_below (a := .slice none 0 0) (b := .slice none 0 0) (c := .slice none 0 0) HB1.out
    generalize ((w1.setCell ⟨w.heap.size, 0, none⟩ (.slice none 0 0)).setCell ⟨w.heap.size, 1, none⟩ (.slice none 0 0)).setCell ⟨w.heap.size, 2, none⟩ (.slice none 0 0) = w9 at HGN HBN ⊢
    have z0 := blk_cell HGN 0
    have z1 := blk_cell HGN 1
    have z2 := blk_cell HGN 2
    refine bodyPost_ret (v := .tuple #[.agg #[.slice none 0 0, .slice none 0 0, .slice none 0 0], .int .i64 800]) (by simp [results, Tryz.results10, go_sem, z0, z1, z2]) rfl ?_
    exact ans_nil HBN

def manifest_Parse.f (a0 : ByteArray) : Option (List S42 × List S44 × List ByteArray × Int) := if a0.size ≤ 9223372036854775807 then some (parseB a0) else none
theorem manifest_Parse.calls (a0 : ByteArray) (r1 : List S42) (r2 : List S44) (r3 : List ByteArray) (r4 : Int) (w : World) (h : manifest_Parse.f a0 = some (r1, r2, r3, r4)) :
    Calls Tryz.prog 10 #[.string a0] w fun e w' => ∃ v0_ v1_ v2_ : Value, e = .returned (.tuple #[.agg #[v0_, v1_, v2_], .int .i64 r4]) ∧ Kd.R k42 42 w' w.heap.size (fun k_ => some k_ ≠ (v2_ : Value).ownBlock) v0_ r1 ∧ Kd.R k44 44 w' w.heap.size (fun _ => True) v1_ r2 ∧ Kd.R Kd.string 9 w' w.heap.size (fun _ => True) v2_ r3 ∧ Below w.heap.size w w' := by
  unfold manifest_Parse.f at h
  split at h
  · rename_i hs
    have h2 := Option.some.inj h
    have hc := parse_calls a0 hs w
    rw [h2] at hc
    refine hc.mono ?_
    rintro e w1 ⟨v0, v1, v2, he, n1, n2, n3, hb⟩
    exact ⟨v0, v1, v2, he, Kd.R_mono n1 (fun k hk => hk.2), Kd.R_mono n2 (fun k hk => trivial), Kd.R_mono n3 (fun k hk => trivial), hb⟩
  · cases h
end Go.Proofs.YtefheailchihaaaGreatDoor.Print

end
section
namespace Go.Proofs.YtefheailchihaaaGreatDoor.Print
open Go.RowKit Go.Lib Go.Shelf Go.Proofs.YtefheailchihaaaGreatDoorW.PrintWords Go.Proofs.YtefheailchihaaaGreatDoorW.PrintLast Go.Proofs.YtefheailchihaaaGreatDoorW.PrintMore
set_option linter.unusedVariables false
set_option linter.unusedSimpArgs false
attribute [local go_sem ↓] Go.wp_at_zero Go.wp_at_succ

def wantE : List S42 := [⟨[⟨#[97, 46, 111]⟩], [⟨#[97, 46, 99]⟩], [⟨#[97, 46, 104]⟩], [], ⟨#[99, 99, 32, 45, 111, 50, 32, 97, 46, 99, 32, 45, 111, 32, 97, 46, 111, 32, 45, 103]⟩, true, ⟨#[116, 119, 111]⟩⟩, ⟨[⟨#[98, 46, 111]⟩], [⟨#[98, 46, 99]⟩], [], [⟨#[97, 46, 111]⟩], ⟨#[99, 99, 32, 45, 111, 50, 32, 98, 46, 99, 32, 45, 111, 32, 98, 46, 111, 32]⟩, true, ⟨#[116, 119, 111]⟩⟩]
def wantP : List S44 := [⟨⟨#[116, 119, 111]⟩, 2⟩]
def wantD : List ByteArray := [⟨#[98, 46, 111]⟩]
def badR : ByteArray := ⟨#[114, 117, 108, 101, 32, 99, 99, 10]⟩
def badB : ByteArray := ⟨#[98, 117, 105, 108, 100, 32, 97, 32, 58, 32, 99, 99, 32, 98, 10]⟩
theorem parse_text : parseB textB = (wantE, wantP, wantD, 0) := by kernel_rfl
theorem parse_badR : parseB badR = ([], [], [], 800) := by kernel_rfl
theorem parse_badB : parseB badB = ([], [], [], 800) := by kernel_rfl
theorem same_want : cruciblelaw0_SameGraph.f 100 wantE wantP wantD wantE wantP wantD = some true := by kernel_rfl

/-- Rows of one and of two, as they lie. -/
theorem C_one {α : Type} {d : Kd α} {w : World} {g t : Nat} {cells : Array Value} {x : α} {cs : List Value} (h : w.heap[g]? = some (.cells cells t (0, 0))) (hK : d.K w x cs) (hc : cells.toList = cs) : d.C w (some ⟨g, 0, none⟩) 1 [x] := by
  refine ⟨rfl, by omega, fun _ => ⟨_, rfl, fun j p hj => ?_⟩⟩
  cases j with
  | zero =>
    simp only [List.getElem?_cons_zero, Option.some.injEq] at hj
    subst hj
    refine ⟨cs, d.K_len hK, hK, fun i u hi => ?_⟩
    have h1 := blk_cell h i
    have h2 : (⟨g, 0, none⟩ : Addr).add (0 * d.sz + i) = ⟨g, i, none⟩ := by simp [Addr.add]; try omega
    rw [h2, h1, ← hi, ← hc, Array.getElem?_toList]
  | succ j => simp at hj
theorem C_two {α : Type} {d : Kd α} {w : World} {g t : Nat} {cells : Array Value} {x y : α} {c1 c2 : List Value} (h : w.heap[g]? = some (.cells cells t (0, 0))) (hK1 : d.K w x c1) (hK2 : d.K w y c2) (hc : cells.toList = c1 ++ c2) : d.C w (some ⟨g, 0, none⟩) 2 [x, y] := by
  refine ⟨rfl, by omega, fun _ => ⟨_, rfl, fun j p hj => ?_⟩⟩
  have l1 := d.K_len hK1
  have l2 := d.K_len hK2
  match j, hj with
  | 0, hj =>
    simp only [List.getElem?_cons_zero, Option.some.injEq] at hj
    subst hj
    refine ⟨c1, l1, hK1, fun i u hi => ?_⟩
    have h1 := blk_cell h i
    have h2 : (⟨g, 0, none⟩ : Addr).add (0 * d.sz + i) = ⟨g, i, none⟩ := by simp [Addr.add]; try omega
    have h3 : i < c1.length := (List.getElem?_eq_some_iff.1 hi).1
    rw [h2, h1, ← Array.getElem?_toList, hc, List.getElem?_append_left h3]
    exact hi
  | 1, hj =>
    simp only [List.getElem?_cons_succ, List.getElem?_cons_zero, Option.some.injEq] at hj
    subst hj
    refine ⟨c2, l2, hK2, fun i u hi => ?_⟩
    have h1 := blk_cell h (d.sz + i)
    have h2 : (⟨g, 0, none⟩ : Addr).add (1 * d.sz + i) = ⟨g, d.sz + i, none⟩ := by simp [Addr.add]; try omega
    rw [h2, h1, ← Array.getElem?_toList, hc, List.getElem?_append_right (by omega)]
    rw [show d.sz + i - c1.length = i from by omega]
    exact hi
  | j + 2, hj => simp at hj

set_option maxHeartbeats 4000000 in
set_option maxRecDepth 100000 in
theorem awake_calls (w : World) : Calls Tryz.prog 15 #[] w fun e w' => e = .returned (.bool true) ∧ Below w.heap.size w w' := by
  have HT := Lib.hid (fun W => cruciblelaw8_text.calls textB W rfl)
  have H1 := Lib.hid (fun W => manifest_Parse.calls textB wantE wantP wantD 0 W (by unfold manifest_Parse.f; rw [if_pos (by decide), parse_text]))
  have H2 := Lib.hid (fun W => manifest_Parse.calls badR [] [] [] 800 W (by unfold manifest_Parse.f; rw [if_pos (by decide), parse_badR]))
  have H3 := Lib.hid (fun W => manifest_Parse.calls badB [] [] [] 800 W (by unfold manifest_Parse.f; rw [if_pos (by decide), parse_badB]))
  obtain ⟨T, hT⟩ : ∃ T, textB = T := ⟨_, rfl⟩
  obtain ⟨wE, hE⟩ : ∃ q, wantE = q := ⟨_, rfl⟩
  obtain ⟨wP, hP⟩ : ∃ q, wantP = q := ⟨_, rfl⟩
  obtain ⟨wD, hD⟩ : ∃ q, wantD = q := ⟨_, rfl⟩
  rw [hT] at HT H1
  rw [hE, hP, hD] at H1
  have HE := Lib.hid hE
  have HP := Lib.hid hP
  have HD := Lib.hid hD
  clear hT hE hP hD
  go_enter Tryz.func15, Tryz.ntmps15
  go_upto_region 5 with (first | (go_at_call 16; refine (HT.out _).mono ?_; rintro x w1 ⟨rfl, hd⟩; have HB1 := Aside0.mk hd.below; clear hd) | (go_at_call_of 10 (Value.string T); refine (H1.out _).mono ?_; rintro x w2 ⟨v0, v1, v2, rfl, r0, r1, r2, hb⟩; obtain ⟨A0, c0, rfl, l0, C0⟩ := Kd.R_reads r0; obtain ⟨A1, c1, rfl, l1, C1⟩ := Kd.R_reads r1; obtain ⟨A2, c2, rfl, l2, C2⟩ := Kd.R_reads r2; have HB2 := Aside0.mk (HB1.out.trans (hb.mono HB1.out.size)); have HC0 := Aside0.mk C0; have HC1 := Aside0.mk C1; have HC2 := Aside0.mk C2; clear r0 r1 r2 C0 C1 C2 hb) | (go_at_call_of 10 (Value.string ⟨#[114, 117, 108, 101, 32, 99, 99, 10]⟩); refine (H2.out _).mono ?_; rintro x w3 ⟨u0, u1, u2, rfl, r0, r1, r2, hb⟩; obtain ⟨D0, d0, rfl⟩ := Kd.R_slice r0; obtain ⟨D1, d1, rfl⟩ := Kd.R_slice r1; obtain ⟨D2, d2, rfl⟩ := Kd.R_slice r2; have hal := (Below.refl w2.heap.size w2).alloc (Nat.le_refl _) (.cells #[.slice A0 wE.length c0, .slice A1 wP.length c1, .slice A2 wD.length c2] 26); have HB3 := Aside0.mk (HB2.out.trans ((hal.mono HB2.out.size).trans (hb.mono (Nat.le_trans HB2.out.size hal.size)))); have BT3 := Aside0.mk (blk_below (blk_new w2 (.cells #[.slice A0 wE.length c0, .slice A1 wP.length c1, .slice A2 wD.length c2] 26)) hb); have HC03 := Aside0.mk (Kd.C_below (Kd.C_below HC0.out hal) hb); have HC13 := Aside0.mk (Kd.C_below (Kd.C_below HC1.out hal) hb); have HC23 := Aside0.mk (Kd.C_below (Kd.C_below HC2.out hal) hb); clear r0 r1 r2 hal hb HC0 HC1 HC2) | (go_at_call_of 10 (Value.string ⟨#[98, 117, 105, 108, 100, 32, 97, 32, 58, 32, 99, 99, 32, 98, 10]⟩); refine (H3.out _).mono ?_; rintro x w4 ⟨u0, u1, u2, rfl, r0, r1, r2, hb⟩; obtain ⟨F0, f0, rfl⟩ := Kd.R_slice r0; obtain ⟨F1, f1, rfl⟩ := Kd.R_slice r1; obtain ⟨F2, f2, rfl⟩ := Kd.R_slice r2; have hal := (Below.refl w3.heap.size w3).alloc (Nat.le_refl _) (.cells #[.slice D0 0 d0, .slice D1 0 d1, .slice D2 0 d2] 26); have HB4 := Aside0.mk (HB3.out.trans ((hal.mono HB3.out.size).trans (hb.mono (Nat.le_trans HB3.out.size hal.size)))); have BT4 := Aside0.mk (blk_below (blk_below BT3.out hal) hb); have HC04 := Aside0.mk (Kd.C_below (Kd.C_below HC03.out hal) hb); have HC14 := Aside0.mk (Kd.C_below (Kd.C_below HC13.out hal) hb); have HC24 := Aside0.mk (Kd.C_below (Kd.C_below HC23.out hal) hb); clear r0 r1 r2 hal hb HC03 HC13 HC23 BT3))
  obtain ⟨b, hb⟩ : ∃ b, w4.heap.size = b := ⟨_, rfl⟩
  rw [hb]
  have hb4 : w4.heap.size = b := hb
  have k0 : Aside0 ((w4.alloc (.cells #[.slice F0 0 f0, .slice F1 0 f1, .slice F2 0 f2] 26)).heap[b]? = some (.cells #[.slice F0 0 f0, .slice F1 0 f1, .slice F2 0 f2] 26)) := ⟨by have := blk_new w4 (.cells #[.slice F0 0 f0, .slice F1 0 f1, .slice F2 0 f2] 26); rwa [hb] at this⟩
  have s0 : (w4.alloc (.cells #[.slice F0 0 f0, .slice F1 0 f1, .slice F2 0 f2] 26)).heap.size = b + 1 := by simp [hb]
  replace HB4 := Aside0.mk (below_alloc HB4.out (.cells #[.slice F0 0 f0, .slice F1 0 f1, .slice F2 0 f2] 26))
  replace BT4 := Aside0.mk (blk_alloc BT4.out (.cells #[.slice F0 0 f0, .slice F1 0 f1, .slice F2 0 f2] 26))
  replace HC04 := Aside0.mk (Kd.C_alloc HC04.out (.cells #[.slice F0 0 f0, .slice F1 0 f1, .slice F2 0 f2] 26))
  replace HC14 := Aside0.mk (Kd.C_alloc HC14.out (.cells #[.slice F0 0 f0, .slice F1 0 f1, .slice F2 0 f2] 26))
  replace HC24 := Aside0.mk (Kd.C_alloc HC24.out (.cells #[.slice F0 0 f0, .slice F1 0 f1, .slice F2 0 f2] 26))
  clear k0
  generalize w4.alloc (.cells #[.slice F0 0 f0, .slice F1 0 f1, .slice F2 0 f2] 26) = u0 at s0 HB4 BT4 HC04 HC14 HC24 ⊢
  have k1 : Aside0 ((u0.alloc (.cells #[.string ⟨#[97, 46, 111]⟩] 9)).heap[b + 1]? = some (.cells #[.string ⟨#[97, 46, 111]⟩] 9)) := ⟨by have := blk_new u0 (.cells #[.string ⟨#[97, 46, 111]⟩] 9); rwa [s0] at this⟩
  have s1 : (u0.alloc (.cells #[.string ⟨#[97, 46, 111]⟩] 9)).heap.size = b + 1 + 1 := by simp [s0]
  replace HB4 := Aside0.mk (below_alloc HB4.out (.cells #[.string ⟨#[97, 46, 111]⟩] 9))
  replace BT4 := Aside0.mk (blk_alloc BT4.out (.cells #[.string ⟨#[97, 46, 111]⟩] 9))
  replace HC04 := Aside0.mk (Kd.C_alloc HC04.out (.cells #[.string ⟨#[97, 46, 111]⟩] 9))
  replace HC14 := Aside0.mk (Kd.C_alloc HC14.out (.cells #[.string ⟨#[97, 46, 111]⟩] 9))
  replace HC24 := Aside0.mk (Kd.C_alloc HC24.out (.cells #[.string ⟨#[97, 46, 111]⟩] 9))
  generalize u0.alloc (.cells #[.string ⟨#[97, 46, 111]⟩] 9) = u1 at k1 s1 HB4 BT4 HC04 HC14 HC24 ⊢
  have k2 : Aside0 ((u1.alloc (.cells #[.string ⟨#[97, 46, 99]⟩] 9)).heap[b + 1 + 1]? = some (.cells #[.string ⟨#[97, 46, 99]⟩] 9)) := ⟨by have := blk_new u1 (.cells #[.string ⟨#[97, 46, 99]⟩] 9); rwa [s1] at this⟩
  have s2 : (u1.alloc (.cells #[.string ⟨#[97, 46, 99]⟩] 9)).heap.size = b + 1 + 1 + 1 := by simp [s1]
  replace k1 := Aside0.mk (blk_alloc k1.out (.cells #[.string ⟨#[97, 46, 99]⟩] 9))
  replace HB4 := Aside0.mk (below_alloc HB4.out (.cells #[.string ⟨#[97, 46, 99]⟩] 9))
  replace BT4 := Aside0.mk (blk_alloc BT4.out (.cells #[.string ⟨#[97, 46, 99]⟩] 9))
  replace HC04 := Aside0.mk (Kd.C_alloc HC04.out (.cells #[.string ⟨#[97, 46, 99]⟩] 9))
  replace HC14 := Aside0.mk (Kd.C_alloc HC14.out (.cells #[.string ⟨#[97, 46, 99]⟩] 9))
  replace HC24 := Aside0.mk (Kd.C_alloc HC24.out (.cells #[.string ⟨#[97, 46, 99]⟩] 9))
  generalize u1.alloc (.cells #[.string ⟨#[97, 46, 99]⟩] 9) = u2 at k1 k2 s2 HB4 BT4 HC04 HC14 HC24 ⊢
  have k3 : Aside0 ((u2.alloc (.cells #[.string ⟨#[97, 46, 104]⟩] 9)).heap[b + 1 + 1 + 1]? = some (.cells #[.string ⟨#[97, 46, 104]⟩] 9)) := ⟨by have := blk_new u2 (.cells #[.string ⟨#[97, 46, 104]⟩] 9); rwa [s2] at this⟩
  have s3 : (u2.alloc (.cells #[.string ⟨#[97, 46, 104]⟩] 9)).heap.size = b + 1 + 1 + 1 + 1 := by simp [s2]
  replace k1 := Aside0.mk (blk_alloc k1.out (.cells #[.string ⟨#[97, 46, 104]⟩] 9))
  replace k2 := Aside0.mk (blk_alloc k2.out (.cells #[.string ⟨#[97, 46, 104]⟩] 9))
  replace HB4 := Aside0.mk (below_alloc HB4.out (.cells #[.string ⟨#[97, 46, 104]⟩] 9))
  replace BT4 := Aside0.mk (blk_alloc BT4.out (.cells #[.string ⟨#[97, 46, 104]⟩] 9))
  replace HC04 := Aside0.mk (Kd.C_alloc HC04.out (.cells #[.string ⟨#[97, 46, 104]⟩] 9))
  replace HC14 := Aside0.mk (Kd.C_alloc HC14.out (.cells #[.string ⟨#[97, 46, 104]⟩] 9))
  replace HC24 := Aside0.mk (Kd.C_alloc HC24.out (.cells #[.string ⟨#[97, 46, 104]⟩] 9))
  generalize u2.alloc (.cells #[.string ⟨#[97, 46, 104]⟩] 9) = u3 at k1 k2 k3 s3 HB4 BT4 HC04 HC14 HC24 ⊢
  have k4 : Aside0 ((u3.alloc (.cells #[.string ⟨#[98, 46, 111]⟩] 9)).heap[b + 1 + 1 + 1 + 1]? = some (.cells #[.string ⟨#[98, 46, 111]⟩] 9)) := ⟨by have := blk_new u3 (.cells #[.string ⟨#[98, 46, 111]⟩] 9); rwa [s3] at this⟩
  have s4 : (u3.alloc (.cells #[.string ⟨#[98, 46, 111]⟩] 9)).heap.size = b + 1 + 1 + 1 + 1 + 1 := by simp [s3]
  replace k1 := Aside0.mk (blk_alloc k1.out (.cells #[.string ⟨#[98, 46, 111]⟩] 9))
  replace k2 := Aside0.mk (blk_alloc k2.out (.cells #[.string ⟨#[98, 46, 111]⟩] 9))
  replace k3 := Aside0.mk (blk_alloc k3.out (.cells #[.string ⟨#[98, 46, 111]⟩] 9))
  replace HB4 := Aside0.mk (below_alloc HB4.out (.cells #[.string ⟨#[98, 46, 111]⟩] 9))
  replace BT4 := Aside0.mk (blk_alloc BT4.out (.cells #[.string ⟨#[98, 46, 111]⟩] 9))
  replace HC04 := Aside0.mk (Kd.C_alloc HC04.out (.cells #[.string ⟨#[98, 46, 111]⟩] 9))
  replace HC14 := Aside0.mk (Kd.C_alloc HC14.out (.cells #[.string ⟨#[98, 46, 111]⟩] 9))
  replace HC24 := Aside0.mk (Kd.C_alloc HC24.out (.cells #[.string ⟨#[98, 46, 111]⟩] 9))
  generalize u3.alloc (.cells #[.string ⟨#[98, 46, 111]⟩] 9) = u4 at k1 k2 k3 k4 s4 HB4 BT4 HC04 HC14 HC24 ⊢
  have k5 : Aside0 ((u4.alloc (.cells #[.string ⟨#[98, 46, 99]⟩] 9)).heap[b + 1 + 1 + 1 + 1 + 1]? = some (.cells #[.string ⟨#[98, 46, 99]⟩] 9)) := ⟨by have := blk_new u4 (.cells #[.string ⟨#[98, 46, 99]⟩] 9); rwa [s4] at this⟩
  have s5 : (u4.alloc (.cells #[.string ⟨#[98, 46, 99]⟩] 9)).heap.size = b + 1 + 1 + 1 + 1 + 1 + 1 := by simp [s4]
  replace k1 := Aside0.mk (blk_alloc k1.out (.cells #[.string ⟨#[98, 46, 99]⟩] 9))
  replace k2 := Aside0.mk (blk_alloc k2.out (.cells #[.string ⟨#[98, 46, 99]⟩] 9))
  replace k3 := Aside0.mk (blk_alloc k3.out (.cells #[.string ⟨#[98, 46, 99]⟩] 9))
  replace k4 := Aside0.mk (blk_alloc k4.out (.cells #[.string ⟨#[98, 46, 99]⟩] 9))
  replace HB4 := Aside0.mk (below_alloc HB4.out (.cells #[.string ⟨#[98, 46, 99]⟩] 9))
  replace BT4 := Aside0.mk (blk_alloc BT4.out (.cells #[.string ⟨#[98, 46, 99]⟩] 9))
  replace HC04 := Aside0.mk (Kd.C_alloc HC04.out (.cells #[.string ⟨#[98, 46, 99]⟩] 9))
  replace HC14 := Aside0.mk (Kd.C_alloc HC14.out (.cells #[.string ⟨#[98, 46, 99]⟩] 9))
  replace HC24 := Aside0.mk (Kd.C_alloc HC24.out (.cells #[.string ⟨#[98, 46, 99]⟩] 9))
  generalize u4.alloc (.cells #[.string ⟨#[98, 46, 99]⟩] 9) = u5 at k1 k2 k3 k4 k5 s5 HB4 BT4 HC04 HC14 HC24 ⊢
  have k6 : Aside0 ((u5.alloc (.cells #[.string ⟨#[97, 46, 111]⟩] 9)).heap[b + 1 + 1 + 1 + 1 + 1 + 1]? = some (.cells #[.string ⟨#[97, 46, 111]⟩] 9)) := ⟨by have := blk_new u5 (.cells #[.string ⟨#[97, 46, 111]⟩] 9); rwa [s5] at this⟩
  have s6 : (u5.alloc (.cells #[.string ⟨#[97, 46, 111]⟩] 9)).heap.size = b + 1 + 1 + 1 + 1 + 1 + 1 + 1 := by simp [s5]
  replace k1 := Aside0.mk (blk_alloc k1.out (.cells #[.string ⟨#[97, 46, 111]⟩] 9))
  replace k2 := Aside0.mk (blk_alloc k2.out (.cells #[.string ⟨#[97, 46, 111]⟩] 9))
  replace k3 := Aside0.mk (blk_alloc k3.out (.cells #[.string ⟨#[97, 46, 111]⟩] 9))
  replace k4 := Aside0.mk (blk_alloc k4.out (.cells #[.string ⟨#[97, 46, 111]⟩] 9))
  replace k5 := Aside0.mk (blk_alloc k5.out (.cells #[.string ⟨#[97, 46, 111]⟩] 9))
  replace HB4 := Aside0.mk (below_alloc HB4.out (.cells #[.string ⟨#[97, 46, 111]⟩] 9))
  replace BT4 := Aside0.mk (blk_alloc BT4.out (.cells #[.string ⟨#[97, 46, 111]⟩] 9))
  replace HC04 := Aside0.mk (Kd.C_alloc HC04.out (.cells #[.string ⟨#[97, 46, 111]⟩] 9))
  replace HC14 := Aside0.mk (Kd.C_alloc HC14.out (.cells #[.string ⟨#[97, 46, 111]⟩] 9))
  replace HC24 := Aside0.mk (Kd.C_alloc HC24.out (.cells #[.string ⟨#[97, 46, 111]⟩] 9))
  generalize u5.alloc (.cells #[.string ⟨#[97, 46, 111]⟩] 9) = u6 at k1 k2 k3 k4 k5 k6 s6 HB4 BT4 HC04 HC14 HC24 ⊢
  have k7 : Aside0 ((u6.alloc (.cells #[.slice (some ⟨b + 1, 0, none⟩) 1 1, .slice (some ⟨b + 1 + 1, 0, none⟩) 1 1, .slice (some ⟨b + 1 + 1 + 1, 0, none⟩) 1 1, .slice none 0 0, .string ⟨#[99, 99, 32, 45, 111, 50, 32, 97, 46, 99, 32, 45, 111, 32, 97, 46, 111, 32, 45, 103]⟩, .bool true, .string ⟨#[116, 119, 111]⟩, .slice (some ⟨b + 1 + 1 + 1 + 1, 0, none⟩) 1 1, .slice (some ⟨b + 1 + 1 + 1 + 1 + 1, 0, none⟩) 1 1, .slice none 0 0, .slice (some ⟨b + 1 + 1 + 1 + 1 + 1 + 1, 0, none⟩) 1 1, .string ⟨#[99, 99, 32, 45, 111, 50, 32, 98, 46, 99, 32, 45, 111, 32, 98, 46, 111, 32]⟩, .bool true, .string ⟨#[116, 119, 111]⟩] 42)).heap[b + 1 + 1 + 1 + 1 + 1 + 1 + 1]? = some (.cells #[.slice (some ⟨b + 1, 0, none⟩) 1 1, .slice (some ⟨b + 1 + 1, 0, none⟩) 1 1, .slice (some ⟨b + 1 + 1 + 1, 0, none⟩) 1 1, .slice none 0 0, .string ⟨#[99, 99, 32, 45, 111, 50, 32, 97, 46, 99, 32, 45, 111, 32, 97, 46, 111, 32, 45, 103]⟩, .bool true, .string ⟨#[116, 119, 111]⟩, .slice (some ⟨b + 1 + 1 + 1 + 1, 0, none⟩) 1 1, .slice (some ⟨b + 1 + 1 + 1 + 1 + 1, 0, none⟩) 1 1, .slice none 0 0, .slice (some ⟨b + 1 + 1 + 1 + 1 + 1 + 1, 0, none⟩) 1 1, .string ⟨#[99, 99, 32, 45, 111, 50, 32, 98, 46, 99, 32, 45, 111, 32, 98, 46, 111, 32]⟩, .bool true, .string ⟨#[116, 119, 111]⟩] 42)) := ⟨by have := blk_new u6 (.cells #[.slice (some ⟨b + 1, 0, none⟩) 1 1, .slice (some ⟨b + 1 + 1, 0, none⟩) 1 1, .slice (some ⟨b + 1 + 1 + 1, 0, none⟩) 1 1, .slice none 0 0, .string ⟨#[99, 99, 32, 45, 111, 50, 32, 97, 46, 99, 32, 45, 111, 32, 97, 46, 111, 32, 45, 103]⟩, .bool true, .string ⟨#[116, 119, 111]⟩, .slice (some ⟨b + 1 + 1 + 1 + 1, 0, none⟩) 1 1, .slice (some ⟨b + 1 + 1 + 1 + 1 + 1, 0, none⟩) 1 1, .slice none 0 0, .slice (some ⟨b + 1 + 1 + 1 + 1 + 1 + 1, 0, none⟩) 1 1, .string ⟨#[99, 99, 32, 45, 111, 50, 32, 98, 46, 99, 32, 45, 111, 32, 98, 46, 111, 32]⟩, .bool true, .string ⟨#[116, 119, 111]⟩] 42); rwa [s6] at this⟩
  have s7 : (u6.alloc (.cells #[.slice (some ⟨b + 1, 0, none⟩) 1 1, .slice (some ⟨b + 1 + 1, 0, none⟩) 1 1, .slice (some ⟨b + 1 + 1 + 1, 0, none⟩) 1 1, .slice none 0 0, .string ⟨#[99, 99, 32, 45, 111, 50, 32, 97, 46, 99, 32, 45, 111, 32, 97, 46, 111, 32, 45, 103]⟩, .bool true, .string ⟨#[116, 119, 111]⟩, .slice (some ⟨b + 1 + 1 + 1 + 1, 0, none⟩) 1 1, .slice (some ⟨b + 1 + 1 + 1 + 1 + 1, 0, none⟩) 1 1, .slice none 0 0, .slice (some ⟨b + 1 + 1 + 1 + 1 + 1 + 1, 0, none⟩) 1 1, .string ⟨#[99, 99, 32, 45, 111, 50, 32, 98, 46, 99, 32, 45, 111, 32, 98, 46, 111, 32]⟩, .bool true, .string ⟨#[116, 119, 111]⟩] 42)).heap.size = b + 1 + 1 + 1 + 1 + 1 + 1 + 1 + 1 := by simp [s6]
  replace k1 := Aside0.mk (blk_alloc k1.out (.cells #[.slice (some ⟨b + 1, 0, none⟩) 1 1, .slice (some ⟨b + 1 + 1, 0, none⟩) 1 1, .slice (some ⟨b + 1 + 1 + 1, 0, none⟩) 1 1, .slice none 0 0, .string ⟨#[99, 99, 32, 45, 111, 50, 32, 97, 46, 99, 32, 45, 111, 32, 97, 46, 111, 32, 45, 103]⟩, .bool true, .string ⟨#[116, 119, 111]⟩, .slice (some ⟨b + 1 + 1 + 1 + 1, 0, none⟩) 1 1, .slice (some ⟨b + 1 + 1 + 1 + 1 + 1, 0, none⟩) 1 1, .slice none 0 0, .slice (some ⟨b + 1 + 1 + 1 + 1 + 1 + 1, 0, none⟩) 1 1, .string ⟨#[99, 99, 32, 45, 111, 50, 32, 98, 46, 99, 32, 45, 111, 32, 98, 46, 111, 32]⟩, .bool true, .string ⟨#[116, 119, 111]⟩] 42))
  replace k2 := Aside0.mk (blk_alloc k2.out (.cells #[.slice (some ⟨b + 1, 0, none⟩) 1 1, .slice (some ⟨b + 1 + 1, 0, none⟩) 1 1, .slice (some ⟨b + 1 + 1 + 1, 0, none⟩) 1 1, .slice none 0 0, .string ⟨#[99, 99, 32, 45, 111, 50, 32, 97, 46, 99, 32, 45, 111, 32, 97, 46, 111, 32, 45, 103]⟩, .bool true, .string ⟨#[116, 119, 111]⟩, .slice (some ⟨b + 1 + 1 + 1 + 1, 0, none⟩) 1 1, .slice (some ⟨b + 1 + 1 + 1 + 1 + 1, 0, none⟩) 1 1, .slice none 0 0, .slice (some ⟨b + 1 + 1 + 1 + 1 + 1 + 1, 0, none⟩) 1 1, .string ⟨#[99, 99, 32, 45, 111, 50, 32, 98, 46, 99, 32, 45, 111, 32, 98, 46, 111, 32]⟩, .bool true, .string ⟨#[116, 119, 111]⟩] 42))
  replace k3 := Aside0.mk (blk_alloc k3.out (.cells #[.slice (some ⟨b + 1, 0, none⟩) 1 1, .slice (some ⟨b + 1 + 1, 0, none⟩) 1 1, .slice (some ⟨b + 1 + 1 + 1, 0, none⟩) 1 1, .slice none 0 0, .string ⟨#[99, 99, 32, 45, 111, 50, 32, 97, 46, 99, 32, 45, 111, 32, 97, 46, 111, 32, 45, 103]⟩, .bool true, .string ⟨#[116, 119, 111]⟩, .slice (some ⟨b + 1 + 1 + 1 + 1, 0, none⟩) 1 1, .slice (some ⟨b + 1 + 1 + 1 + 1 + 1, 0, none⟩) 1 1, .slice none 0 0, .slice (some ⟨b + 1 + 1 + 1 + 1 + 1 + 1, 0, none⟩) 1 1, .string ⟨#[99, 99, 32, 45, 111, 50, 32, 98, 46, 99, 32, 45, 111, 32, 98, 46, 111, 32]⟩, .bool true, .string ⟨#[116, 119, 111]⟩] 42))
  replace k4 := Aside0.mk (blk_alloc k4.out (.cells #[.slice (some ⟨b + 1, 0, none⟩) 1 1, .slice (some ⟨b + 1 + 1, 0, none⟩) 1 1, .slice (some ⟨b + 1 + 1 + 1, 0, none⟩) 1 1, .slice none 0 0, .string ⟨#[99, 99, 32, 45, 111, 50, 32, 97, 46, 99, 32, 45, 111, 32, 97, 46, 111, 32, 45, 103]⟩, .bool true, .string ⟨#[116, 119, 111]⟩, .slice (some ⟨b + 1 + 1 + 1 + 1, 0, none⟩) 1 1, .slice (some ⟨b + 1 + 1 + 1 + 1 + 1, 0, none⟩) 1 1, .slice none 0 0, .slice (some ⟨b + 1 + 1 + 1 + 1 + 1 + 1, 0, none⟩) 1 1, .string ⟨#[99, 99, 32, 45, 111, 50, 32, 98, 46, 99, 32, 45, 111, 32, 98, 46, 111, 32]⟩, .bool true, .string ⟨#[116, 119, 111]⟩] 42))
  replace k5 := Aside0.mk (blk_alloc k5.out (.cells #[.slice (some ⟨b + 1, 0, none⟩) 1 1, .slice (some ⟨b + 1 + 1, 0, none⟩) 1 1, .slice (some ⟨b + 1 + 1 + 1, 0, none⟩) 1 1, .slice none 0 0, .string ⟨#[99, 99, 32, 45, 111, 50, 32, 97, 46, 99, 32, 45, 111, 32, 97, 46, 111, 32, 45, 103]⟩, .bool true, .string ⟨#[116, 119, 111]⟩, .slice (some ⟨b + 1 + 1 + 1 + 1, 0, none⟩) 1 1, .slice (some ⟨b + 1 + 1 + 1 + 1 + 1, 0, none⟩) 1 1, .slice none 0 0, .slice (some ⟨b + 1 + 1 + 1 + 1 + 1 + 1, 0, none⟩) 1 1, .string ⟨#[99, 99, 32, 45, 111, 50, 32, 98, 46, 99, 32, 45, 111, 32, 98, 46, 111, 32]⟩, .bool true, .string ⟨#[116, 119, 111]⟩] 42))
  replace k6 := Aside0.mk (blk_alloc k6.out (.cells #[.slice (some ⟨b + 1, 0, none⟩) 1 1, .slice (some ⟨b + 1 + 1, 0, none⟩) 1 1, .slice (some ⟨b + 1 + 1 + 1, 0, none⟩) 1 1, .slice none 0 0, .string ⟨#[99, 99, 32, 45, 111, 50, 32, 97, 46, 99, 32, 45, 111, 32, 97, 46, 111, 32, 45, 103]⟩, .bool true, .string ⟨#[116, 119, 111]⟩, .slice (some ⟨b + 1 + 1 + 1 + 1, 0, none⟩) 1 1, .slice (some ⟨b + 1 + 1 + 1 + 1 + 1, 0, none⟩) 1 1, .slice none 0 0, .slice (some ⟨b + 1 + 1 + 1 + 1 + 1 + 1, 0, none⟩) 1 1, .string ⟨#[99, 99, 32, 45, 111, 50, 32, 98, 46, 99, 32, 45, 111, 32, 98, 46, 111, 32]⟩, .bool true, .string ⟨#[116, 119, 111]⟩] 42))
  replace HB4 := Aside0.mk (below_alloc HB4.out (.cells #[.slice (some ⟨b + 1, 0, none⟩) 1 1, .slice (some ⟨b + 1 + 1, 0, none⟩) 1 1, .slice (some ⟨b + 1 + 1 + 1, 0, none⟩) 1 1, .slice none 0 0, .string ⟨#[99, 99, 32, 45, 111, 50, 32, 97, 46, 99, 32, 45, 111, 32, 97, 46, 111, 32, 45, 103]⟩, .bool true, .string ⟨#[116, 119, 111]⟩, .slice (some ⟨b + 1 + 1 + 1 + 1, 0, none⟩) 1 1, .slice (some ⟨b + 1 + 1 + 1 + 1 + 1, 0, none⟩) 1 1, .slice none 0 0, .slice (some ⟨b + 1 + 1 + 1 + 1 + 1 + 1, 0, none⟩) 1 1, .string ⟨#[99, 99, 32, 45, 111, 50, 32, 98, 46, 99, 32, 45, 111, 32, 98, 46, 111, 32]⟩, .bool true, .string ⟨#[116, 119, 111]⟩] 42))
  replace BT4 := Aside0.mk (blk_alloc BT4.out (.cells #[.slice (some ⟨b + 1, 0, none⟩) 1 1, .slice (some ⟨b + 1 + 1, 0, none⟩) 1 1, .slice (some ⟨b + 1 + 1 + 1, 0, none⟩) 1 1, .slice none 0 0, .string ⟨#[99, 99, 32, 45, 111, 50, 32, 97, 46, 99, 32, 45, 111, 32, 97, 46, 111, 32, 45, 103]⟩, .bool true, .string ⟨#[116, 119, 111]⟩, .slice (some ⟨b + 1 + 1 + 1 + 1, 0, none⟩) 1 1, .slice (some ⟨b + 1 + 1 + 1 + 1 + 1, 0, none⟩) 1 1, .slice none 0 0, .slice (some ⟨b + 1 + 1 + 1 + 1 + 1 + 1, 0, none⟩) 1 1, .string ⟨#[99, 99, 32, 45, 111, 50, 32, 98, 46, 99, 32, 45, 111, 32, 98, 46, 111, 32]⟩, .bool true, .string ⟨#[116, 119, 111]⟩] 42))
  replace HC04 := Aside0.mk (Kd.C_alloc HC04.out (.cells #[.slice (some ⟨b + 1, 0, none⟩) 1 1, .slice (some ⟨b + 1 + 1, 0, none⟩) 1 1, .slice (some ⟨b + 1 + 1 + 1, 0, none⟩) 1 1, .slice none 0 0, .string ⟨#[99, 99, 32, 45, 111, 50, 32, 97, 46, 99, 32, 45, 111, 32, 97, 46, 111, 32, 45, 103]⟩, .bool true, .string ⟨#[116, 119, 111]⟩, .slice (some ⟨b + 1 + 1 + 1 + 1, 0, none⟩) 1 1, .slice (some ⟨b + 1 + 1 + 1 + 1 + 1, 0, none⟩) 1 1, .slice none 0 0, .slice (some ⟨b + 1 + 1 + 1 + 1 + 1 + 1, 0, none⟩) 1 1, .string ⟨#[99, 99, 32, 45, 111, 50, 32, 98, 46, 99, 32, 45, 111, 32, 98, 46, 111, 32]⟩, .bool true, .string ⟨#[116, 119, 111]⟩] 42))
  replace HC14 := Aside0.mk (Kd.C_alloc HC14.out (.cells #[.slice (some ⟨b + 1, 0, none⟩) 1 1, .slice (some ⟨b + 1 + 1, 0, none⟩) 1 1, .slice (some ⟨b + 1 + 1 + 1, 0, none⟩) 1 1, .slice none 0 0, .string ⟨#[99, 99, 32, 45, 111, 50, 32, 97, 46, 99, 32, 45, 111, 32, 97, 46, 111, 32, 45, 103]⟩, .bool true, .string ⟨#[116, 119, 111]⟩, .slice (some ⟨b + 1 + 1 + 1 + 1, 0, none⟩) 1 1, .slice (some ⟨b + 1 + 1 + 1 + 1 + 1, 0, none⟩) 1 1, .slice none 0 0, .slice (some ⟨b + 1 + 1 + 1 + 1 + 1 + 1, 0, none⟩) 1 1, .string ⟨#[99, 99, 32, 45, 111, 50, 32, 98, 46, 99, 32, 45, 111, 32, 98, 46, 111, 32]⟩, .bool true, .string ⟨#[116, 119, 111]⟩] 42))
  replace HC24 := Aside0.mk (Kd.C_alloc HC24.out (.cells #[.slice (some ⟨b + 1, 0, none⟩) 1 1, .slice (some ⟨b + 1 + 1, 0, none⟩) 1 1, .slice (some ⟨b + 1 + 1 + 1, 0, none⟩) 1 1, .slice none 0 0, .string ⟨#[99, 99, 32, 45, 111, 50, 32, 97, 46, 99, 32, 45, 111, 32, 97, 46, 111, 32, 45, 103]⟩, .bool true, .string ⟨#[116, 119, 111]⟩, .slice (some ⟨b + 1 + 1 + 1 + 1, 0, none⟩) 1 1, .slice (some ⟨b + 1 + 1 + 1 + 1 + 1, 0, none⟩) 1 1, .slice none 0 0, .slice (some ⟨b + 1 + 1 + 1 + 1 + 1 + 1, 0, none⟩) 1 1, .string ⟨#[99, 99, 32, 45, 111, 50, 32, 98, 46, 99, 32, 45, 111, 32, 98, 46, 111, 32]⟩, .bool true, .string ⟨#[116, 119, 111]⟩] 42))
  generalize u6.alloc (.cells #[.slice (some ⟨b + 1, 0, none⟩) 1 1, .slice (some ⟨b + 1 + 1, 0, none⟩) 1 1, .slice (some ⟨b + 1 + 1 + 1, 0, none⟩) 1 1, .slice none 0 0, .string ⟨#[99, 99, 32, 45, 111, 50, 32, 97, 46, 99, 32, 45, 111, 32, 97, 46, 111, 32, 45, 103]⟩, .bool true, .string ⟨#[116, 119, 111]⟩, .slice (some ⟨b + 1 + 1 + 1 + 1, 0, none⟩) 1 1, .slice (some ⟨b + 1 + 1 + 1 + 1 + 1, 0, none⟩) 1 1, .slice none 0 0, .slice (some ⟨b + 1 + 1 + 1 + 1 + 1 + 1, 0, none⟩) 1 1, .string ⟨#[99, 99, 32, 45, 111, 50, 32, 98, 46, 99, 32, 45, 111, 32, 98, 46, 111, 32]⟩, .bool true, .string ⟨#[116, 119, 111]⟩] 42) = u7 at k1 k2 k3 k4 k5 k6 k7 s7 HB4 BT4 HC04 HC14 HC24 ⊢
  have k8 : Aside0 ((u7.alloc (.cells #[.string ⟨#[116, 119, 111]⟩, .int .i64 2] 44)).heap[b + 1 + 1 + 1 + 1 + 1 + 1 + 1 + 1]? = some (.cells #[.string ⟨#[116, 119, 111]⟩, .int .i64 2] 44)) := ⟨by have := blk_new u7 (.cells #[.string ⟨#[116, 119, 111]⟩, .int .i64 2] 44); rwa [s7] at this⟩
  have s8 : (u7.alloc (.cells #[.string ⟨#[116, 119, 111]⟩, .int .i64 2] 44)).heap.size = b + 1 + 1 + 1 + 1 + 1 + 1 + 1 + 1 + 1 := by simp [s7]
  replace k1 := Aside0.mk (blk_alloc k1.out (.cells #[.string ⟨#[116, 119, 111]⟩, .int .i64 2] 44))
  replace k2 := Aside0.mk (blk_alloc k2.out (.cells #[.string ⟨#[116, 119, 111]⟩, .int .i64 2] 44))
  replace k3 := Aside0.mk (blk_alloc k3.out (.cells #[.string ⟨#[116, 119, 111]⟩, .int .i64 2] 44))
  replace k4 := Aside0.mk (blk_alloc k4.out (.cells #[.string ⟨#[116, 119, 111]⟩, .int .i64 2] 44))
  replace k5 := Aside0.mk (blk_alloc k5.out (.cells #[.string ⟨#[116, 119, 111]⟩, .int .i64 2] 44))
  replace k6 := Aside0.mk (blk_alloc k6.out (.cells #[.string ⟨#[116, 119, 111]⟩, .int .i64 2] 44))
  replace k7 := Aside0.mk (blk_alloc k7.out (.cells #[.string ⟨#[116, 119, 111]⟩, .int .i64 2] 44))
  replace HB4 := Aside0.mk (below_alloc HB4.out (.cells #[.string ⟨#[116, 119, 111]⟩, .int .i64 2] 44))
  replace BT4 := Aside0.mk (blk_alloc BT4.out (.cells #[.string ⟨#[116, 119, 111]⟩, .int .i64 2] 44))
  replace HC04 := Aside0.mk (Kd.C_alloc HC04.out (.cells #[.string ⟨#[116, 119, 111]⟩, .int .i64 2] 44))
  replace HC14 := Aside0.mk (Kd.C_alloc HC14.out (.cells #[.string ⟨#[116, 119, 111]⟩, .int .i64 2] 44))
  replace HC24 := Aside0.mk (Kd.C_alloc HC24.out (.cells #[.string ⟨#[116, 119, 111]⟩, .int .i64 2] 44))
  generalize u7.alloc (.cells #[.string ⟨#[116, 119, 111]⟩, .int .i64 2] 44) = u8 at k1 k2 k3 k4 k5 k6 k7 k8 s8 HB4 BT4 HC04 HC14 HC24 ⊢
  have k9 : Aside0 ((u8.alloc (.cells #[.string ⟨#[98, 46, 111]⟩] 9)).heap[b + 1 + 1 + 1 + 1 + 1 + 1 + 1 + 1 + 1]? = some (.cells #[.string ⟨#[98, 46, 111]⟩] 9)) := ⟨by have := blk_new u8 (.cells #[.string ⟨#[98, 46, 111]⟩] 9); rwa [s8] at this⟩
  have s9 : (u8.alloc (.cells #[.string ⟨#[98, 46, 111]⟩] 9)).heap.size = b + 1 + 1 + 1 + 1 + 1 + 1 + 1 + 1 + 1 + 1 := by simp [s8]
  replace k1 := Aside0.mk (blk_alloc k1.out (.cells #[.string ⟨#[98, 46, 111]⟩] 9))
  replace k2 := Aside0.mk (blk_alloc k2.out (.cells #[.string ⟨#[98, 46, 111]⟩] 9))
  replace k3 := Aside0.mk (blk_alloc k3.out (.cells #[.string ⟨#[98, 46, 111]⟩] 9))
  replace k4 := Aside0.mk (blk_alloc k4.out (.cells #[.string ⟨#[98, 46, 111]⟩] 9))
  replace k5 := Aside0.mk (blk_alloc k5.out (.cells #[.string ⟨#[98, 46, 111]⟩] 9))
  replace k6 := Aside0.mk (blk_alloc k6.out (.cells #[.string ⟨#[98, 46, 111]⟩] 9))
  replace k7 := Aside0.mk (blk_alloc k7.out (.cells #[.string ⟨#[98, 46, 111]⟩] 9))
  replace k8 := Aside0.mk (blk_alloc k8.out (.cells #[.string ⟨#[98, 46, 111]⟩] 9))
  replace HB4 := Aside0.mk (below_alloc HB4.out (.cells #[.string ⟨#[98, 46, 111]⟩] 9))
  replace BT4 := Aside0.mk (blk_alloc BT4.out (.cells #[.string ⟨#[98, 46, 111]⟩] 9))
  replace HC04 := Aside0.mk (Kd.C_alloc HC04.out (.cells #[.string ⟨#[98, 46, 111]⟩] 9))
  replace HC14 := Aside0.mk (Kd.C_alloc HC14.out (.cells #[.string ⟨#[98, 46, 111]⟩] 9))
  replace HC24 := Aside0.mk (Kd.C_alloc HC24.out (.cells #[.string ⟨#[98, 46, 111]⟩] 9))
  generalize u8.alloc (.cells #[.string ⟨#[98, 46, 111]⟩] 9) = u9 at k1 k2 k3 k4 k5 k6 k7 k8 k9 s9 HB4 BT4 HC04 HC14 HC24 ⊢
  have k10 : Aside0 ((u9.alloc (.cells #[.slice (some ⟨b + 1 + 1 + 1 + 1 + 1 + 1 + 1, 0, none⟩) 2 2, .slice (some ⟨b + 1 + 1 + 1 + 1 + 1 + 1 + 1 + 1, 0, none⟩) 1 1, .slice (some ⟨b + 1 + 1 + 1 + 1 + 1 + 1 + 1 + 1 + 1, 0, none⟩) 1 1] 26)).heap[b + 1 + 1 + 1 + 1 + 1 + 1 + 1 + 1 + 1 + 1]? = some (.cells #[.slice (some ⟨b + 1 + 1 + 1 + 1 + 1 + 1 + 1, 0, none⟩) 2 2, .slice (some ⟨b + 1 + 1 + 1 + 1 + 1 + 1 + 1 + 1, 0, none⟩) 1 1, .slice (some ⟨b + 1 + 1 + 1 + 1 + 1 + 1 + 1 + 1 + 1, 0, none⟩) 1 1] 26)) := ⟨by have := blk_new u9 (.cells #[.slice (some ⟨b + 1 + 1 + 1 + 1 + 1 + 1 + 1, 0, none⟩) 2 2, .slice (some ⟨b + 1 + 1 + 1 + 1 + 1 + 1 + 1 + 1, 0, none⟩) 1 1, .slice (some ⟨b + 1 + 1 + 1 + 1 + 1 + 1 + 1 + 1 + 1, 0, none⟩) 1 1] 26); rwa [s9] at this⟩
  have s10 : (u9.alloc (.cells #[.slice (some ⟨b + 1 + 1 + 1 + 1 + 1 + 1 + 1, 0, none⟩) 2 2, .slice (some ⟨b + 1 + 1 + 1 + 1 + 1 + 1 + 1 + 1, 0, none⟩) 1 1, .slice (some ⟨b + 1 + 1 + 1 + 1 + 1 + 1 + 1 + 1 + 1, 0, none⟩) 1 1] 26)).heap.size = b + 1 + 1 + 1 + 1 + 1 + 1 + 1 + 1 + 1 + 1 + 1 := by simp [s9]
  replace k1 := Aside0.mk (blk_alloc k1.out (.cells #[.slice (some ⟨b + 1 + 1 + 1 + 1 + 1 + 1 + 1, 0, none⟩) 2 2, .slice (some ⟨b + 1 + 1 + 1 + 1 + 1 + 1 + 1 + 1, 0, none⟩) 1 1, .slice (some ⟨b + 1 + 1 + 1 + 1 + 1 + 1 + 1 + 1 + 1, 0, none⟩) 1 1] 26))
  replace k2 := Aside0.mk (blk_alloc k2.out (.cells #[.slice (some ⟨b + 1 + 1 + 1 + 1 + 1 + 1 + 1, 0, none⟩) 2 2, .slice (some ⟨b + 1 + 1 + 1 + 1 + 1 + 1 + 1 + 1, 0, none⟩) 1 1, .slice (some ⟨b + 1 + 1 + 1 + 1 + 1 + 1 + 1 + 1 + 1, 0, none⟩) 1 1] 26))
  replace k3 := Aside0.mk (blk_alloc k3.out (.cells #[.slice (some ⟨b + 1 + 1 + 1 + 1 + 1 + 1 + 1, 0, none⟩) 2 2, .slice (some ⟨b + 1 + 1 + 1 + 1 + 1 + 1 + 1 + 1, 0, none⟩) 1 1, .slice (some ⟨b + 1 + 1 + 1 + 1 + 1 + 1 + 1 + 1 + 1, 0, none⟩) 1 1] 26))
  replace k4 := Aside0.mk (blk_alloc k4.out (.cells #[.slice (some ⟨b + 1 + 1 + 1 + 1 + 1 + 1 + 1, 0, none⟩) 2 2, .slice (some ⟨b + 1 + 1 + 1 + 1 + 1 + 1 + 1 + 1, 0, none⟩) 1 1, .slice (some ⟨b + 1 + 1 + 1 + 1 + 1 + 1 + 1 + 1 + 1, 0, none⟩) 1 1] 26))
  replace k5 := Aside0.mk (blk_alloc k5.out (.cells #[.slice (some ⟨b + 1 + 1 + 1 + 1 + 1 + 1 + 1, 0, none⟩) 2 2, .slice (some ⟨b + 1 + 1 + 1 + 1 + 1 + 1 + 1 + 1, 0, none⟩) 1 1, .slice (some ⟨b + 1 + 1 + 1 + 1 + 1 + 1 + 1 + 1 + 1, 0, none⟩) 1 1] 26))
  replace k6 := Aside0.mk (blk_alloc k6.out (.cells #[.slice (some ⟨b + 1 + 1 + 1 + 1 + 1 + 1 + 1, 0, none⟩) 2 2, .slice (some ⟨b + 1 + 1 + 1 + 1 + 1 + 1 + 1 + 1, 0, none⟩) 1 1, .slice (some ⟨b + 1 + 1 + 1 + 1 + 1 + 1 + 1 + 1 + 1, 0, none⟩) 1 1] 26))
  replace k7 := Aside0.mk (blk_alloc k7.out (.cells #[.slice (some ⟨b + 1 + 1 + 1 + 1 + 1 + 1 + 1, 0, none⟩) 2 2, .slice (some ⟨b + 1 + 1 + 1 + 1 + 1 + 1 + 1 + 1, 0, none⟩) 1 1, .slice (some ⟨b + 1 + 1 + 1 + 1 + 1 + 1 + 1 + 1 + 1, 0, none⟩) 1 1] 26))
  replace k8 := Aside0.mk (blk_alloc k8.out (.cells #[.slice (some ⟨b + 1 + 1 + 1 + 1 + 1 + 1 + 1, 0, none⟩) 2 2, .slice (some ⟨b + 1 + 1 + 1 + 1 + 1 + 1 + 1 + 1, 0, none⟩) 1 1, .slice (some ⟨b + 1 + 1 + 1 + 1 + 1 + 1 + 1 + 1 + 1, 0, none⟩) 1 1] 26))
  replace k9 := Aside0.mk (blk_alloc k9.out (.cells #[.slice (some ⟨b + 1 + 1 + 1 + 1 + 1 + 1 + 1, 0, none⟩) 2 2, .slice (some ⟨b + 1 + 1 + 1 + 1 + 1 + 1 + 1 + 1, 0, none⟩) 1 1, .slice (some ⟨b + 1 + 1 + 1 + 1 + 1 + 1 + 1 + 1 + 1, 0, none⟩) 1 1] 26))
  replace HB4 := Aside0.mk (below_alloc HB4.out (.cells #[.slice (some ⟨b + 1 + 1 + 1 + 1 + 1 + 1 + 1, 0, none⟩) 2 2, .slice (some ⟨b + 1 + 1 + 1 + 1 + 1 + 1 + 1 + 1, 0, none⟩) 1 1, .slice (some ⟨b + 1 + 1 + 1 + 1 + 1 + 1 + 1 + 1 + 1, 0, none⟩) 1 1] 26))
  replace BT4 := Aside0.mk (blk_alloc BT4.out (.cells #[.slice (some ⟨b + 1 + 1 + 1 + 1 + 1 + 1 + 1, 0, none⟩) 2 2, .slice (some ⟨b + 1 + 1 + 1 + 1 + 1 + 1 + 1 + 1, 0, none⟩) 1 1, .slice (some ⟨b + 1 + 1 + 1 + 1 + 1 + 1 + 1 + 1 + 1, 0, none⟩) 1 1] 26))
  replace HC04 := Aside0.mk (Kd.C_alloc HC04.out (.cells #[.slice (some ⟨b + 1 + 1 + 1 + 1 + 1 + 1 + 1, 0, none⟩) 2 2, .slice (some ⟨b + 1 + 1 + 1 + 1 + 1 + 1 + 1 + 1, 0, none⟩) 1 1, .slice (some ⟨b + 1 + 1 + 1 + 1 + 1 + 1 + 1 + 1 + 1, 0, none⟩) 1 1] 26))
  replace HC14 := Aside0.mk (Kd.C_alloc HC14.out (.cells #[.slice (some ⟨b + 1 + 1 + 1 + 1 + 1 + 1 + 1, 0, none⟩) 2 2, .slice (some ⟨b + 1 + 1 + 1 + 1 + 1 + 1 + 1 + 1, 0, none⟩) 1 1, .slice (some ⟨b + 1 + 1 + 1 + 1 + 1 + 1 + 1 + 1 + 1, 0, none⟩) 1 1] 26))
  replace HC24 := Aside0.mk (Kd.C_alloc HC24.out (.cells #[.slice (some ⟨b + 1 + 1 + 1 + 1 + 1 + 1 + 1, 0, none⟩) 2 2, .slice (some ⟨b + 1 + 1 + 1 + 1 + 1 + 1 + 1 + 1, 0, none⟩) 1 1, .slice (some ⟨b + 1 + 1 + 1 + 1 + 1 + 1 + 1 + 1 + 1, 0, none⟩) 1 1] 26))
  generalize u9.alloc (.cells #[.slice (some ⟨b + 1 + 1 + 1 + 1 + 1 + 1 + 1, 0, none⟩) 2 2, .slice (some ⟨b + 1 + 1 + 1 + 1 + 1 + 1 + 1 + 1, 0, none⟩) 1 1, .slice (some ⟨b + 1 + 1 + 1 + 1 + 1 + 1 + 1 + 1 + 1, 0, none⟩) 1 1] 26) = u10 at k1 k2 k3 k4 k5 k6 k7 k8 k9 k10 s10 HB4 BT4 HC04 HC14 HC24 ⊢
  have p1 : Kd.string.C u10 (some ⟨b + 1, 0, none⟩) 1 [⟨#[97, 46, 111]⟩] := C_one k1.out rfl rfl
  have p2 : Kd.string.C u10 (some ⟨b + 1 + 1, 0, none⟩) 1 [⟨#[97, 46, 99]⟩] := C_one k2.out rfl rfl
  have p3 : Kd.string.C u10 (some ⟨b + 1 + 1 + 1, 0, none⟩) 1 [⟨#[97, 46, 104]⟩] := C_one k3.out rfl rfl
  have p4 : Kd.string.C u10 (some ⟨b + 1 + 1 + 1 + 1, 0, none⟩) 1 [⟨#[98, 46, 111]⟩] := C_one k4.out rfl rfl
  have p5 : Kd.string.C u10 (some ⟨b + 1 + 1 + 1 + 1 + 1, 0, none⟩) 1 [⟨#[98, 46, 99]⟩] := C_one k5.out rfl rfl
  have p6 : Kd.string.C u10 (some ⟨b + 1 + 1 + 1 + 1 + 1 + 1, 0, none⟩) 1 [⟨#[97, 46, 111]⟩] := C_one k6.out rfl rfl
  have p0 : Kd.string.C u10 none 0 [] := ⟨rfl, by omega, fun h => absurd h (by decide)⟩
  have PE : Kd.C k42 u10 (some ⟨b + 1 + 1 + 1 + 1 + 1 + 1 + 1, 0, none⟩) wantE.length wantE := C_two k7.out (k42_mk u10 wantE[0] (A0 := some ⟨b + 1, 0, none⟩) (c0 := 1) (by decide) p1 (A1 := some ⟨b + 1 + 1, 0, none⟩) (c1 := 1) (by decide) p2 (A2 := some ⟨b + 1 + 1 + 1, 0, none⟩) (c2 := 1) (by decide) p3 (A3 := none) (c3 := 0) (by decide) p0) (k42_mk u10 wantE[1] (A0 := some ⟨b + 1 + 1 + 1 + 1, 0, none⟩) (c0 := 1) (by decide) p4 (A1 := some ⟨b + 1 + 1 + 1 + 1 + 1, 0, none⟩) (c1 := 1) (by decide) p5 (A2 := none) (c2 := 0) (by decide) p0 (A3 := some ⟨b + 1 + 1 + 1 + 1 + 1 + 1, 0, none⟩) (c3 := 1) (by decide) p6) rfl
  have PP : Kd.C k44 u10 (some ⟨b + 1 + 1 + 1 + 1 + 1 + 1 + 1 + 1, 0, none⟩) wantP.length wantP := C_one k8.out (k44_mk u10 wantP[0]) rfl
  have PD : Kd.C Kd.string u10 (some ⟨b + 1 + 1 + 1 + 1 + 1 + 1 + 1 + 1 + 1, 0, none⟩) wantD.length wantD := C_one k9.out rfl rfl
  have hsame : cruciblelaw0_SameGraph.f 100 wE wP wD wantE wantP wantD = some true := by rw [← HE.out, ← HP.out, ← HD.out]; exact same_want
  have HSG := Lib.hid (cruciblelaw0_SameGraph.calls 100 A0 c0 wE A1 c1 wP A2 c2 wD (some ⟨b + 1 + 1 + 1 + 1 + 1 + 1 + 1, 0, none⟩) 2 wantE (some ⟨b + 1 + 1 + 1 + 1 + 1 + 1 + 1 + 1, 0, none⟩) 1 wantP (some ⟨b + 1 + 1 + 1 + 1 + 1 + 1 + 1 + 1 + 1, 0, none⟩) 1 wantD true u10 HC04.out l0 HC14.out l1 HC24.out l2 PE (by decide) PP (by decide) PD (by decide) hsame)
  have z0 := blk_cell BT4.out 0
  have z1 := blk_cell BT4.out 1
  have z2 := blk_cell BT4.out 2
  have y0 := blk_cell k10.out 0
  have y1 := blk_cell k10.out 1
  have y2 := blk_cell k10.out 2
  clear p0 p1 p2 p3 p4 p5 p6 PE PP PD k1 k2 k3 k4 k5 k6 k7 k8 k9 k10 BT4 HC04 HC14 HC24 hsame
  go_wp2_with (first | (go_at_call 12; refine HSG.out.mono ?_; rintro x w5 ⟨rfl, hb5⟩; have HB5 := Aside0.mk (HB4.out.trans (hb5.mono HB4.out.size)); clear hb5) | (go_at_call 13; refine (cruciblelaw0_Num.calls _ _ _ rfl).mono ?_; rintro x w6 ⟨rfl, hd⟩; replace HB5 := Aside0.mk (HB5.out.trans (hd.below.mono HB5.out.size)); clear hd))
  go_ret
  exact ⟨rfl, HB5.out⟩
def cruciblelaw8_awake.f : Option (Bool) := some true
theorem cruciblelaw8_awake.calls (r : Bool) (w : World) (h : cruciblelaw8_awake.f = some r) :
    Calls Tryz.prog 15 #[] w fun e w' => e = .returned (.bool r) ∧ Below w.heap.size w w' := by
  obtain rfl := Option.some.inj h
  exact awake_calls w
end Go.Proofs.YtefheailchihaaaGreatDoor.Print

end
section
namespace Go.Proofs.YtefheailchihaaaGreatDoor.Print
open Go.RowKit Go.Proofs.YtefheailchihaaaGreatDoorW.PrintWords Go.Proofs.YtefheailchihaaaGreatDoorW.PrintLast Go.Proofs.YtefheailchihaaaGreatDoorW.PrintMore
attribute [local go_sem] max2_int min2_int max_two min_two max_three min_three max_four min_four   -- for this text's walks alone
set_option linter.unusedVariables false
set_option linter.unusedSimpArgs false

mutual
def cruciblelaw8_ManifestBinds.l0 : Nat → List Int → ByteArray → ByteArray → List ByteArray → Int → Option (Bool)
  | 0, _, _, _, _, _ => none
  | k + 1, x0, x3, x4, x5, x6 => if x6 < (x0.length : Int) then (cruciblelaw8_ManifestBinds.j1 k x0 x3 x4 x5 x6 (decide (x6 < 12))) else (cruciblelaw8_ManifestBinds.j1 k x0 x3 x4 x5 x6 false)
def cruciblelaw8_ManifestBinds.j1 : Nat → List Int → ByteArray → ByteArray → List ByteArray → Int → Bool → Option (Bool)
  | 0, _, _, _, _, _, _ => none
  | k + 1, x0, x3, x4, x5, x6, x20 => if x20 = true then ((some (([(wrap64 (97 + x6)) % 256] : List Int) : List Int)).bind fun y556 => (if 0 ≤ x6 then (if x6 < (x0.length : Int) then (if (wrap64 (Int.tmod (IntKind.u64.wrap (rd x0 x6)) 3)) = 0 then (if x3.size + 4 ≤ 9223372036854775807 then (if (x3 ++ (⟨#[118, 32, 61, 32]⟩ : ByteArray)).size + (strOfNums y556).size ≤ 9223372036854775807 then (if ((x3 ++ (⟨#[118, 32, 61, 32]⟩ : ByteArray)) ++ (strOfNums y556)).size + 1 ≤ 9223372036854775807 then (cruciblelaw8_ManifestBinds.l0 k x0 (((x3 ++ (⟨#[118, 32, 61, 32]⟩ : ByteArray)) ++ (strOfNums y556)) ++ (⟨#[10]⟩ : ByteArray)) (strOfNums y556) x5 (wrap64 (x6 + 1))) else (none)) else (none)) else (none)) else (if (wrap64 (Int.tmod (IntKind.u64.wrap (rd x0 x6)) 3)) = 1 then (if (x4.size : Int) < 100 then (if x3.size + 12 ≤ 9223372036854775807 then (if (x3 ++ (⟨#[118, 32, 61, 32, 36, 123, 118, 125, 36, 123, 118, 125]⟩ : ByteArray)).size + (strOfNums y556).size ≤ 9223372036854775807 then (if ((x3 ++ (⟨#[118, 32, 61, 32, 36, 123, 118, 125, 36, 123, 118, 125]⟩ : ByteArray)) ++ (strOfNums y556)).size + 1 ≤ 9223372036854775807 then (if x4.size + x4.size ≤ 9223372036854775807 then (if (x4 ++ x4).size + (strOfNums y556).size ≤ 9223372036854775807 then (cruciblelaw8_ManifestBinds.l0 k x0 (((x3 ++ (⟨#[118, 32, 61, 32, 36, 123, 118, 125, 36, 123, 118, 125]⟩ : ByteArray)) ++ (strOfNums y556)) ++ (⟨#[10]⟩ : ByteArray)) ((x4 ++ x4) ++ (strOfNums y556)) x5 (wrap64 (x6 + 1))) else (none)) else (none)) else (none)) else (none)) else (none)) else (cruciblelaw8_ManifestBinds.l0 k x0 x3 x4 x5 (wrap64 (x6 + 1)))) else (if x3.size + 7 ≤ 9223372036854775807 then (if (x3 ++ (⟨#[98, 117, 105, 108, 100, 32, 111]⟩ : ByteArray)).size + (strOfNums y556).size ≤ 9223372036854775807 then (if ((x3 ++ (⟨#[98, 117, 105, 108, 100, 32, 111]⟩ : ByteArray)) ++ (strOfNums y556)).size + 6 ≤ 9223372036854775807 then (if 1 + x4.size ≤ 9223372036854775807 then (if ((⟨#[60]⟩ : ByteArray) ++ x4).size + 2 ≤ 9223372036854775807 then (if (((⟨#[60]⟩ : ByteArray) ++ x4) ++ (⟨#[62, 111]⟩ : ByteArray)).size + (strOfNums y556).size ≤ 9223372036854775807 then (if x5.length < 8796093022208 then (cruciblelaw8_ManifestBinds.l0 k x0 (((x3 ++ (⟨#[98, 117, 105, 108, 100, 32, 111]⟩ : ByteArray)) ++ (strOfNums y556)) ++ (⟨#[32, 58, 32, 99, 99, 10]⟩ : ByteArray)) x4 (x5 ++ [(((⟨#[60]⟩ : ByteArray) ++ x4) ++ (⟨#[62, 111]⟩ : ByteArray)) ++ (strOfNums y556)]) (wrap64 (x6 + 1))) else (none)) else (none)) else (none)) else (none)) else (none)) else (none)) else (none)))) else (none)) else (none))) else ((manifest_Parse.f x3).bind fun bt563 => ((cruciblelaw0_Num.f bt563.2.2.2).bind fun t574 => (if t574 = 0 then (cruciblelaw8_ManifestBinds.j2 k x5 ((bt563.1.length : Int) != (x5.length : Int)) bt563.1 bt563.2.1 bt563.2.2.1) else (cruciblelaw8_ManifestBinds.j2 k x5 true bt563.1 bt563.2.1 bt563.2.2.1))))
def cruciblelaw8_ManifestBinds.j2 : Nat → List ByteArray → Bool → List (S42) → List (S44) → List ByteArray → Option (Bool)
  | 0, _, _, _, _, _ => none
  | k + 1, x5, x86, x574000, x574001, x574002 => if x86 = true then (some false) else (cruciblelaw8_ManifestBinds.l1 k x5 0 x574000 x574001 x574002)
def cruciblelaw8_ManifestBinds.l1 : Nat → List ByteArray → Int → List (S42) → List (S44) → List ByteArray → Option (Bool)
  | 0, _, _, _, _, _ => none
  | k + 1, x5, x10, x574000, x574001, x574002 => if x10 < (x5.length : Int) then (if 0 ≤ x10 then (if x10 < (x574000.length : Int) then (if ((rd_T42 x574000 x10).f4).toList = (rdOf ByteArray.empty x5 x10).toList then (cruciblelaw8_ManifestBinds.l1 k x5 (wrap64 (x10 + 1)) x574000 x574001 x574002) else (some false)) else (none)) else (none)) else (some true)
end
def cruciblelaw8_ManifestBinds.f (k : Nat) (l0 : List Int) : Option (Bool) := (cruciblelaw8_awake.f).bind fun t555 => (if t555 = true then (cruciblelaw8_ManifestBinds.l0 k l0 (⟨#[114, 117, 108, 101, 32, 99, 99, 10, 32, 99, 111, 109, 109, 97, 110, 100, 32, 61, 32, 60, 36, 118, 62, 36, 111, 117, 116, 10]⟩ : ByteArray) (⟨#[]⟩ : ByteArray) ([] : List ByteArray) 0) else (some false))
theorem cruciblelaw8_ManifestBinds.mono_l : ∀ k, (∀ y0 y1 y2 y3 y4, LeO (cruciblelaw8_ManifestBinds.l0 k y0 y1 y2 y3 y4) (cruciblelaw8_ManifestBinds.l0 (k + 1) y0 y1 y2 y3 y4)) ∧ (∀ y0 y1 y2 y3 y4 y5, LeO (cruciblelaw8_ManifestBinds.j1 k y0 y1 y2 y3 y4 y5) (cruciblelaw8_ManifestBinds.j1 (k + 1) y0 y1 y2 y3 y4 y5)) ∧ (∀ y0 y1 y2 y3 y4, LeO (cruciblelaw8_ManifestBinds.j2 k y0 y1 y2 y3 y4) (cruciblelaw8_ManifestBinds.j2 (k + 1) y0 y1 y2 y3 y4)) ∧ (∀ y0 y1 y2 y3 y4, LeO (cruciblelaw8_ManifestBinds.l1 k y0 y1 y2 y3 y4) (cruciblelaw8_ManifestBinds.l1 (k + 1) y0 y1 y2 y3 y4))
  | 0 => ⟨fun _ _ _ _ _ r h => by simp [cruciblelaw8_ManifestBinds.l0] at h, fun _ _ _ _ _ _ r h => by simp [cruciblelaw8_ManifestBinds.j1] at h, fun _ _ _ _ _ r h => by simp [cruciblelaw8_ManifestBinds.j2] at h, fun _ _ _ _ _ r h => by simp [cruciblelaw8_ManifestBinds.l1] at h⟩
  | k + 1 => by
    obtain ⟨ih0, ih1, ih2, ih3⟩ := cruciblelaw8_ManifestBinds.mono_l k
    refine ⟨?_, ?_, ?_, ?_⟩
    · intro y0 y1 y2 y3 y4
      unfold cruciblelaw8_ManifestBinds.l0
      repeat' first
      | (with_reducible exact ih0 _ _ _ _ _)
      | (with_reducible exact ih1 _ _ _ _ _ _)
      | (with_reducible exact ih2 _ _ _ _ _)
      | (with_reducible exact ih3 _ _ _ _ _)
      | (with_reducible exact LeO.refl _)
      | (with_reducible exact LeO.none _)
      | (with_reducible refine LeO.ite ?_ ?_)
      | (with_reducible refine LeO.bind ?_ (fun _ => ?_))
      | exact ih0 _ _ _ _ _
      | exact ih1 _ _ _ _ _ _
      | exact ih2 _ _ _ _ _
      | exact ih3 _ _ _ _ _
      | exact LeO.none _
      | refine LeO.ite ?_ ?_
      | refine LeO.bind ?_ (fun _ => ?_)
    · intro y0 y1 y2 y3 y4 y5
      unfold cruciblelaw8_ManifestBinds.j1
      repeat' first
      | (with_reducible exact ih0 _ _ _ _ _)
      | (with_reducible exact ih1 _ _ _ _ _ _)
      | (with_reducible exact ih2 _ _ _ _ _)
      | (with_reducible exact ih3 _ _ _ _ _)
      | (with_reducible exact LeO.refl _)
      | (with_reducible exact LeO.none _)
      | (with_reducible refine LeO.ite ?_ ?_)
      | (with_reducible refine LeO.bind ?_ (fun _ => ?_))
      | exact ih0 _ _ _ _ _
      | exact ih1 _ _ _ _ _ _
      | exact ih2 _ _ _ _ _
      | exact ih3 _ _ _ _ _
      | exact LeO.none _
      | refine LeO.ite ?_ ?_
      | refine LeO.bind ?_ (fun _ => ?_)
    · intro y0 y1 y2 y3 y4
      unfold cruciblelaw8_ManifestBinds.j2
      repeat' first
      | (with_reducible exact ih0 _ _ _ _ _)
      | (with_reducible exact ih1 _ _ _ _ _ _)
      | (with_reducible exact ih2 _ _ _ _ _)
      | (with_reducible exact ih3 _ _ _ _ _)
      | (with_reducible exact LeO.refl _)
      | (with_reducible exact LeO.none _)
      | (with_reducible refine LeO.ite ?_ ?_)
      | (with_reducible refine LeO.bind ?_ (fun _ => ?_))
      | exact ih0 _ _ _ _ _
      | exact ih1 _ _ _ _ _ _
      | exact ih2 _ _ _ _ _
      | exact ih3 _ _ _ _ _
      | exact LeO.none _
      | refine LeO.ite ?_ ?_
      | refine LeO.bind ?_ (fun _ => ?_)
    · intro y0 y1 y2 y3 y4
      unfold cruciblelaw8_ManifestBinds.l1
      repeat' first
      | (with_reducible exact ih0 _ _ _ _ _)
      | (with_reducible exact ih1 _ _ _ _ _ _)
      | (with_reducible exact ih2 _ _ _ _ _)
      | (with_reducible exact ih3 _ _ _ _ _)
      | (with_reducible exact LeO.refl _)
      | (with_reducible exact LeO.none _)
      | (with_reducible refine LeO.ite ?_ ?_)
      | (with_reducible refine LeO.bind ?_ (fun _ => ?_))
      | exact ih0 _ _ _ _ _
      | exact ih1 _ _ _ _ _ _
      | exact ih2 _ _ _ _ _
      | exact ih3 _ _ _ _ _
      | exact LeO.none _
      | refine LeO.ite ?_ ?_
      | refine LeO.bind ?_ (fun _ => ?_)
theorem cruciblelaw8_ManifestBinds.mono : ∀ a0 k, LeO (cruciblelaw8_ManifestBinds.f k a0) (cruciblelaw8_ManifestBinds.f (k + 1) a0) := by
  intro a0 k
  obtain ⟨ih0, ih1, ih2, ih3⟩ := cruciblelaw8_ManifestBinds.mono_l k
  unfold cruciblelaw8_ManifestBinds.f
  repeat' first
      | (with_reducible exact ih0 _ _ _ _ _)
      | (with_reducible exact ih1 _ _ _ _ _ _)
      | (with_reducible exact ih2 _ _ _ _ _)
      | (with_reducible exact ih3 _ _ _ _ _)
      | (with_reducible exact LeO.refl _)
      | (with_reducible exact LeO.none _)
      | (with_reducible refine LeO.ite ?_ ?_)
      | (with_reducible refine LeO.bind ?_ (fun _ => ?_))
      | exact ih0 _ _ _ _ _
      | exact ih1 _ _ _ _ _ _
      | exact ih2 _ _ _ _ _
      | exact ih3 _ _ _ _ _
      | exact LeO.none _
      | refine LeO.ite ?_ ?_
      | refine LeO.bind ?_ (fun _ => ?_)
set_option maxHeartbeats 8000000 in
set_option maxRecDepth 100000 in
theorem cruciblelaw8_ManifestBinds.calls (k : Nat) (A0 : Option Addr) (c0 : Nat) (l0 : List Int) (r : Bool) (w : World) (hr0 : Kd.C (Kd.int .i64) w A0 l0.length l0) (hc0 : l0.length ≤ c0) (h : cruciblelaw8_ManifestBinds.f k l0 = some r) :
    Calls Tryz.prog 9 #[.slice A0 l0.length c0] w fun e w' => e = .returned (.bool r) ∧ Below w.heap.size w w' := by
  have hu26 := Tryz.underlying26
  have HR0 := Aside0.mk hr0
  have HC0 := Aside0.mk hc0
  clear hr0 hc0
  have HB := Aside0.mk (Below.refl w.heap.size w)
  have H : ((cruciblelaw8_awake.f).bind fun t555 => (if t555 = true then (cruciblelaw8_ManifestBinds.l0 k l0 (⟨#[114, 117, 108, 101, 32, 99, 99, 10, 32, 99, 111, 109, 109, 97, 110, 100, 32, 61, 32, 60, 36, 118, 62, 36, 111, 117, 116, 10]⟩ : ByteArray) (⟨#[]⟩ : ByteArray) ([] : List ByteArray) 0) else (some false))) = some r := h
  clear h
  replace H := Option.bind_eq_some_iff.mp H
  obtain ⟨t555, A20, H⟩ := H
  replace H : (if t555 = true then (cruciblelaw8_ManifestBinds.l0 k l0 (⟨#[114, 117, 108, 101, 32, 99, 99, 10, 32, 99, 111, 109, 109, 97, 110, 100, 32, 61, 32, 60, 36, 118, 62, 36, 111, 117, 116, 10]⟩ : ByteArray) (⟨#[]⟩ : ByteArray) ([] : List ByteArray) 0) else (some false)) = some r := H
  have A2 := Aside0.mk A20
  clear A20
  by_cases c3 : t555 = true
  · subst c3
    have H1 : (cruciblelaw8_ManifestBinds.l0 k l0 (⟨#[114, 117, 108, 101, 32, 99, 99, 10, 32, 99, 111, 109, 109, 97, 110, 100, 32, 61, 32, 60, 36, 118, 62, 36, 111, 117, 116, 10]⟩ : ByteArray) (⟨#[]⟩ : ByteArray) ([] : List ByteArray) 0) = some r := by rw [if_pos rfl] at H; exact H
    clear H
    have H := H1
    clear H1
    have H' := Aside0.mk H
    clear H
    go_enter Tryz.func9, Tryz.ntmps9
    go_wp2_with (first | (go_at_call 15; (with_reducible refine (cruciblelaw8_awake.calls  true _ A2.out).mono ?_); rintro e w4 ⟨rfl, hb⟩; have n0_ := Aside0.mk (below_step (by repeat (first | (with_reducible first | exact HB.out | apply below_alloc | apply pw_below_drewN | apply below_drew1) | exact HB.out)) hb); clear HB; have HB := n0_; clear n0_; (try clear hb); (try clear hb2); (try clear hk); (try clear hi)))
    repeat (go_quiet (first | (go_at_call 15; (with_reducible refine (cruciblelaw8_awake.calls  true _ A2.out).mono ?_); rintro e w4 ⟨rfl, hb⟩; have n0_ := Aside0.mk (below_step (by repeat (first | (with_reducible first | exact HB.out | apply below_alloc | apply pw_below_drewN | apply below_drew1) | exact HB.out)) hb); clear HB; have HB := n0_; clear n0_; (try clear hb); (try clear hb2); (try clear hk); (try clear hi))); try go_wp2_with (first | (go_at_call 15; (with_reducible refine (cruciblelaw8_awake.calls  true _ A2.out).mono ?_); rintro e w4 ⟨rfl, hb⟩; have n0_ := Aside0.mk (below_step (by repeat (first | (with_reducible first | exact HB.out | apply below_alloc | apply pw_below_drewN | apply below_drew1) | exact HB.out)) hb); clear HB; have HB := n0_; clear n0_; (try clear hb); (try clear hb2); (try clear hk); (try clear hi))))
    go_loopg [3, 4, 5, 6] k (fun kq v3 v4 v5 v6 w' => ∃ (x3_1 : ByteArray) (x4_1 : ByteArray) (x5_1 : List ByteArray) (x6_1 : Int), v3 = .string x3_1 ∧ v4 = .string x4_1 ∧ v6 = .int .i64 x6_1 ∧ Aside0 (cruciblelaw8_ManifestBinds.l0 kq l0 x3_1 x4_1 x5_1 x6_1 = some r) ∧ Aside0 (kq ≤ k) ∧ Aside0 (Kd.R Kd.string 9 w' w.heap.size (fun _ => True) v5 x5_1) ∧ Aside0 (Below w.heap.size w w'))
    case atStart => exact ⟨((⟨#[114, 117, 108, 101, 32, 99, 99, 10, 32, 99, 111, 109, 109, 97, 110, 100, 32, 61, 32, 60, 36, 118, 62, 36, 111, 117, 116, 10]⟩ : ByteArray)), ((⟨#[]⟩ : ByteArray)), (([] : List ByteArray)), (0), (by first | rfl | (simp; done) | (simp [*]; done)), (by first | rfl | (simp; done) | (simp [*]; done)), (by first | rfl | (simp; done) | (simp [*]; done)), H', ⟨Nat.le_refl _⟩, ⟨by first | exact Kd.R_nil _ _ _ _ _ | exact Kd.N_nil _ _ _ _ _ | exact Kd.V_nil _ _ _ _ _ | exact Kd.Q_nil _ _ _ _ _ | exact Kd.R_nil _ _ _ _ _⟩, ⟨by repeat (first | (with_reducible first | exact HB.out | apply below_alloc | apply pw_below_drewN | apply below_drew1) | exact HB.out)⟩⟩
    case round =>
      clear H'
      try clear p2
      try clear c3
      obtain ⟨x3_1, x4_1, x5_1, x6_1, rfl, rfl, rfl, HA, HK1, HO_5, HB⟩ := hrel
      cases gk with
      | zero => exact absurd HA.out (by simp [cruciblelaw8_ManifestBinds.l0])
      | succ k1 =>
        have H := HA.out
        clear HA
        simp only [cruciblelaw8_ManifestBinds.l0] at H
        have HC5 := Aside0.mk H
        clear H
        go_upto_region 7 with (fail)
        repeat (go_quiet (fail); go_upto_region 7 with (fail))
        go_cut [20] (fun v20 wc => ∃ (kq : Nat) (x20_4 : Bool), v20 = .bool x20_4 ∧ Aside0 (cruciblelaw8_ManifestBinds.j1 kq l0 x3_1 x4_1 x5_1 x6_1 x20_4 = some r) ∧ Aside0 (kq ≤ k1) ∧ Aside0 (Kd.R Kd.string 9 wc w.heap.size (fun _ => True) u5 x5_1) ∧ Aside0 (Below w.heap.size w wc))
        case first =>
          have H := HC5.out
          clear HC5
          by_cases c6 : x6_1 < (l0.length : Int)
          · rw [if_pos c6] at H
            have c6b0 : decide (x6_1 < (l0.length : Int)) = true := decide_eq_true c6
            clear c6
            (first | rw [c6b0] | (simp only [i64_w, i32_w]; rw [c6b0]) | skip)
            have H' := Aside0.mk H
            clear H
            go_wp2
            repeat (go_quiet (fail); try go_wp2)
            go_meet
            case rel => exact ⟨_, (decide (x6_1 < 12)), (by first | rfl | (simp; done) | (simp [*]; done)), H', ⟨by have := HK1.out; first | omega | exact Nat.le_refl _⟩, ⟨by (with_reducible repeat (first | apply Kd.R_alloc | apply Kd.R_drewN | apply Kd.R_drew)); exact HO_5.out⟩, ⟨by repeat (first | (with_reducible first | exact HB.out | apply below_alloc | apply pw_below_drewN | apply below_drew1) | exact HB.out)⟩⟩
          · rw [if_neg c6] at H
            have c6b0 : decide (x6_1 < (l0.length : Int)) = false := decide_eq_false c6
            clear c6
            (first | rw [c6b0] | (simp only [i64_w, i32_w]; rw [c6b0]) | skip)
            have H' := Aside0.mk H
            clear H
            go_wp2
            repeat (go_quiet (fail); try go_wp2)
            go_meet
            case rel => exact ⟨_, (false), (by first | rfl | (simp; done) | (simp [*]; done)), H', ⟨by have := HK1.out; first | omega | exact Nat.le_refl _⟩, ⟨by (with_reducible repeat (first | apply Kd.R_alloc | apply Kd.R_drewN | apply Kd.R_drew)); exact HO_5.out⟩, ⟨by repeat (first | (with_reducible first | exact HB.out | apply below_alloc | apply pw_below_drewN | apply below_drew1) | exact HB.out)⟩⟩
        case rest =>
          clear HC5
          try clear p2
          try clear c3
          try clear c6
          try clear c6b0
          try clear p2
          obtain ⟨kq, x20_4, rfl, HA, HJ4, HO_5, HB⟩ := hcut
          cases kq with
          | zero => exact absurd HA.out (by simp [cruciblelaw8_ManifestBinds.j1])
          | succ kj4 =>
            have H := HA.out
            clear HA
            simp only [cruciblelaw8_ManifestBinds.j1] at H
            by_cases c7 : x20_4 = true
            · subst c7
              have H1 : ((some (([(wrap64 (97 + x6_1)) % 256] : List Int) : List Int)).bind fun y556 => (if 0 ≤ x6_1 then (if x6_1 < (l0.length : Int) then (if (wrap64 (Int.tmod (IntKind.u64.wrap (rd l0 x6_1)) 3)) = 0 then (if x3_1.size + 4 ≤ 9223372036854775807 then (if (x3_1 ++ (⟨#[118, 32, 61, 32]⟩ : ByteArray)).size + (strOfNums y556).size ≤ 9223372036854775807 then (if ((x3_1 ++ (⟨#[118, 32, 61, 32]⟩ : ByteArray)) ++ (strOfNums y556)).size + 1 ≤ 9223372036854775807 then (cruciblelaw8_ManifestBinds.l0 kj4 l0 (((x3_1 ++ (⟨#[118, 32, 61, 32]⟩ : ByteArray)) ++ (strOfNums y556)) ++ (⟨#[10]⟩ : ByteArray)) (strOfNums y556) x5_1 (wrap64 (x6_1 + 1))) else (none)) else (none)) else (none)) else (if (wrap64 (Int.tmod (IntKind.u64.wrap (rd l0 x6_1)) 3)) = 1 then (if (x4_1.size : Int) < 100 then (if x3_1.size + 12 ≤ 9223372036854775807 then (if (x3_1 ++ (⟨#[118, 32, 61, 32, 36, 123, 118, 125, 36, 123, 118, 125]⟩ : ByteArray)).size + (strOfNums y556).size ≤ 9223372036854775807 then (if ((x3_1 ++ (⟨#[118, 32, 61, 32, 36, 123, 118, 125, 36, 123, 118, 125]⟩ : ByteArray)) ++ (strOfNums y556)).size + 1 ≤ 9223372036854775807 then (if x4_1.size + x4_1.size ≤ 9223372036854775807 then (if (x4_1 ++ x4_1).size + (strOfNums y556).size ≤ 9223372036854775807 then (cruciblelaw8_ManifestBinds.l0 kj4 l0 (((x3_1 ++ (⟨#[118, 32, 61, 32, 36, 123, 118, 125, 36, 123, 118, 125]⟩ : ByteArray)) ++ (strOfNums y556)) ++ (⟨#[10]⟩ : ByteArray)) ((x4_1 ++ x4_1) ++ (strOfNums y556)) x5_1 (wrap64 (x6_1 + 1))) else (none)) else (none)) else (none)) else (none)) else (none)) else (cruciblelaw8_ManifestBinds.l0 kj4 l0 x3_1 x4_1 x5_1 (wrap64 (x6_1 + 1)))) else (if x3_1.size + 7 ≤ 9223372036854775807 then (if (x3_1 ++ (⟨#[98, 117, 105, 108, 100, 32, 111]⟩ : ByteArray)).size + (strOfNums y556).size ≤ 9223372036854775807 then (if ((x3_1 ++ (⟨#[98, 117, 105, 108, 100, 32, 111]⟩ : ByteArray)) ++ (strOfNums y556)).size + 6 ≤ 9223372036854775807 then (if 1 + x4_1.size ≤ 9223372036854775807 then (if ((⟨#[60]⟩ : ByteArray) ++ x4_1).size + 2 ≤ 9223372036854775807 then (if (((⟨#[60]⟩ : ByteArray) ++ x4_1) ++ (⟨#[62, 111]⟩ : ByteArray)).size + (strOfNums y556).size ≤ 9223372036854775807 then (if x5_1.length < 8796093022208 then (cruciblelaw8_ManifestBinds.l0 kj4 l0 (((x3_1 ++ (⟨#[98, 117, 105, 108, 100, 32, 111]⟩ : ByteArray)) ++ (strOfNums y556)) ++ (⟨#[32, 58, 32, 99, 99, 10]⟩ : ByteArray)) x4_1 (x5_1 ++ [(((⟨#[60]⟩ : ByteArray) ++ x4_1) ++ (⟨#[62, 111]⟩ : ByteArray)) ++ (strOfNums y556)]) (wrap64 (x6_1 + 1))) else (none)) else (none)) else (none)) else (none)) else (none)) else (none)) else (none)))) else (none)) else (none))) = some r := by rw [if_pos rfl] at H; exact H
              clear H
              have H := H1
              clear H1
              obtain ⟨y556, hy556⟩ : ∃ y_ : List Int, y_ = (([(wrap64 (97 + x6_1)) % 256] : List Int)) := ⟨_, rfl⟩
              replace H : (if 0 ≤ x6_1 then (if x6_1 < (l0.length : Int) then (if (wrap64 (Int.tmod (IntKind.u64.wrap (rd l0 x6_1)) 3)) = 0 then (if x3_1.size + 4 ≤ 9223372036854775807 then (if (x3_1 ++ (⟨#[118, 32, 61, 32]⟩ : ByteArray)).size + (strOfNums y556).size ≤ 9223372036854775807 then (if ((x3_1 ++ (⟨#[118, 32, 61, 32]⟩ : ByteArray)) ++ (strOfNums y556)).size + 1 ≤ 9223372036854775807 then (cruciblelaw8_ManifestBinds.l0 kj4 l0 (((x3_1 ++ (⟨#[118, 32, 61, 32]⟩ : ByteArray)) ++ (strOfNums y556)) ++ (⟨#[10]⟩ : ByteArray)) (strOfNums y556) x5_1 (wrap64 (x6_1 + 1))) else (none)) else (none)) else (none)) else (if (wrap64 (Int.tmod (IntKind.u64.wrap (rd l0 x6_1)) 3)) = 1 then (if (x4_1.size : Int) < 100 then (if x3_1.size + 12 ≤ 9223372036854775807 then (if (x3_1 ++ (⟨#[118, 32, 61, 32, 36, 123, 118, 125, 36, 123, 118, 125]⟩ : ByteArray)).size + (strOfNums y556).size ≤ 9223372036854775807 then (if ((x3_1 ++ (⟨#[118, 32, 61, 32, 36, 123, 118, 125, 36, 123, 118, 125]⟩ : ByteArray)) ++ (strOfNums y556)).size + 1 ≤ 9223372036854775807 then (if x4_1.size + x4_1.size ≤ 9223372036854775807 then (if (x4_1 ++ x4_1).size + (strOfNums y556).size ≤ 9223372036854775807 then (cruciblelaw8_ManifestBinds.l0 kj4 l0 (((x3_1 ++ (⟨#[118, 32, 61, 32, 36, 123, 118, 125, 36, 123, 118, 125]⟩ : ByteArray)) ++ (strOfNums y556)) ++ (⟨#[10]⟩ : ByteArray)) ((x4_1 ++ x4_1) ++ (strOfNums y556)) x5_1 (wrap64 (x6_1 + 1))) else (none)) else (none)) else (none)) else (none)) else (none)) else (cruciblelaw8_ManifestBinds.l0 kj4 l0 x3_1 x4_1 x5_1 (wrap64 (x6_1 + 1)))) else (if x3_1.size + 7 ≤ 9223372036854775807 then (if (x3_1 ++ (⟨#[98, 117, 105, 108, 100, 32, 111]⟩ : ByteArray)).size + (strOfNums y556).size ≤ 9223372036854775807 then (if ((x3_1 ++ (⟨#[98, 117, 105, 108, 100, 32, 111]⟩ : ByteArray)) ++ (strOfNums y556)).size + 6 ≤ 9223372036854775807 then (if 1 + x4_1.size ≤ 9223372036854775807 then (if ((⟨#[60]⟩ : ByteArray) ++ x4_1).size + 2 ≤ 9223372036854775807 then (if (((⟨#[60]⟩ : ByteArray) ++ x4_1) ++ (⟨#[62, 111]⟩ : ByteArray)).size + (strOfNums y556).size ≤ 9223372036854775807 then (if x5_1.length < 8796093022208 then (cruciblelaw8_ManifestBinds.l0 kj4 l0 (((x3_1 ++ (⟨#[98, 117, 105, 108, 100, 32, 111]⟩ : ByteArray)) ++ (strOfNums y556)) ++ (⟨#[32, 58, 32, 99, 99, 10]⟩ : ByteArray)) x4_1 (x5_1 ++ [(((⟨#[60]⟩ : ByteArray) ++ x4_1) ++ (⟨#[62, 111]⟩ : ByteArray)) ++ (strOfNums y556)]) (wrap64 (x6_1 + 1))) else (none)) else (none)) else (none)) else (none)) else (none)) else (none)) else (none)))) else (none)) else (none)) = some r := by first | (rw [hy556]; with_reducible exact H) | (have H2_ := (Option.bind_some _ _).symm.trans H; rw [hy556]; with_reducible exact H2_) | (have H2_ := (Option.bind_some _ _).symm.trans H; with_reducible exact H2_) | with_reducible exact H | (rw [hy556]; exact H) | exact H
              have Ny556 := Aside0.mk hy556
              clear hy556
              by_cases c8 : 0 ≤ x6_1
              · rw [if_pos c8] at H
                have c8b0 : decide (0 ≤ x6_1) = true := decide_eq_true c8
                clear c8
                by_cases c9 : x6_1 < (l0.length : Int)
                · rw [if_pos c9] at H
                  have c9b0 : decide (x6_1 < (l0.length : Int)) = true := decide_eq_true c9
                  clear c9
                  by_cases c10 : (wrap64 (Int.tmod (IntKind.u64.wrap (rd l0 x6_1)) 3)) = 0
                  · rw [if_pos c10] at H
                    have c10b0 : ((wrap64 (Int.tmod (IntKind.u64.wrap (rd l0 x6_1)) 3)) == 0) = true := beq_iff_eq.mpr c10
                    have c10b1 : ((wrap64 (Int.tmod (IntKind.u64.wrap (rd l0 x6_1)) 3)) != 0) = false := bne_eq_false_iff_eq.mpr c10
                    clear c10
                    by_cases c11 : x3_1.size + 4 ≤ 9223372036854775807
                    · rw [if_pos c11] at H
                      have c11b0 := eq_true c11
                      have c11b1 : decide (x3_1.size + 4 ≤ 9223372036854775807) = true := decide_eq_true c11
                      try have c11b2 : (9223372036854775807 < x3_1.size + 4) = False := eq_false (Nat.not_lt.2 c11)
                      by_cases c12 : (x3_1 ++ (⟨#[118, 32, 61, 32]⟩ : ByteArray)).size + (strOfNums y556).size ≤ 9223372036854775807
                      · rw [if_pos c12] at H
                        have c12b0 := eq_true c12
                        have c12b1 : decide ((x3_1 ++ (⟨#[118, 32, 61, 32]⟩ : ByteArray)).size + (strOfNums y556).size ≤ 9223372036854775807) = true := decide_eq_true c12
                        try have c12b2 : (9223372036854775807 < (x3_1 ++ (⟨#[118, 32, 61, 32]⟩ : ByteArray)).size + (strOfNums y556).size) = False := eq_false (Nat.not_lt.2 c12)
                        have c12b3 : (9223372036854775807 < x3_1.size + 4 + (strOfNums y556).size) = False := eq_false (by have hh : (x3_1 ++ (⟨#[118, 32, 61, 32]⟩ : ByteArray)).size = x3_1.size + 4 := (by rw [ByteArray.size_append] <;> rfl); omega)
                        by_cases c13 : ((x3_1 ++ (⟨#[118, 32, 61, 32]⟩ : ByteArray)) ++ (strOfNums y556)).size + 1 ≤ 9223372036854775807
                        · rw [if_pos c13] at H
                          have c13b0 := eq_true c13
                          have c13b1 : decide (((x3_1 ++ (⟨#[118, 32, 61, 32]⟩ : ByteArray)) ++ (strOfNums y556)).size + 1 ≤ 9223372036854775807) = true := decide_eq_true c13
                          try have c13b2 : (9223372036854775807 < ((x3_1 ++ (⟨#[118, 32, 61, 32]⟩ : ByteArray)) ++ (strOfNums y556)).size + 1) = False := eq_false (Nat.not_lt.2 c13)
                          have c13b3 : (9223372036854775807 < x3_1.size + 4 + (strOfNums y556).size + 1) = False := eq_false (by have hh : ((x3_1 ++ (⟨#[118, 32, 61, 32]⟩ : ByteArray)) ++ (strOfNums y556)).size = x3_1.size + 4 + (strOfNums y556).size := (by rw [ByteArray.size_append, ByteArray.size_append] <;> rfl); omega)
                          have H' := Aside0.mk H
                          clear H
                          go_wp2_with (first | ((with_reducible refine gate_dst (N := 26) rfl ?_); (try (refine gate_guard (by rfl) ?_; dsimp only)); refine Kd.R_lit (Kd.int .u8) _ 5 ?hg (N := 26) ?hd (xs := ([(wrap64 (97 + x6_1)) % 256] : List Int)) (inner := [.int .u8 ((wrap64 (97 + x6_1)) % 256)]) (ok := fun _ => True) (okp := fun _ => True) ?hr ?hp (fun _ hk => hk) trivial (Below.refl _ _) (Nat.le_refl _) (by simp) ?_; (case hd => rfl); (case hg => rfl); (case hr => first | (go_simp; done) | (go_simp; rfl)); (case hp => exact (Reps.one (show Kd.M (Kd.int .u8) _ _ _ ((wrap64 (97 + x6_1)) % 256) [.int .u8 ((wrap64 (97 + x6_1)) % 256)] from rfl) (Reps.none _ _))); intro v557 w14 ho15 hb hg_ hnew_; clear hg_ hnew_; (first | rw [← Ny556.out] at ho15 | (simp only [Int.reduceToNat] at ho15; rw [← Ny556.out] at ho15)); have n0_ := Aside0.mk (Kd.R_below (by (with_reducible repeat (first | apply Kd.R_alloc | apply Kd.R_drewN | apply Kd.R_drew)); exact HO_5.out) hb); have n1_ := Aside0.mk (Kd.R_lower ho15 (below_size (by repeat (first | (with_reducible first | exact HB.out | apply below_alloc | apply pw_below_drewN | apply below_drew1) | exact HB.out)))); have n2_ := Aside0.mk (below_step (by repeat (first | (with_reducible first | exact HB.out | apply below_alloc | apply pw_below_drewN | apply below_drew1) | exact HB.out)) hb); clear HO_5; clear HB; have HO_5 := n0_; have HO558 := n1_; have HB := n2_; clear n0_ n1_ n2_; clear hb ho15; have hcv16 := own_string (P := Tryz.prog) Tryz.underlying39 Tryz.underlying5 Tryz.underlying9 (Kd.own_of_R HO558.out); have p559 : 0 ≤ (x6_1 : Int) := of_decide_eq_true (by first | (with_reducible assumption) | assumption); have q559 : x6_1 < (l0.length : Int) := of_decide_eq_true (by first | (with_reducible assumption) | assumption); obtain ⟨ad559, e559, hx559_0⟩ := Kd.at_int HR0.out x6_1 p559 q559; cases e559; replace hx559_0 := (HB.out.cell (World.block_lt_of_cell? w _ hx559_0)).trans hx559_0; replace p559 := eq_true p559; replace q559 := eq_true q559))
                          repeat (go_quiet (first | ((with_reducible refine gate_dst (N := 26) rfl ?_); (try (refine gate_guard (by rfl) ?_; dsimp only)); refine Kd.R_lit (Kd.int .u8) _ 5 ?hg (N := 26) ?hd (xs := ([(wrap64 (97 + x6_1)) % 256] : List Int)) (inner := [.int .u8 ((wrap64 (97 + x6_1)) % 256)]) (ok := fun _ => True) (okp := fun _ => True) ?hr ?hp (fun _ hk => hk) trivial (Below.refl _ _) (Nat.le_refl _) (by simp) ?_; (case hd => rfl); (case hg => rfl); (case hr => first | (go_simp; done) | (go_simp; rfl)); (case hp => exact (Reps.one (show Kd.M (Kd.int .u8) _ _ _ ((wrap64 (97 + x6_1)) % 256) [.int .u8 ((wrap64 (97 + x6_1)) % 256)] from rfl) (Reps.none _ _))); intro v557 w14 ho15 hb hg_ hnew_; clear hg_ hnew_; (first | rw [← Ny556.out] at ho15 | (simp only [Int.reduceToNat] at ho15; rw [← Ny556.out] at ho15)); have n0_ := Aside0.mk (Kd.R_below (by (with_reducible repeat (first | apply Kd.R_alloc | apply Kd.R_drewN | apply Kd.R_drew)); exact HO_5.out) hb); have n1_ := Aside0.mk (Kd.R_lower ho15 (below_size (by repeat (first | (with_reducible first | exact HB.out | apply below_alloc | apply pw_below_drewN | apply below_drew1) | exact HB.out)))); have n2_ := Aside0.mk (below_step (by repeat (first | (with_reducible first | exact HB.out | apply below_alloc | apply pw_below_drewN | apply below_drew1) | exact HB.out)) hb); clear HO_5; clear HB; have HO_5 := n0_; have HO558 := n1_; have HB := n2_; clear n0_ n1_ n2_; clear hb ho15; have hcv16 := own_string (P := Tryz.prog) Tryz.underlying39 Tryz.underlying5 Tryz.underlying9 (Kd.own_of_R HO558.out); have p559 : 0 ≤ (x6_1 : Int) := of_decide_eq_true (by first | (with_reducible assumption) | assumption); have q559 : x6_1 < (l0.length : Int) := of_decide_eq_true (by first | (with_reducible assumption) | assumption); obtain ⟨ad559, e559, hx559_0⟩ := Kd.at_int HR0.out x6_1 p559 q559; cases e559; replace hx559_0 := (HB.out.cell (World.block_lt_of_cell? w _ hx559_0)).trans hx559_0; replace p559 := eq_true p559; replace q559 := eq_true q559)); try go_wp2_with (first | ((with_reducible refine gate_dst (N := 26) rfl ?_); (try (refine gate_guard (by rfl) ?_; dsimp only)); refine Kd.R_lit (Kd.int .u8) _ 5 ?hg (N := 26) ?hd (xs := ([(wrap64 (97 + x6_1)) % 256] : List Int)) (inner := [.int .u8 ((wrap64 (97 + x6_1)) % 256)]) (ok := fun _ => True) (okp := fun _ => True) ?hr ?hp (fun _ hk => hk) trivial (Below.refl _ _) (Nat.le_refl _) (by simp) ?_; (case hd => rfl); (case hg => rfl); (case hr => first | (go_simp; done) | (go_simp; rfl)); (case hp => exact (Reps.one (show Kd.M (Kd.int .u8) _ _ _ ((wrap64 (97 + x6_1)) % 256) [.int .u8 ((wrap64 (97 + x6_1)) % 256)] from rfl) (Reps.none _ _))); intro v557 w14 ho15 hb hg_ hnew_; clear hg_ hnew_; (first | rw [← Ny556.out] at ho15 | (simp only [Int.reduceToNat] at ho15; rw [← Ny556.out] at ho15)); have n0_ := Aside0.mk (Kd.R_below (by (with_reducible repeat (first | apply Kd.R_alloc | apply Kd.R_drewN | apply Kd.R_drew)); exact HO_5.out) hb); have n1_ := Aside0.mk (Kd.R_lower ho15 (below_size (by repeat (first | (with_reducible first | exact HB.out | apply below_alloc | apply pw_below_drewN | apply below_drew1) | exact HB.out)))); have n2_ := Aside0.mk (below_step (by repeat (first | (with_reducible first | exact HB.out | apply below_alloc | apply pw_below_drewN | apply below_drew1) | exact HB.out)) hb); clear HO_5; clear HB; have HO_5 := n0_; have HO558 := n1_; have HB := n2_; clear n0_ n1_ n2_; clear hb ho15; have hcv16 := own_string (P := Tryz.prog) Tryz.underlying39 Tryz.underlying5 Tryz.underlying9 (Kd.own_of_R HO558.out); have p559 : 0 ≤ (x6_1 : Int) := of_decide_eq_true (by first | (with_reducible assumption) | assumption); have q559 : x6_1 < (l0.length : Int) := of_decide_eq_true (by first | (with_reducible assumption) | assumption); obtain ⟨ad559, e559, hx559_0⟩ := Kd.at_int HR0.out x6_1 p559 q559; cases e559; replace hx559_0 := (HB.out.cell (World.block_lt_of_cell? w _ hx559_0)).trans hx559_0; replace p559 := eq_true p559; replace q559 := eq_true q559)))
                          go_roundg kj4
                          case measure => have := HK1.out; have := HJ4.out; omega
                          case rel => exact ⟨(((x3_1 ++ (⟨#[118, 32, 61, 32]⟩ : ByteArray)) ++ (strOfNums y556)) ++ (⟨#[10]⟩ : ByteArray)), (strOfNums y556), (x5_1), (wrap64 (x6_1 + 1)), (by first | rfl | (simp; done) | (simp [*]; done)), (by first | rfl | (simp; done) | (simp [*]; done)), (by first | rfl | (simp; done) | (simp [*]; done)), H', ⟨by have := HK1.out; have := HJ4.out; omega⟩, ⟨by (with_reducible repeat (first | apply Kd.R_alloc | apply Kd.R_drewN | apply Kd.R_drew)); exact HO_5.out⟩, ⟨by repeat (first | (with_reducible first | exact HB.out | apply below_alloc | apply pw_below_drewN | apply below_drew1) | exact HB.out)⟩⟩
                        · rw [if_neg c13] at H
                          exact absurd H (by simp)
                      · rw [if_neg c12] at H
                        exact absurd H (by simp)
                    · rw [if_neg c11] at H
                      exact absurd H (by simp)
                  · rw [if_neg c10] at H
                    have c10b0 : ((wrap64 (Int.tmod (IntKind.u64.wrap (rd l0 x6_1)) 3)) == 0) = false := beq_eq_false_iff_ne.mpr c10
                    have c10b1 : ((wrap64 (Int.tmod (IntKind.u64.wrap (rd l0 x6_1)) 3)) != 0) = true := bne_iff_ne.mpr c10
                    by_cases c17 : (wrap64 (Int.tmod (IntKind.u64.wrap (rd l0 x6_1)) 3)) = 1
                    · rw [if_pos c17] at H
                      have c17b0 : ((wrap64 (Int.tmod (IntKind.u64.wrap (rd l0 x6_1)) 3)) == 1) = true := beq_iff_eq.mpr c17
                      have c17b1 : ((wrap64 (Int.tmod (IntKind.u64.wrap (rd l0 x6_1)) 3)) != 1) = false := bne_eq_false_iff_eq.mpr c17
                      clear c17
                      by_cases c18 : (x4_1.size : Int) < 100
                      · rw [if_pos c18] at H
                        have c18b0 : decide ((x4_1.size : Int) < 100) = true := decide_eq_true c18
                        have c18b1 : decide (x4_1.size < 100) = true := decide_eq_true (by omega)
                        clear c18
                        by_cases c19 : x3_1.size + 12 ≤ 9223372036854775807
                        · rw [if_pos c19] at H
                          have c19b0 := eq_true c19
                          have c19b1 : decide (x3_1.size + 12 ≤ 9223372036854775807) = true := decide_eq_true c19
                          try have c19b2 : (9223372036854775807 < x3_1.size + 12) = False := eq_false (Nat.not_lt.2 c19)
                          by_cases c20 : (x3_1 ++ (⟨#[118, 32, 61, 32, 36, 123, 118, 125, 36, 123, 118, 125]⟩ : ByteArray)).size + (strOfNums y556).size ≤ 9223372036854775807
                          · rw [if_pos c20] at H
                            have c20b0 := eq_true c20
                            have c20b1 : decide ((x3_1 ++ (⟨#[118, 32, 61, 32, 36, 123, 118, 125, 36, 123, 118, 125]⟩ : ByteArray)).size + (strOfNums y556).size ≤ 9223372036854775807) = true := decide_eq_true c20
                            try have c20b2 : (9223372036854775807 < (x3_1 ++ (⟨#[118, 32, 61, 32, 36, 123, 118, 125, 36, 123, 118, 125]⟩ : ByteArray)).size + (strOfNums y556).size) = False := eq_false (Nat.not_lt.2 c20)
                            have c20b3 : (9223372036854775807 < x3_1.size + 12 + (strOfNums y556).size) = False := eq_false (by have hh : (x3_1 ++ (⟨#[118, 32, 61, 32, 36, 123, 118, 125, 36, 123, 118, 125]⟩ : ByteArray)).size = x3_1.size + 12 := (by rw [ByteArray.size_append] <;> rfl); omega)
                            by_cases c21 : ((x3_1 ++ (⟨#[118, 32, 61, 32, 36, 123, 118, 125, 36, 123, 118, 125]⟩ : ByteArray)) ++ (strOfNums y556)).size + 1 ≤ 9223372036854775807
                            · rw [if_pos c21] at H
                              have c21b0 := eq_true c21
                              have c21b1 : decide (((x3_1 ++ (⟨#[118, 32, 61, 32, 36, 123, 118, 125, 36, 123, 118, 125]⟩ : ByteArray)) ++ (strOfNums y556)).size + 1 ≤ 9223372036854775807) = true := decide_eq_true c21
                              try have c21b2 : (9223372036854775807 < ((x3_1 ++ (⟨#[118, 32, 61, 32, 36, 123, 118, 125, 36, 123, 118, 125]⟩ : ByteArray)) ++ (strOfNums y556)).size + 1) = False := eq_false (Nat.not_lt.2 c21)
                              have c21b3 : (9223372036854775807 < x3_1.size + 12 + (strOfNums y556).size + 1) = False := eq_false (by have hh : ((x3_1 ++ (⟨#[118, 32, 61, 32, 36, 123, 118, 125, 36, 123, 118, 125]⟩ : ByteArray)) ++ (strOfNums y556)).size = x3_1.size + 12 + (strOfNums y556).size := (by rw [ByteArray.size_append, ByteArray.size_append] <;> rfl); omega)
                              by_cases c22 : x4_1.size + x4_1.size ≤ 9223372036854775807
                              · rw [if_pos c22] at H
                                have c22b0 := eq_true c22
                                have c22b1 : decide (x4_1.size + x4_1.size ≤ 9223372036854775807) = true := decide_eq_true c22
                                try have c22b2 : (9223372036854775807 < x4_1.size + x4_1.size) = False := eq_false (Nat.not_lt.2 c22)
                                by_cases c23 : (x4_1 ++ x4_1).size + (strOfNums y556).size ≤ 9223372036854775807
                                · rw [if_pos c23] at H
                                  have c23b0 := eq_true c23
                                  have c23b1 : decide ((x4_1 ++ x4_1).size + (strOfNums y556).size ≤ 9223372036854775807) = true := decide_eq_true c23
                                  try have c23b2 : (9223372036854775807 < (x4_1 ++ x4_1).size + (strOfNums y556).size) = False := eq_false (Nat.not_lt.2 c23)
                                  have c23b3 : (9223372036854775807 < x4_1.size + x4_1.size + (strOfNums y556).size) = False := eq_false (by have hh : (x4_1 ++ x4_1).size = x4_1.size + x4_1.size := (by rw [ByteArray.size_append] <;> rfl); omega)
                                  have H' := Aside0.mk H
                                  clear H
                                  go_wp2_with (first | ((with_reducible refine gate_dst (N := 26) rfl ?_); (try (refine gate_guard (by rfl) ?_; dsimp only)); refine Kd.R_lit (Kd.int .u8) _ 5 ?hg (N := 26) ?hd (xs := ([(wrap64 (97 + x6_1)) % 256] : List Int)) (inner := [.int .u8 ((wrap64 (97 + x6_1)) % 256)]) (ok := fun _ => True) (okp := fun _ => True) ?hr ?hp (fun _ hk => hk) trivial (Below.refl _ _) (Nat.le_refl _) (by simp) ?_; (case hd => rfl); (case hg => rfl); (case hr => first | (go_simp; done) | (go_simp; rfl)); (case hp => exact (Reps.one (show Kd.M (Kd.int .u8) _ _ _ ((wrap64 (97 + x6_1)) % 256) [.int .u8 ((wrap64 (97 + x6_1)) % 256)] from rfl) (Reps.none _ _))); intro v557 w24 ho25 hb hg_ hnew_; clear hg_ hnew_; (first | rw [← Ny556.out] at ho25 | (simp only [Int.reduceToNat] at ho25; rw [← Ny556.out] at ho25)); have n0_ := Aside0.mk (Kd.R_below (by (with_reducible repeat (first | apply Kd.R_alloc | apply Kd.R_drewN | apply Kd.R_drew)); exact HO_5.out) hb); have n1_ := Aside0.mk (Kd.R_lower ho25 (below_size (by repeat (first | (with_reducible first | exact HB.out | apply below_alloc | apply pw_below_drewN | apply below_drew1) | exact HB.out)))); have n2_ := Aside0.mk (below_step (by repeat (first | (with_reducible first | exact HB.out | apply below_alloc | apply pw_below_drewN | apply below_drew1) | exact HB.out)) hb); clear HO_5; clear HB; have HO_5 := n0_; have HO558 := n1_; have HB := n2_; clear n0_ n1_ n2_; clear hb ho25; have hcv26 := own_string (P := Tryz.prog) Tryz.underlying39 Tryz.underlying5 Tryz.underlying9 (Kd.own_of_R HO558.out); have p559 : 0 ≤ (x6_1 : Int) := of_decide_eq_true (by first | (with_reducible assumption) | assumption); have q559 : x6_1 < (l0.length : Int) := of_decide_eq_true (by first | (with_reducible assumption) | assumption); obtain ⟨ad559, e559, hx559_0⟩ := Kd.at_int HR0.out x6_1 p559 q559; cases e559; replace hx559_0 := (HB.out.cell (World.block_lt_of_cell? w _ hx559_0)).trans hx559_0; replace p559 := eq_true p559; replace q559 := eq_true q559))
                                  repeat (go_quiet (first | ((with_reducible refine gate_dst (N := 26) rfl ?_); (try (refine gate_guard (by rfl) ?_; dsimp only)); refine Kd.R_lit (Kd.int .u8) _ 5 ?hg (N := 26) ?hd (xs := ([(wrap64 (97 + x6_1)) % 256] : List Int)) (inner := [.int .u8 ((wrap64 (97 + x6_1)) % 256)]) (ok := fun _ => True) (okp := fun _ => True) ?hr ?hp (fun _ hk => hk) trivial (Below.refl _ _) (Nat.le_refl _) (by simp) ?_; (case hd => rfl); (case hg => rfl); (case hr => first | (go_simp; done) | (go_simp; rfl)); (case hp => exact (Reps.one (show Kd.M (Kd.int .u8) _ _ _ ((wrap64 (97 + x6_1)) % 256) [.int .u8 ((wrap64 (97 + x6_1)) % 256)] from rfl) (Reps.none _ _))); intro v557 w24 ho25 hb hg_ hnew_; clear hg_ hnew_; (first | rw [← Ny556.out] at ho25 | (simp only [Int.reduceToNat] at ho25; rw [← Ny556.out] at ho25)); have n0_ := Aside0.mk (Kd.R_below (by (with_reducible repeat (first | apply Kd.R_alloc | apply Kd.R_drewN | apply Kd.R_drew)); exact HO_5.out) hb); have n1_ := Aside0.mk (Kd.R_lower ho25 (below_size (by repeat (first | (with_reducible first | exact HB.out | apply below_alloc | apply pw_below_drewN | apply below_drew1) | exact HB.out)))); have n2_ := Aside0.mk (below_step (by repeat (first | (with_reducible first | exact HB.out | apply below_alloc | apply pw_below_drewN | apply below_drew1) | exact HB.out)) hb); clear HO_5; clear HB; have HO_5 := n0_; have HO558 := n1_; have HB := n2_; clear n0_ n1_ n2_; clear hb ho25; have hcv26 := own_string (P := Tryz.prog) Tryz.underlying39 Tryz.underlying5 Tryz.underlying9 (Kd.own_of_R HO558.out); have p559 : 0 ≤ (x6_1 : Int) := of_decide_eq_true (by first | (with_reducible assumption) | assumption); have q559 : x6_1 < (l0.length : Int) := of_decide_eq_true (by first | (with_reducible assumption) | assumption); obtain ⟨ad559, e559, hx559_0⟩ := Kd.at_int HR0.out x6_1 p559 q559; cases e559; replace hx559_0 := (HB.out.cell (World.block_lt_of_cell? w _ hx559_0)).trans hx559_0; replace p559 := eq_true p559; replace q559 := eq_true q559)); try go_wp2_with (first | ((with_reducible refine gate_dst (N := 26) rfl ?_); (try (refine gate_guard (by rfl) ?_; dsimp only)); refine Kd.R_lit (Kd.int .u8) _ 5 ?hg (N := 26) ?hd (xs := ([(wrap64 (97 + x6_1)) % 256] : List Int)) (inner := [.int .u8 ((wrap64 (97 + x6_1)) % 256)]) (ok := fun _ => True) (okp := fun _ => True) ?hr ?hp (fun _ hk => hk) trivial (Below.refl _ _) (Nat.le_refl _) (by simp) ?_; (case hd => rfl); (case hg => rfl); (case hr => first | (go_simp; done) | (go_simp; rfl)); (case hp => exact (Reps.one (show Kd.M (Kd.int .u8) _ _ _ ((wrap64 (97 + x6_1)) % 256) [.int .u8 ((wrap64 (97 + x6_1)) % 256)] from rfl) (Reps.none _ _))); intro v557 w24 ho25 hb hg_ hnew_; clear hg_ hnew_; (first | rw [← Ny556.out] at ho25 | (simp only [Int.reduceToNat] at ho25; rw [← Ny556.out] at ho25)); have n0_ := Aside0.mk (Kd.R_below (by (with_reducible repeat (first | apply Kd.R_alloc | apply Kd.R_drewN | apply Kd.R_drew)); exact HO_5.out) hb); have n1_ := Aside0.mk (Kd.R_lower ho25 (below_size (by repeat (first | (with_reducible first | exact HB.out | apply below_alloc | apply pw_below_drewN | apply below_drew1) | exact HB.out)))); have n2_ := Aside0.mk (below_step (by repeat (first | (with_reducible first | exact HB.out | apply below_alloc | apply pw_below_drewN | apply below_drew1) | exact HB.out)) hb); clear HO_5; clear HB; have HO_5 := n0_; have HO558 := n1_; have HB := n2_; clear n0_ n1_ n2_; clear hb ho25; have hcv26 := own_string (P := Tryz.prog) Tryz.underlying39 Tryz.underlying5 Tryz.underlying9 (Kd.own_of_R HO558.out); have p559 : 0 ≤ (x6_1 : Int) := of_decide_eq_true (by first | (with_reducible assumption) | assumption); have q559 : x6_1 < (l0.length : Int) := of_decide_eq_true (by first | (with_reducible assumption) | assumption); obtain ⟨ad559, e559, hx559_0⟩ := Kd.at_int HR0.out x6_1 p559 q559; cases e559; replace hx559_0 := (HB.out.cell (World.block_lt_of_cell? w _ hx559_0)).trans hx559_0; replace p559 := eq_true p559; replace q559 := eq_true q559)))
                                  go_roundg kj4
                                  case measure => have := HK1.out; have := HJ4.out; omega
                                  case rel => exact ⟨(((x3_1 ++ (⟨#[118, 32, 61, 32, 36, 123, 118, 125, 36, 123, 118, 125]⟩ : ByteArray)) ++ (strOfNums y556)) ++ (⟨#[10]⟩ : ByteArray)), ((x4_1 ++ x4_1) ++ (strOfNums y556)), (x5_1), (wrap64 (x6_1 + 1)), (by first | rfl | (simp; done) | (simp [*]; done)), (by first | rfl | (simp; done) | (simp [*]; done)), (by first | rfl | (simp; done) | (simp [*]; done)), H', ⟨by have := HK1.out; have := HJ4.out; omega⟩, ⟨by (with_reducible repeat (first | apply Kd.R_alloc | apply Kd.R_drewN | apply Kd.R_drew)); exact HO_5.out⟩, ⟨by repeat (first | (with_reducible first | exact HB.out | apply below_alloc | apply pw_below_drewN | apply below_drew1) | exact HB.out)⟩⟩
                                · rw [if_neg c23] at H
                                  exact absurd H (by simp)
                              · rw [if_neg c22] at H
                                exact absurd H (by simp)
                            · rw [if_neg c21] at H
                              exact absurd H (by simp)
                          · rw [if_neg c20] at H
                            exact absurd H (by simp)
                        · rw [if_neg c19] at H
                          exact absurd H (by simp)
                      · rw [if_neg c18] at H
                        have c18b0 : decide ((x4_1.size : Int) < 100) = false := decide_eq_false c18
                        have c18b1 : decide (x4_1.size < 100) = false := decide_eq_false (by omega)
                        clear c18
                        have H' := Aside0.mk H
                        clear H
                        go_wp2_with (first | ((with_reducible refine gate_dst (N := 26) rfl ?_); (try (refine gate_guard (by rfl) ?_; dsimp only)); refine Kd.R_lit (Kd.int .u8) _ 5 ?hg (N := 26) ?hd (xs := ([(wrap64 (97 + x6_1)) % 256] : List Int)) (inner := [.int .u8 ((wrap64 (97 + x6_1)) % 256)]) (ok := fun _ => True) (okp := fun _ => True) ?hr ?hp (fun _ hk => hk) trivial (Below.refl _ _) (Nat.le_refl _) (by simp) ?_; (case hd => rfl); (case hg => rfl); (case hr => first | (go_simp; done) | (go_simp; rfl)); (case hp => exact (Reps.one (show Kd.M (Kd.int .u8) _ _ _ ((wrap64 (97 + x6_1)) % 256) [.int .u8 ((wrap64 (97 + x6_1)) % 256)] from rfl) (Reps.none _ _))); intro v557 w27 ho28 hb hg_ hnew_; clear hg_ hnew_; (first | rw [← Ny556.out] at ho28 | (simp only [Int.reduceToNat] at ho28; rw [← Ny556.out] at ho28)); have n0_ := Aside0.mk (Kd.R_below (by (with_reducible repeat (first | apply Kd.R_alloc | apply Kd.R_drewN | apply Kd.R_drew)); exact HO_5.out) hb); have n1_ := Aside0.mk (Kd.R_lower ho28 (below_size (by repeat (first | (with_reducible first | exact HB.out | apply below_alloc | apply pw_below_drewN | apply below_drew1) | exact HB.out)))); have n2_ := Aside0.mk (below_step (by repeat (first | (with_reducible first | exact HB.out | apply below_alloc | apply pw_below_drewN | apply below_drew1) | exact HB.out)) hb); clear HO_5; clear HB; have HO_5 := n0_; have HO558 := n1_; have HB := n2_; clear n0_ n1_ n2_; clear hb ho28; have hcv29 := own_string (P := Tryz.prog) Tryz.underlying39 Tryz.underlying5 Tryz.underlying9 (Kd.own_of_R HO558.out); have p559 : 0 ≤ (x6_1 : Int) := of_decide_eq_true (by first | (with_reducible assumption) | assumption); have q559 : x6_1 < (l0.length : Int) := of_decide_eq_true (by first | (with_reducible assumption) | assumption); obtain ⟨ad559, e559, hx559_0⟩ := Kd.at_int HR0.out x6_1 p559 q559; cases e559; replace hx559_0 := (HB.out.cell (World.block_lt_of_cell? w _ hx559_0)).trans hx559_0; replace p559 := eq_true p559; replace q559 := eq_true q559))
                        repeat (go_quiet (first | ((with_reducible refine gate_dst (N := 26) rfl ?_); (try (refine gate_guard (by rfl) ?_; dsimp only)); refine Kd.R_lit (Kd.int .u8) _ 5 ?hg (N := 26) ?hd (xs := ([(wrap64 (97 + x6_1)) % 256] : List Int)) (inner := [.int .u8 ((wrap64 (97 + x6_1)) % 256)]) (ok := fun _ => True) (okp := fun _ => True) ?hr ?hp (fun _ hk => hk) trivial (Below.refl _ _) (Nat.le_refl _) (by simp) ?_; (case hd => rfl); (case hg => rfl); (case hr => first | (go_simp; done) | (go_simp; rfl)); (case hp => exact (Reps.one (show Kd.M (Kd.int .u8) _ _ _ ((wrap64 (97 + x6_1)) % 256) [.int .u8 ((wrap64 (97 + x6_1)) % 256)] from rfl) (Reps.none _ _))); intro v557 w27 ho28 hb hg_ hnew_; clear hg_ hnew_; (first | rw [← Ny556.out] at ho28 | (simp only [Int.reduceToNat] at ho28; rw [← Ny556.out] at ho28)); have n0_ := Aside0.mk (Kd.R_below (by (with_reducible repeat (first | apply Kd.R_alloc | apply Kd.R_drewN | apply Kd.R_drew)); exact HO_5.out) hb); have n1_ := Aside0.mk (Kd.R_lower ho28 (below_size (by repeat (first | (with_reducible first | exact HB.out | apply below_alloc | apply pw_below_drewN | apply below_drew1) | exact HB.out)))); have n2_ := Aside0.mk (below_step (by repeat (first | (with_reducible first | exact HB.out | apply below_alloc | apply pw_below_drewN | apply below_drew1) | exact HB.out)) hb); clear HO_5; clear HB; have HO_5 := n0_; have HO558 := n1_; have HB := n2_; clear n0_ n1_ n2_; clear hb ho28; have hcv29 := own_string (P := Tryz.prog) Tryz.underlying39 Tryz.underlying5 Tryz.underlying9 (Kd.own_of_R HO558.out); have p559 : 0 ≤ (x6_1 : Int) := of_decide_eq_true (by first | (with_reducible assumption) | assumption); have q559 : x6_1 < (l0.length : Int) := of_decide_eq_true (by first | (with_reducible assumption) | assumption); obtain ⟨ad559, e559, hx559_0⟩ := Kd.at_int HR0.out x6_1 p559 q559; cases e559; replace hx559_0 := (HB.out.cell (World.block_lt_of_cell? w _ hx559_0)).trans hx559_0; replace p559 := eq_true p559; replace q559 := eq_true q559)); try go_wp2_with (first | ((with_reducible refine gate_dst (N := 26) rfl ?_); (try (refine gate_guard (by rfl) ?_; dsimp only)); refine Kd.R_lit (Kd.int .u8) _ 5 ?hg (N := 26) ?hd (xs := ([(wrap64 (97 + x6_1)) % 256] : List Int)) (inner := [.int .u8 ((wrap64 (97 + x6_1)) % 256)]) (ok := fun _ => True) (okp := fun _ => True) ?hr ?hp (fun _ hk => hk) trivial (Below.refl _ _) (Nat.le_refl _) (by simp) ?_; (case hd => rfl); (case hg => rfl); (case hr => first | (go_simp; done) | (go_simp; rfl)); (case hp => exact (Reps.one (show Kd.M (Kd.int .u8) _ _ _ ((wrap64 (97 + x6_1)) % 256) [.int .u8 ((wrap64 (97 + x6_1)) % 256)] from rfl) (Reps.none _ _))); intro v557 w27 ho28 hb hg_ hnew_; clear hg_ hnew_; (first | rw [← Ny556.out] at ho28 | (simp only [Int.reduceToNat] at ho28; rw [← Ny556.out] at ho28)); have n0_ := Aside0.mk (Kd.R_below (by (with_reducible repeat (first | apply Kd.R_alloc | apply Kd.R_drewN | apply Kd.R_drew)); exact HO_5.out) hb); have n1_ := Aside0.mk (Kd.R_lower ho28 (below_size (by repeat (first | (with_reducible first | exact HB.out | apply below_alloc | apply pw_below_drewN | apply below_drew1) | exact HB.out)))); have n2_ := Aside0.mk (below_step (by repeat (first | (with_reducible first | exact HB.out | apply below_alloc | apply pw_below_drewN | apply below_drew1) | exact HB.out)) hb); clear HO_5; clear HB; have HO_5 := n0_; have HO558 := n1_; have HB := n2_; clear n0_ n1_ n2_; clear hb ho28; have hcv29 := own_string (P := Tryz.prog) Tryz.underlying39 Tryz.underlying5 Tryz.underlying9 (Kd.own_of_R HO558.out); have p559 : 0 ≤ (x6_1 : Int) := of_decide_eq_true (by first | (with_reducible assumption) | assumption); have q559 : x6_1 < (l0.length : Int) := of_decide_eq_true (by first | (with_reducible assumption) | assumption); obtain ⟨ad559, e559, hx559_0⟩ := Kd.at_int HR0.out x6_1 p559 q559; cases e559; replace hx559_0 := (HB.out.cell (World.block_lt_of_cell? w _ hx559_0)).trans hx559_0; replace p559 := eq_true p559; replace q559 := eq_true q559)))
                        go_roundg kj4
                        case measure => have := HK1.out; have := HJ4.out; omega
                        case rel => exact ⟨(x3_1), (x4_1), (x5_1), (wrap64 (x6_1 + 1)), (by first | rfl | (simp; done) | (simp [*]; done)), (by first | rfl | (simp; done) | (simp [*]; done)), (by first | rfl | (simp; done) | (simp [*]; done)), H', ⟨by have := HK1.out; have := HJ4.out; omega⟩, ⟨by (with_reducible repeat (first | apply Kd.R_alloc | apply Kd.R_drewN | apply Kd.R_drew)); exact HO_5.out⟩, ⟨by repeat (first | (with_reducible first | exact HB.out | apply below_alloc | apply pw_below_drewN | apply below_drew1) | exact HB.out)⟩⟩
                    · rw [if_neg c17] at H
                      have c17b0 : ((wrap64 (Int.tmod (IntKind.u64.wrap (rd l0 x6_1)) 3)) == 1) = false := beq_eq_false_iff_ne.mpr c17
                      have c17b1 : ((wrap64 (Int.tmod (IntKind.u64.wrap (rd l0 x6_1)) 3)) != 1) = true := bne_iff_ne.mpr c17
                      by_cases c30 : x3_1.size + 7 ≤ 9223372036854775807
                      · rw [if_pos c30] at H
                        have c30b0 := eq_true c30
                        have c30b1 : decide (x3_1.size + 7 ≤ 9223372036854775807) = true := decide_eq_true c30
                        try have c30b2 : (9223372036854775807 < x3_1.size + 7) = False := eq_false (Nat.not_lt.2 c30)
                        by_cases c31 : (x3_1 ++ (⟨#[98, 117, 105, 108, 100, 32, 111]⟩ : ByteArray)).size + (strOfNums y556).size ≤ 9223372036854775807
                        · rw [if_pos c31] at H
                          have c31b0 := eq_true c31
                          have c31b1 : decide ((x3_1 ++ (⟨#[98, 117, 105, 108, 100, 32, 111]⟩ : ByteArray)).size + (strOfNums y556).size ≤ 9223372036854775807) = true := decide_eq_true c31
                          try have c31b2 : (9223372036854775807 < (x3_1 ++ (⟨#[98, 117, 105, 108, 100, 32, 111]⟩ : ByteArray)).size + (strOfNums y556).size) = False := eq_false (Nat.not_lt.2 c31)
                          have c31b3 : (9223372036854775807 < x3_1.size + 7 + (strOfNums y556).size) = False := eq_false (by have hh : (x3_1 ++ (⟨#[98, 117, 105, 108, 100, 32, 111]⟩ : ByteArray)).size = x3_1.size + 7 := (by rw [ByteArray.size_append] <;> rfl); omega)
                          by_cases c32 : ((x3_1 ++ (⟨#[98, 117, 105, 108, 100, 32, 111]⟩ : ByteArray)) ++ (strOfNums y556)).size + 6 ≤ 9223372036854775807
                          · rw [if_pos c32] at H
                            have c32b0 := eq_true c32
                            have c32b1 : decide (((x3_1 ++ (⟨#[98, 117, 105, 108, 100, 32, 111]⟩ : ByteArray)) ++ (strOfNums y556)).size + 6 ≤ 9223372036854775807) = true := decide_eq_true c32
                            try have c32b2 : (9223372036854775807 < ((x3_1 ++ (⟨#[98, 117, 105, 108, 100, 32, 111]⟩ : ByteArray)) ++ (strOfNums y556)).size + 6) = False := eq_false (Nat.not_lt.2 c32)
                            have c32b3 : (9223372036854775807 < x3_1.size + 7 + (strOfNums y556).size + 6) = False := eq_false (by have hh : ((x3_1 ++ (⟨#[98, 117, 105, 108, 100, 32, 111]⟩ : ByteArray)) ++ (strOfNums y556)).size = x3_1.size + 7 + (strOfNums y556).size := (by rw [ByteArray.size_append, ByteArray.size_append] <;> rfl); omega)
                            by_cases c33 : 1 + x4_1.size ≤ 9223372036854775807
                            · rw [if_pos c33] at H
                              have c33b0 := eq_true c33
                              have c33b1 : decide (1 + x4_1.size ≤ 9223372036854775807) = true := decide_eq_true c33
                              try have c33b2 : (9223372036854775807 < 1 + x4_1.size) = False := eq_false (Nat.not_lt.2 c33)
                              by_cases c34 : ((⟨#[60]⟩ : ByteArray) ++ x4_1).size + 2 ≤ 9223372036854775807
                              · rw [if_pos c34] at H
                                have c34b0 := eq_true c34
                                have c34b1 : decide (((⟨#[60]⟩ : ByteArray) ++ x4_1).size + 2 ≤ 9223372036854775807) = true := decide_eq_true c34
                                try have c34b2 : (9223372036854775807 < ((⟨#[60]⟩ : ByteArray) ++ x4_1).size + 2) = False := eq_false (Nat.not_lt.2 c34)
                                have c34b3 : (9223372036854775807 < 1 + x4_1.size + 2) = False := eq_false (by have hh : ((⟨#[60]⟩ : ByteArray) ++ x4_1).size = 1 + x4_1.size := (by rw [ByteArray.size_append] <;> rfl); omega)
                                by_cases c35 : (((⟨#[60]⟩ : ByteArray) ++ x4_1) ++ (⟨#[62, 111]⟩ : ByteArray)).size + (strOfNums y556).size ≤ 9223372036854775807
                                · rw [if_pos c35] at H
                                  have c35b0 := eq_true c35
                                  have c35b1 : decide ((((⟨#[60]⟩ : ByteArray) ++ x4_1) ++ (⟨#[62, 111]⟩ : ByteArray)).size + (strOfNums y556).size ≤ 9223372036854775807) = true := decide_eq_true c35
                                  try have c35b2 : (9223372036854775807 < (((⟨#[60]⟩ : ByteArray) ++ x4_1) ++ (⟨#[62, 111]⟩ : ByteArray)).size + (strOfNums y556).size) = False := eq_false (Nat.not_lt.2 c35)
                                  have c35b3 : (9223372036854775807 < 1 + x4_1.size + 2 + (strOfNums y556).size) = False := eq_false (by have hh : (((⟨#[60]⟩ : ByteArray) ++ x4_1) ++ (⟨#[62, 111]⟩ : ByteArray)).size = 1 + x4_1.size + 2 := (by rw [ByteArray.size_append, ByteArray.size_append] <;> rfl); omega)
                                  by_cases c36 : x5_1.length < 8796093022208
                                  · rw [if_pos c36] at H
                                    have LMc36 := Aside0.mk c36
                                    clear c36
                                    obtain ⟨y560, hy560⟩ : ∃ y_ : List ByteArray, y_ = (x5_1 ++ [(((⟨#[60]⟩ : ByteArray) ++ x4_1) ++ (⟨#[62, 111]⟩ : ByteArray)) ++ (strOfNums y556)]) := ⟨_, rfl⟩
                                    replace H : (cruciblelaw8_ManifestBinds.l0 kj4 l0 (((x3_1 ++ (⟨#[98, 117, 105, 108, 100, 32, 111]⟩ : ByteArray)) ++ (strOfNums y556)) ++ (⟨#[32, 58, 32, 99, 99, 10]⟩ : ByteArray)) x4_1 y560 (wrap64 (x6_1 + 1))) = some r := by first | (rw [hy560]; with_reducible exact H) | (have H2_ := (Option.bind_some _ _).symm.trans H; rw [hy560]; with_reducible exact H2_) | (have H2_ := (Option.bind_some _ _).symm.trans H; with_reducible exact H2_) | with_reducible exact H | (rw [hy560]; exact H) | exact H
                                    have Ny560 := Aside0.mk hy560
                                    clear hy560
                                    have H' := Aside0.mk H
                                    clear H
                                    go_wp2_with (first | ((with_reducible refine gate_dst (N := 26) rfl ?_); (try (refine gate_guard (by rfl) ?_; dsimp only)); refine Kd.R_lit (Kd.int .u8) _ 5 ?hg (N := 26) ?hd (xs := ([(wrap64 (97 + x6_1)) % 256] : List Int)) (inner := [.int .u8 ((wrap64 (97 + x6_1)) % 256)]) (ok := fun _ => True) (okp := fun _ => True) ?hr ?hp (fun _ hk => hk) trivial (Below.refl _ _) (Nat.le_refl _) (by simp) ?_; (case hd => rfl); (case hg => rfl); (case hr => first | (go_simp; done) | (go_simp; rfl)); (case hp => exact (Reps.one (show Kd.M (Kd.int .u8) _ _ _ ((wrap64 (97 + x6_1)) % 256) [.int .u8 ((wrap64 (97 + x6_1)) % 256)] from rfl) (Reps.none _ _))); intro v557 w37 ho38 hb hg_ hnew_; clear hg_ hnew_; (first | rw [← Ny556.out] at ho38 | (simp only [Int.reduceToNat] at ho38; rw [← Ny556.out] at ho38)); have n0_ := Aside0.mk (Kd.R_below (by (with_reducible repeat (first | apply Kd.R_alloc | apply Kd.R_drewN | apply Kd.R_drew)); exact HO_5.out) hb); have n1_ := Aside0.mk (Kd.R_lower ho38 (below_size (by repeat (first | (with_reducible first | exact HB.out | apply below_alloc | apply pw_below_drewN | apply below_drew1) | exact HB.out)))); have n2_ := Aside0.mk (below_step (by repeat (first | (with_reducible first | exact HB.out | apply below_alloc | apply pw_below_drewN | apply below_drew1) | exact HB.out)) hb); clear HO_5; clear HB; have HO_5 := n0_; have HO558 := n1_; have HB := n2_; clear n0_ n1_ n2_; clear hb ho38; have hcv39 := own_string (P := Tryz.prog) Tryz.underlying39 Tryz.underlying5 Tryz.underlying9 (Kd.own_of_R HO558.out); have p559 : 0 ≤ (x6_1 : Int) := of_decide_eq_true (by first | (with_reducible assumption) | assumption); have q559 : x6_1 < (l0.length : Int) := of_decide_eq_true (by first | (with_reducible assumption) | assumption); obtain ⟨ad559, e559, hx559_0⟩ := Kd.at_int HR0.out x6_1 p559 q559; cases e559; replace hx559_0 := (HB.out.cell (World.block_lt_of_cell? w _ hx559_0)).trans hx559_0; replace p559 := eq_true p559; replace q559 := eq_true q559) | ((with_reducible refine gate_builtin (b := .append) (xs := #[.tmp 40, .tmp 46]) rfl ?_); (try (refine gate_guard (by rfl) ?_; dsimp only)); at_builtin; refine Kd.R_append Kd.string (w0 := w) w.heap.size rfl (.tmp 40) (.tmp 46) 24 9 (.string ⟨#[]⟩) 16 rfl Tryz.underlying24 info9 rfl (by decide) (by omega) u5 x5_1 ((((⟨#[60]⟩ : ByteArray) ++ x4_1) ++ (⟨#[62, 111]⟩ : ByteArray)) ++ (strOfNums y556)) [.string ((((⟨#[60]⟩ : ByteArray) ++ x4_1) ++ (⟨#[62, 111]⟩ : ByteArray)) ++ (strOfNums y556))] (fun _ => True) (fun _ => False) rfl rfl ?aP (fun _ hk => hk.elim) ?aF ?aO ?aB ?aS ?aL ?_; (case aP => exact rfl); (case aB => exact (by repeat (first | (with_reducible first | exact HB.out | apply below_alloc | apply pw_below_drewN | apply below_drew1) | exact HB.out))); (case aF => exact (fun _ _ => trivial)); (case aO => exact (by (with_reducible repeat (first | apply Kd.R_alloc | apply Kd.R_drewN | apply Kd.R_drew)); exact HO_5.out)); (case aS => exact (below_size (by repeat (first | (with_reducible first | exact HB.out | apply below_alloc | apply pw_below_drewN | apply below_drew1) | exact HB.out)))); (case aL => have := LMc36.out; omega); intro v561 w40 ho hb hg hat; rw [← Ny560.out] at ho; have n0_ := Aside0.mk (Kd.R_over' (by (with_reducible repeat (first | apply Kd.R_alloc | apply Kd.R_drewN | apply Kd.R_drew)); exact HO558.out) (Kd.R_typed (by (with_reducible repeat (first | apply Kd.R_alloc | apply Kd.R_drewN | apply Kd.R_drew)); exact HO_5.out)) (by decide) hg); have n1_ := Aside0.mk (hb); have n2_ := Aside0.mk (ho); clear HO558; clear HB; clear HO_5; have HO558 := n0_; have HB := n1_; have HO562 := n2_; clear n0_ n1_ n2_; clear ho hb hg hat))
                                    repeat (go_quiet (first | ((with_reducible refine gate_dst (N := 26) rfl ?_); (try (refine gate_guard (by rfl) ?_; dsimp only)); refine Kd.R_lit (Kd.int .u8) _ 5 ?hg (N := 26) ?hd (xs := ([(wrap64 (97 + x6_1)) % 256] : List Int)) (inner := [.int .u8 ((wrap64 (97 + x6_1)) % 256)]) (ok := fun _ => True) (okp := fun _ => True) ?hr ?hp (fun _ hk => hk) trivial (Below.refl _ _) (Nat.le_refl _) (by simp) ?_; (case hd => rfl); (case hg => rfl); (case hr => first | (go_simp; done) | (go_simp; rfl)); (case hp => exact (Reps.one (show Kd.M (Kd.int .u8) _ _ _ ((wrap64 (97 + x6_1)) % 256) [.int .u8 ((wrap64 (97 + x6_1)) % 256)] from rfl) (Reps.none _ _))); intro v557 w37 ho38 hb hg_ hnew_; clear hg_ hnew_; (first | rw [← Ny556.out] at ho38 | (simp only [Int.reduceToNat] at ho38; rw [← Ny556.out] at ho38)); have n0_ := Aside0.mk (Kd.R_below (by (with_reducible repeat (first | apply Kd.R_alloc | apply Kd.R_drewN | apply Kd.R_drew)); exact HO_5.out) hb); have n1_ := Aside0.mk (Kd.R_lower ho38 (below_size (by repeat (first | (with_reducible first | exact HB.out | apply below_alloc | apply pw_below_drewN | apply below_drew1) | exact HB.out)))); have n2_ := Aside0.mk (below_step (by repeat (first | (with_reducible first | exact HB.out | apply below_alloc | apply pw_below_drewN | apply below_drew1) | exact HB.out)) hb); clear HO_5; clear HB; have HO_5 := n0_; have HO558 := n1_; have HB := n2_; clear n0_ n1_ n2_; clear hb ho38; have hcv39 := own_string (P := Tryz.prog) Tryz.underlying39 Tryz.underlying5 Tryz.underlying9 (Kd.own_of_R HO558.out); have p559 : 0 ≤ (x6_1 : Int) := of_decide_eq_true (by first | (with_reducible assumption) | assumption); have q559 : x6_1 < (l0.length : Int) := of_decide_eq_true (by first | (with_reducible assumption) | assumption); obtain ⟨ad559, e559, hx559_0⟩ := Kd.at_int HR0.out x6_1 p559 q559; cases e559; replace hx559_0 := (HB.out.cell (World.block_lt_of_cell? w _ hx559_0)).trans hx559_0; replace p559 := eq_true p559; replace q559 := eq_true q559) | ((with_reducible refine gate_builtin (b := .append) (xs := #[.tmp 40, .tmp 46]) rfl ?_); (try (refine gate_guard (by rfl) ?_; dsimp only)); at_builtin; refine Kd.R_append Kd.string (w0 := w) w.heap.size rfl (.tmp 40) (.tmp 46) 24 9 (.string ⟨#[]⟩) 16 rfl Tryz.underlying24 info9 rfl (by decide) (by omega) u5 x5_1 ((((⟨#[60]⟩ : ByteArray) ++ x4_1) ++ (⟨#[62, 111]⟩ : ByteArray)) ++ (strOfNums y556)) [.string ((((⟨#[60]⟩ : ByteArray) ++ x4_1) ++ (⟨#[62, 111]⟩ : ByteArray)) ++ (strOfNums y556))] (fun _ => True) (fun _ => False) rfl rfl ?aP (fun _ hk => hk.elim) ?aF ?aO ?aB ?aS ?aL ?_; (case aP => exact rfl); (case aB => exact (by repeat (first | (with_reducible first | exact HB.out | apply below_alloc | apply pw_below_drewN | apply below_drew1) | exact HB.out))); (case aF => exact (fun _ _ => trivial)); (case aO => exact (by (with_reducible repeat (first | apply Kd.R_alloc | apply Kd.R_drewN | apply Kd.R_drew)); exact HO_5.out)); (case aS => exact (below_size (by repeat (first | (with_reducible first | exact HB.out | apply below_alloc | apply pw_below_drewN | apply below_drew1) | exact HB.out)))); (case aL => have := LMc36.out; omega); intro v561 w40 ho hb hg hat; rw [← Ny560.out] at ho; have n0_ := Aside0.mk (Kd.R_over' (by (with_reducible repeat (first | apply Kd.R_alloc | apply Kd.R_drewN | apply Kd.R_drew)); exact HO558.out) (Kd.R_typed (by (with_reducible repeat (first | apply Kd.R_alloc | apply Kd.R_drewN | apply Kd.R_drew)); exact HO_5.out)) (by decide) hg); have n1_ := Aside0.mk (hb); have n2_ := Aside0.mk (ho); clear HO558; clear HB; clear HO_5; have HO558 := n0_; have HB := n1_; have HO562 := n2_; clear n0_ n1_ n2_; clear ho hb hg hat)); try go_wp2_with (first | ((with_reducible refine gate_dst (N := 26) rfl ?_); (try (refine gate_guard (by rfl) ?_; dsimp only)); refine Kd.R_lit (Kd.int .u8) _ 5 ?hg (N := 26) ?hd (xs := ([(wrap64 (97 + x6_1)) % 256] : List Int)) (inner := [.int .u8 ((wrap64 (97 + x6_1)) % 256)]) (ok := fun _ => True) (okp := fun _ => True) ?hr ?hp (fun _ hk => hk) trivial (Below.refl _ _) (Nat.le_refl _) (by simp) ?_; (case hd => rfl); (case hg => rfl); (case hr => first | (go_simp; done) | (go_simp; rfl)); (case hp => exact (Reps.one (show Kd.M (Kd.int .u8) _ _ _ ((wrap64 (97 + x6_1)) % 256) [.int .u8 ((wrap64 (97 + x6_1)) % 256)] from rfl) (Reps.none _ _))); intro v557 w37 ho38 hb hg_ hnew_; clear hg_ hnew_; (first | rw [← Ny556.out] at ho38 | (simp only [Int.reduceToNat] at ho38; rw [← Ny556.out] at ho38)); have n0_ := Aside0.mk (Kd.R_below (by (with_reducible repeat (first | apply Kd.R_alloc | apply Kd.R_drewN | apply Kd.R_drew)); exact HO_5.out) hb); have n1_ := Aside0.mk (Kd.R_lower ho38 (below_size (by repeat (first | (with_reducible first | exact HB.out | apply below_alloc | apply pw_below_drewN | apply below_drew1) | exact HB.out)))); have n2_ := Aside0.mk (below_step (by repeat (first | (with_reducible first | exact HB.out | apply below_alloc | apply pw_below_drewN | apply below_drew1) | exact HB.out)) hb); clear HO_5; clear HB; have HO_5 := n0_; have HO558 := n1_; have HB := n2_; clear n0_ n1_ n2_; clear hb ho38; have hcv39 := own_string (P := Tryz.prog) Tryz.underlying39 Tryz.underlying5 Tryz.underlying9 (Kd.own_of_R HO558.out); have p559 : 0 ≤ (x6_1 : Int) := of_decide_eq_true (by first | (with_reducible assumption) | assumption); have q559 : x6_1 < (l0.length : Int) := of_decide_eq_true (by first | (with_reducible assumption) | assumption); obtain ⟨ad559, e559, hx559_0⟩ := Kd.at_int HR0.out x6_1 p559 q559; cases e559; replace hx559_0 := (HB.out.cell (World.block_lt_of_cell? w _ hx559_0)).trans hx559_0; replace p559 := eq_true p559; replace q559 := eq_true q559) | ((with_reducible refine gate_builtin (b := .append) (xs := #[.tmp 40, .tmp 46]) rfl ?_); (try (refine gate_guard (by rfl) ?_; dsimp only)); at_builtin; refine Kd.R_append Kd.string (w0 := w) w.heap.size rfl (.tmp 40) (.tmp 46) 24 9 (.string ⟨#[]⟩) 16 rfl Tryz.underlying24 info9 rfl (by decide) (by omega) u5 x5_1 ((((⟨#[60]⟩ : ByteArray) ++ x4_1) ++ (⟨#[62, 111]⟩ : ByteArray)) ++ (strOfNums y556)) [.string ((((⟨#[60]⟩ : ByteArray) ++ x4_1) ++ (⟨#[62, 111]⟩ : ByteArray)) ++ (strOfNums y556))] (fun _ => True) (fun _ => False) rfl rfl ?aP (fun _ hk => hk.elim) ?aF ?aO ?aB ?aS ?aL ?_; (case aP => exact rfl); (case aB => exact (by repeat (first | (with_reducible first | exact HB.out | apply below_alloc | apply pw_below_drewN | apply below_drew1) | exact HB.out))); (case aF => exact (fun _ _ => trivial)); (case aO => exact (by (with_reducible repeat (first | apply Kd.R_alloc | apply Kd.R_drewN | apply Kd.R_drew)); exact HO_5.out)); (case aS => exact (below_size (by repeat (first | (with_reducible first | exact HB.out | apply below_alloc | apply pw_below_drewN | apply below_drew1) | exact HB.out)))); (case aL => have := LMc36.out; omega); intro v561 w40 ho hb hg hat; rw [← Ny560.out] at ho; have n0_ := Aside0.mk (Kd.R_over' (by (with_reducible repeat (first | apply Kd.R_alloc | apply Kd.R_drewN | apply Kd.R_drew)); exact HO558.out) (Kd.R_typed (by (with_reducible repeat (first | apply Kd.R_alloc | apply Kd.R_drewN | apply Kd.R_drew)); exact HO_5.out)) (by decide) hg); have n1_ := Aside0.mk (hb); have n2_ := Aside0.mk (ho); clear HO558; clear HB; clear HO_5; have HO558 := n0_; have HB := n1_; have HO562 := n2_; clear n0_ n1_ n2_; clear ho hb hg hat)))
                                    go_roundg kj4
                                    case measure => have := HK1.out; have := HJ4.out; omega
                                    case rel => exact ⟨(((x3_1 ++ (⟨#[98, 117, 105, 108, 100, 32, 111]⟩ : ByteArray)) ++ (strOfNums y556)) ++ (⟨#[32, 58, 32, 99, 99, 10]⟩ : ByteArray)), (x4_1), (y560), (wrap64 (x6_1 + 1)), (by first | rfl | (simp; done) | (simp [*]; done)), (by first | rfl | (simp; done) | (simp [*]; done)), (by first | rfl | (simp; done) | (simp [*]; done)), H', ⟨by have := HK1.out; have := HJ4.out; omega⟩, ⟨by (with_reducible repeat (first | apply Kd.R_alloc | apply Kd.R_drewN | apply Kd.R_drew)); exact HO562.out⟩, ⟨by repeat (first | (with_reducible first | exact HB.out | apply below_alloc | apply pw_below_drewN | apply below_drew1) | exact HB.out)⟩⟩
                                  · rw [if_neg c36] at H
                                    exact absurd H (by simp)
                                · rw [if_neg c35] at H
                                  exact absurd H (by simp)
                              · rw [if_neg c34] at H
                                exact absurd H (by simp)
                            · rw [if_neg c33] at H
                              exact absurd H (by simp)
                          · rw [if_neg c32] at H
                            exact absurd H (by simp)
                        · rw [if_neg c31] at H
                          exact absurd H (by simp)
                      · rw [if_neg c30] at H
                        exact absurd H (by simp)
                · rw [if_neg c9] at H
                  exact absurd H (by simp)
              · rw [if_neg c8] at H
                exact absurd H (by simp)
            · replace c7 := Bool.eq_false_iff.mpr c7
              subst c7
              have H1 : ((manifest_Parse.f x3_1).bind fun bt563 => ((cruciblelaw0_Num.f bt563.2.2.2).bind fun t574 => (if t574 = 0 then (cruciblelaw8_ManifestBinds.j2 kj4 x5_1 ((bt563.1.length : Int) != (x5_1.length : Int)) bt563.1 bt563.2.1 bt563.2.2.1) else (cruciblelaw8_ManifestBinds.j2 kj4 x5_1 true bt563.1 bt563.2.1 bt563.2.2.1)))) = some r := by rw [if_neg (show ¬ (false = true) by decide)] at H; exact H
              clear H
              have H := H1
              clear H1
              replace H := Option.bind_eq_some_iff.mp H
              obtain ⟨⟨t563, t566, t569, t572⟩, A410, H⟩ := H
              replace H : ((cruciblelaw0_Num.f t572).bind fun t574 => (if t574 = 0 then (cruciblelaw8_ManifestBinds.j2 kj4 x5_1 ((t563.length : Int) != (x5_1.length : Int)) t563 t566 t569) else (cruciblelaw8_ManifestBinds.j2 kj4 x5_1 true t563 t566 t569))) = some r := H
              have A41 := Aside0.mk A410
              clear A410
              have HC42 := Aside0.mk H
              clear H
              go_upto_region 21 with (first | (go_at_call 10; (with_reducible refine (manifest_Parse.calls x3_1 t563 t566 t569 t572 _ A41.out).mono ?_); rintro e w43 ⟨v564, v567, v570, rfl, ho0, ho1, ho2, hb⟩; have n0_ := Aside0.mk (Kd.R_elder' (by (with_reducible repeat (first | apply Kd.R_alloc | apply Kd.R_drewN | apply Kd.R_drew)); exact HO_5.out) (Kd.R_base ho2) hb); have n1_ := Aside0.mk (Kd.R_lower (Kd.R_new' ho0 (Kd.R_lt (by (with_reducible repeat (first | apply Kd.R_alloc | apply Kd.R_drewN | apply Kd.R_drew)); exact HO_5.out))) (below_size (by repeat (first | (with_reducible first | exact HB.out | apply below_alloc | apply pw_below_drewN | apply below_drew1) | exact HB.out)))); have n2_ := Aside0.mk (Kd.R_lower ho1 (below_size (by repeat (first | (with_reducible first | exact HB.out | apply below_alloc | apply pw_below_drewN | apply below_drew1) | exact HB.out)))); have n3_ := Aside0.mk (Kd.R_lower (Kd.R_new' ho2 (Kd.R_lt (by (with_reducible repeat (first | apply Kd.R_alloc | apply Kd.R_drewN | apply Kd.R_drew)); exact HO_5.out))) (below_size (by repeat (first | (with_reducible first | exact HB.out | apply below_alloc | apply pw_below_drewN | apply below_drew1) | exact HB.out)))); have n4_ := Aside0.mk (below_step (by repeat (first | (with_reducible first | exact HB.out | apply below_alloc | apply pw_below_drewN | apply below_drew1) | exact HB.out)) hb); clear HO_5; clear HB; have HO_5 := n0_; have HO565 := n1_; have HO568 := n2_; have HO571 := n3_; have HB := n4_; clear n0_ n1_ n2_ n3_ n4_; (try clear hb); (try clear hb2); (try clear hk); (try clear hi); (try clear ho0); (try clear ho1); (try clear ho2)) | ((with_reducible refine gate_dst (N := 8) rfl ?_); (try (refine gate_guard (by rfl) ?_; dsimp only)); refine box_event ?hg (N := 8) ?hd (cs := #[.slice none 0 0, .slice none 0 0, .slice none 0 0]) (t := 26) ?hr ?_; (case hd => rfl); (case hg => rfl); (case hr => first | (go_simp; done) | (go_simp; rfl)); intro gb573 hg w44 hbox hb; have n0_ := Aside0.mk (Kd.R_below (by (with_reducible repeat (first | apply Kd.R_alloc | apply Kd.R_drewN | apply Kd.R_drew)); exact HO_5.out) hb); have n1_ := Aside0.mk (Kd.R_below (by (with_reducible repeat (first | apply Kd.R_alloc | apply Kd.R_drewN | apply Kd.R_drew)); exact HO565.out) hb); have n2_ := Aside0.mk (Kd.R_below (by (with_reducible repeat (first | apply Kd.R_alloc | apply Kd.R_drewN | apply Kd.R_drew)); exact HO568.out) hb); have n3_ := Aside0.mk (Kd.R_below (by (with_reducible repeat (first | apply Kd.R_alloc | apply Kd.R_drewN | apply Kd.R_drew)); exact HO571.out) hb); have n4_ := Aside0.mk (below_step (by repeat (first | (with_reducible first | exact HB.out | apply below_alloc | apply pw_below_drewN | apply below_drew1) | exact HB.out)) hb); have n5_ := Aside0.mk (hbox); have n6_ := Aside0.mk ((by rw [hg]; exact (below_size (by repeat (first | (with_reducible first | exact HB.out | apply below_alloc | apply pw_below_drewN | apply below_drew1) | exact HB.out))) : w.heap.size ≤ gb573)); have n7_ := Aside0.mk ((by rw [hg]; exact (below_size (by repeat (first | (with_reducible first | exact HB.out | apply below_alloc | apply pw_below_drewN | apply below_drew1) | exact HB.out))) : w.heap.size ≤ gb573)); clear HO_5; clear HO565; clear HO568; clear HO571; clear HB; have HO_5 := n0_; have HO565 := n1_; have HO568 := n2_; have HO571 := n3_; have HB := n4_; have BK573 := n5_; have GW573 := n6_; have GE573 := n7_; clear n0_ n1_ n2_ n3_ n4_ n5_ n6_ n7_; clear hb hbox hg; obtain ⟨Ao45, co45, eo45⟩ := Kd.R_slice HO565.out; subst eo45; have hcz46_0 : w44.cell? ⟨gb573, 0, none⟩ = some (.slice none 0 0) := (blk_cell BK573.out 0).trans rfl; have hcz46_1 : w44.cell? ⟨gb573, 1, none⟩ = some (.slice none 0 0) := (blk_cell BK573.out 1).trans rfl; have hcz46_2 : w44.cell? ⟨gb573, 2, none⟩ = some (.slice none 0 0) := (blk_cell BK573.out 2).trans rfl; have hfz46_0 := blk_frozen BK573.out 0; have hfz46_1 := blk_frozen BK573.out 1; have hfz46_2 := blk_frozen BK573.out 2; obtain ⟨Ao47, co47, eo47⟩ := Kd.R_slice HO568.out; subst eo47; obtain ⟨Ao48, co48, eo48⟩ := Kd.R_slice HO571.out; subst eo48))
              repeat (go_quiet (first | (go_at_call 10; (with_reducible refine (manifest_Parse.calls x3_1 t563 t566 t569 t572 _ A41.out).mono ?_); rintro e w43 ⟨v564, v567, v570, rfl, ho0, ho1, ho2, hb⟩; have n0_ := Aside0.mk (Kd.R_elder' (by (with_reducible repeat (first | apply Kd.R_alloc | apply Kd.R_drewN | apply Kd.R_drew)); exact HO_5.out) (Kd.R_base ho2) hb); have n1_ := Aside0.mk (Kd.R_lower (Kd.R_new' ho0 (Kd.R_lt (by (with_reducible repeat (first | apply Kd.R_alloc | apply Kd.R_drewN | apply Kd.R_drew)); exact HO_5.out))) (below_size (by repeat (first | (with_reducible first | exact HB.out | apply below_alloc | apply pw_below_drewN | apply below_drew1) | exact HB.out)))); have n2_ := Aside0.mk (Kd.R_lower ho1 (below_size (by repeat (first | (with_reducible first | exact HB.out | apply below_alloc | apply pw_below_drewN | apply below_drew1) | exact HB.out)))); have n3_ := Aside0.mk (Kd.R_lower (Kd.R_new' ho2 (Kd.R_lt (by (with_reducible repeat (first | apply Kd.R_alloc | apply Kd.R_drewN | apply Kd.R_drew)); exact HO_5.out))) (below_size (by repeat (first | (with_reducible first | exact HB.out | apply below_alloc | apply pw_below_drewN | apply below_drew1) | exact HB.out)))); have n4_ := Aside0.mk (below_step (by repeat (first | (with_reducible first | exact HB.out | apply below_alloc | apply pw_below_drewN | apply below_drew1) | exact HB.out)) hb); clear HO_5; clear HB; have HO_5 := n0_; have HO565 := n1_; have HO568 := n2_; have HO571 := n3_; have HB := n4_; clear n0_ n1_ n2_ n3_ n4_; (try clear hb); (try clear hb2); (try clear hk); (try clear hi); (try clear ho0); (try clear ho1); (try clear ho2)) | ((with_reducible refine gate_dst (N := 8) rfl ?_); (try (refine gate_guard (by rfl) ?_; dsimp only)); refine box_event ?hg (N := 8) ?hd (cs := #[.slice none 0 0, .slice none 0 0, .slice none 0 0]) (t := 26) ?hr ?_; (case hd => rfl); (case hg => rfl); (case hr => first | (go_simp; done) | (go_simp; rfl)); intro gb573 hg w44 hbox hb; have n0_ := Aside0.mk (Kd.R_below (by (with_reducible repeat (first | apply Kd.R_alloc | apply Kd.R_drewN | apply Kd.R_drew)); exact HO_5.out) hb); have n1_ := Aside0.mk (Kd.R_below (by (with_reducible repeat (first | apply Kd.R_alloc | apply Kd.R_drewN | apply Kd.R_drew)); exact HO565.out) hb); have n2_ := Aside0.mk (Kd.R_below (by (with_reducible repeat (first | apply Kd.R_alloc | apply Kd.R_drewN | apply Kd.R_drew)); exact HO568.out) hb); have n3_ := Aside0.mk (Kd.R_below (by (with_reducible repeat (first | apply Kd.R_alloc | apply Kd.R_drewN | apply Kd.R_drew)); exact HO571.out) hb); have n4_ := Aside0.mk (below_step (by repeat (first | (with_reducible first | exact HB.out | apply below_alloc | apply pw_below_drewN | apply below_drew1) | exact HB.out)) hb); have n5_ := Aside0.mk (hbox); have n6_ := Aside0.mk ((by rw [hg]; exact (below_size (by repeat (first | (with_reducible first | exact HB.out | apply below_alloc | apply pw_below_drewN | apply below_drew1) | exact HB.out))) : w.heap.size ≤ gb573)); have n7_ := Aside0.mk ((by rw [hg]; exact (below_size (by repeat (first | (with_reducible first | exact HB.out | apply below_alloc | apply pw_below_drewN | apply below_drew1) | exact HB.out))) : w.heap.size ≤ gb573)); clear HO_5; clear HO565; clear HO568; clear HO571; clear HB; have HO_5 := n0_; have HO565 := n1_; have HO568 := n2_; have HO571 := n3_; have HB := n4_; have BK573 := n5_; have GW573 := n6_; have GE573 := n7_; clear n0_ n1_ n2_ n3_ n4_ n5_ n6_ n7_; clear hb hbox hg; obtain ⟨Ao45, co45, eo45⟩ := Kd.R_slice HO565.out; subst eo45; have hcz46_0 : w44.cell? ⟨gb573, 0, none⟩ = some (.slice none 0 0) := (blk_cell BK573.out 0).trans rfl; have hcz46_1 : w44.cell? ⟨gb573, 1, none⟩ = some (.slice none 0 0) := (blk_cell BK573.out 1).trans rfl; have hcz46_2 : w44.cell? ⟨gb573, 2, none⟩ = some (.slice none 0 0) := (blk_cell BK573.out 2).trans rfl; have hfz46_0 := blk_frozen BK573.out 0; have hfz46_1 := blk_frozen BK573.out 1; have hfz46_2 := blk_frozen BK573.out 2; obtain ⟨Ao47, co47, eo47⟩ := Kd.R_slice HO568.out; subst eo47; obtain ⟨Ao48, co48, eo48⟩ := Kd.R_slice HO571.out; subst eo48)); go_upto_region 21 with (first | (go_at_call 10; (with_reducible refine (manifest_Parse.calls x3_1 t563 t566 t569 t572 _ A41.out).mono ?_); rintro e w43 ⟨v564, v567, v570, rfl, ho0, ho1, ho2, hb⟩; have n0_ := Aside0.mk (Kd.R_elder' (by (with_reducible repeat (first | apply Kd.R_alloc | apply Kd.R_drewN | apply Kd.R_drew)); exact HO_5.out) (Kd.R_base ho2) hb); have n1_ := Aside0.mk (Kd.R_lower (Kd.R_new' ho0 (Kd.R_lt (by (with_reducible repeat (first | apply Kd.R_alloc | apply Kd.R_drewN | apply Kd.R_drew)); exact HO_5.out))) (below_size (by repeat (first | (with_reducible first | exact HB.out | apply below_alloc | apply pw_below_drewN | apply below_drew1) | exact HB.out)))); have n2_ := Aside0.mk (Kd.R_lower ho1 (below_size (by repeat (first | (with_reducible first | exact HB.out | apply below_alloc | apply pw_below_drewN | apply below_drew1) | exact HB.out)))); have n3_ := Aside0.mk (Kd.R_lower (Kd.R_new' ho2 (Kd.R_lt (by (with_reducible repeat (first | apply Kd.R_alloc | apply Kd.R_drewN | apply Kd.R_drew)); exact HO_5.out))) (below_size (by repeat (first | (with_reducible first | exact HB.out | apply below_alloc | apply pw_below_drewN | apply below_drew1) | exact HB.out)))); have n4_ := Aside0.mk (below_step (by repeat (first | (with_reducible first | exact HB.out | apply below_alloc | apply pw_below_drewN | apply below_drew1) | exact HB.out)) hb); clear HO_5; clear HB; have HO_5 := n0_; have HO565 := n1_; have HO568 := n2_; have HO571 := n3_; have HB := n4_; clear n0_ n1_ n2_ n3_ n4_; (try clear hb); (try clear hb2); (try clear hk); (try clear hi); (try clear ho0); (try clear ho1); (try clear ho2)) | ((with_reducible refine gate_dst (N := 8) rfl ?_); (try (refine gate_guard (by rfl) ?_; dsimp only)); refine box_event ?hg (N := 8) ?hd (cs := #[.slice none 0 0, .slice none 0 0, .slice none 0 0]) (t := 26) ?hr ?_; (case hd => rfl); (case hg => rfl); (case hr => first | (go_simp; done) | (go_simp; rfl)); intro gb573 hg w44 hbox hb; have n0_ := Aside0.mk (Kd.R_below (by (with_reducible repeat (first | apply Kd.R_alloc | apply Kd.R_drewN | apply Kd.R_drew)); exact HO_5.out) hb); have n1_ := Aside0.mk (Kd.R_below (by (with_reducible repeat (first | apply Kd.R_alloc | apply Kd.R_drewN | apply Kd.R_drew)); exact HO565.out) hb); have n2_ := Aside0.mk (Kd.R_below (by (with_reducible repeat (first | apply Kd.R_alloc | apply Kd.R_drewN | apply Kd.R_drew)); exact HO568.out) hb); have n3_ := Aside0.mk (Kd.R_below (by (with_reducible repeat (first | apply Kd.R_alloc | apply Kd.R_drewN | apply Kd.R_drew)); exact HO571.out) hb); have n4_ := Aside0.mk (below_step (by repeat (first | (with_reducible first | exact HB.out | apply below_alloc | apply pw_below_drewN | apply below_drew1) | exact HB.out)) hb); have n5_ := Aside0.mk (hbox); have n6_ := Aside0.mk ((by rw [hg]; exact (below_size (by repeat (first | (with_reducible first | exact HB.out | apply below_alloc | apply pw_below_drewN | apply below_drew1) | exact HB.out))) : w.heap.size ≤ gb573)); have n7_ := Aside0.mk ((by rw [hg]; exact (below_size (by repeat (first | (with_reducible first | exact HB.out | apply below_alloc | apply pw_below_drewN | apply below_drew1) | exact HB.out))) : w.heap.size ≤ gb573)); clear HO_5; clear HO565; clear HO568; clear HO571; clear HB; have HO_5 := n0_; have HO565 := n1_; have HO568 := n2_; have HO571 := n3_; have HB := n4_; have BK573 := n5_; have GW573 := n6_; have GE573 := n7_; clear n0_ n1_ n2_ n3_ n4_ n5_ n6_ n7_; clear hb hbox hg; obtain ⟨Ao45, co45, eo45⟩ := Kd.R_slice HO565.out; subst eo45; have hcz46_0 : w44.cell? ⟨gb573, 0, none⟩ = some (.slice none 0 0) := (blk_cell BK573.out 0).trans rfl; have hcz46_1 : w44.cell? ⟨gb573, 1, none⟩ = some (.slice none 0 0) := (blk_cell BK573.out 1).trans rfl; have hcz46_2 : w44.cell? ⟨gb573, 2, none⟩ = some (.slice none 0 0) := (blk_cell BK573.out 2).trans rfl; have hfz46_0 := blk_frozen BK573.out 0; have hfz46_1 := blk_frozen BK573.out 1; have hfz46_2 := blk_frozen BK573.out 2; obtain ⟨Ao47, co47, eo47⟩ := Kd.R_slice HO568.out; subst eo47; obtain ⟨Ao48, co48, eo48⟩ := Kd.R_slice HO571.out; subst eo48)))
              (try simp only [Act.put, List.setIfInBounds_toArray, List.set_cons_zero, List.set_cons_succ])
              go_cut [86] (fun v86 wc => ∃ (kq : Nat) (x86_41 : Bool), v86 = .bool x86_41 ∧ Aside0 (cruciblelaw8_ManifestBinds.j2 kq x5_1 x86_41 t563 t566 t569 = some r) ∧ Aside0 (kq ≤ kj4) ∧ Aside0 (Kd.R Kd.string 9 wc w.heap.size (fun k_ => some k_ ≠ ((.slice Ao48 t569.length co48) : Value).ownBlock) u5 x5_1) ∧ Aside0 (Kd.R k42 42 wc w.heap.size (fun k_ => some k_ ≠ (u5 : Value).ownBlock ∧ some k_ ≠ ((.slice Ao48 t569.length co48) : Value).ownBlock) (.slice Ao45 t563.length co45) t563) ∧ Aside0 (Kd.R k44 44 wc w.heap.size (fun _ => True) (.slice Ao47 t566.length co47) t566) ∧ Aside0 (Kd.R Kd.string 9 wc w.heap.size (fun k_ => some k_ ≠ (u5 : Value).ownBlock) (.slice Ao48 t569.length co48) t569) ∧ Aside0 (wc.heap[gb573]? = some (.cells #[(.slice Ao45 t563.length co45), (.slice Ao47 t566.length co47), (.slice Ao48 t569.length co48)] 26 (0, 0))) ∧ Aside0 (Below w.heap.size w wc))
              case first =>
                have H := HC42.out
                clear HC42
                replace H := Option.bind_eq_some_iff.mp H
                obtain ⟨t574, A490, H⟩ := H
                replace H : (if t574 = 0 then (cruciblelaw8_ManifestBinds.j2 kj4 x5_1 ((t563.length : Int) != (x5_1.length : Int)) t563 t566 t569) else (cruciblelaw8_ManifestBinds.j2 kj4 x5_1 true t563 t566 t569)) = some r := H
                have A49 := Aside0.mk A490
                clear A490
                by_cases c50 : t574 = 0
                · rw [if_pos c50] at H
                  have c50b0 : (t574 == 0) = true := beq_iff_eq.mpr c50
                  have c50b1 : (t574 != 0) = false := bne_eq_false_iff_eq.mpr c50
                  clear c50
                  (first | rw [c50b0] | (simp only [i64_w, i32_w]; rw [c50b0]) | skip)
                  have H' := Aside0.mk H
                  clear H
                  go_wp2_with (first | (go_at_call 13; (with_reducible refine (cruciblelaw0_Num.calls t572 t574 _ A49.out).mono ?_); rintro e w' ⟨rfl, ⟨nd, rfl⟩⟩; (try first | exact ⟨rfl, _, World.drewN_drewN _ _ _⟩ | exact ⟨rfl, _, Eq.trans (World.drewN_drewN _ _ _) (congrArg (World.drewN _) (Nat.add_assoc _ _ _))⟩); have hcz51_0 : w44.cell? ⟨gb573, 0, none⟩ = some (.slice none 0 0) := (blk_cell BK573.out 0).trans rfl; have hcz51_1 : w44.cell? ⟨gb573, 1, none⟩ = some (.slice none 0 0) := (blk_cell BK573.out 1).trans rfl; have hcz51_2 : w44.cell? ⟨gb573, 2, none⟩ = some (.slice none 0 0) := (blk_cell BK573.out 2).trans rfl; have hfz51_0 := blk_frozen BK573.out 0; have hfz51_1 := blk_frozen BK573.out 1; have hfz51_2 := blk_frozen BK573.out 2; obtain ⟨Ao52, co52, eo52⟩ := Kd.R_slice HO_5.out; subst eo52))
                  repeat (go_quiet (first | (go_at_call 13; (with_reducible refine (cruciblelaw0_Num.calls t572 t574 _ A49.out).mono ?_); rintro e w' ⟨rfl, ⟨nd, rfl⟩⟩; (try first | exact ⟨rfl, _, World.drewN_drewN _ _ _⟩ | exact ⟨rfl, _, Eq.trans (World.drewN_drewN _ _ _) (congrArg (World.drewN _) (Nat.add_assoc _ _ _))⟩); have hcz51_0 : w44.cell? ⟨gb573, 0, none⟩ = some (.slice none 0 0) := (blk_cell BK573.out 0).trans rfl; have hcz51_1 : w44.cell? ⟨gb573, 1, none⟩ = some (.slice none 0 0) := (blk_cell BK573.out 1).trans rfl; have hcz51_2 : w44.cell? ⟨gb573, 2, none⟩ = some (.slice none 0 0) := (blk_cell BK573.out 2).trans rfl; have hfz51_0 := blk_frozen BK573.out 0; have hfz51_1 := blk_frozen BK573.out 1; have hfz51_2 := blk_frozen BK573.out 2; obtain ⟨Ao52, co52, eo52⟩ := Kd.R_slice HO_5.out; subst eo52)); try go_wp2_with (first | (go_at_call 13; (with_reducible refine (cruciblelaw0_Num.calls t572 t574 _ A49.out).mono ?_); rintro e w' ⟨rfl, ⟨nd, rfl⟩⟩; (try first | exact ⟨rfl, _, World.drewN_drewN _ _ _⟩ | exact ⟨rfl, _, Eq.trans (World.drewN_drewN _ _ _) (congrArg (World.drewN _) (Nat.add_assoc _ _ _))⟩); have hcz51_0 : w44.cell? ⟨gb573, 0, none⟩ = some (.slice none 0 0) := (blk_cell BK573.out 0).trans rfl; have hcz51_1 : w44.cell? ⟨gb573, 1, none⟩ = some (.slice none 0 0) := (blk_cell BK573.out 1).trans rfl; have hcz51_2 : w44.cell? ⟨gb573, 2, none⟩ = some (.slice none 0 0) := (blk_cell BK573.out 2).trans rfl; have hfz51_0 := blk_frozen BK573.out 0; have hfz51_1 := blk_frozen BK573.out 1; have hfz51_2 := blk_frozen BK573.out 2; obtain ⟨Ao52, co52, eo52⟩ := Kd.R_slice HO_5.out; subst eo52)))
                  go_meet
                  case rel => exact ⟨_, (((t563.length : Int) != (x5_1.length : Int))), (by first | rfl | (simp; done) | (simp [*]; done)), H', ⟨by have := HK1.out; have := HJ4.out; first | omega | exact Nat.le_refl _⟩, ⟨by (with_reducible repeat (first | apply Kd.R_alloc | apply Kd.R_drewN | apply Kd.R_drew)); exact Kd.R_mono (Kd.R_far (p := ⟨gb573, 2, none⟩) (Kd.R_far (p := ⟨gb573, 1, none⟩) (Kd.R_far (p := ⟨gb573, 0, none⟩) (Kd.R_types HO_5.out BK573.out (by decide)) (fun _ hk => hk.2) (.slice Ao45 t563.length co45)) (fun _ hk => hk.2) (.slice Ao47 t566.length co47)) (fun _ hk => hk.2) (.slice Ao48 t569.length co48)) (fun _ hk => hk.1.2)⟩, ⟨by (with_reducible repeat (first | apply Kd.R_alloc | apply Kd.R_drewN | apply Kd.R_drew)); exact Kd.R_mono (Kd.R_far (p := ⟨gb573, 2, none⟩) (Kd.R_far (p := ⟨gb573, 1, none⟩) (Kd.R_far (p := ⟨gb573, 0, none⟩) (Kd.R_types HO565.out BK573.out (by decide)) (fun _ hk => hk.2) (.slice Ao45 t563.length co45)) (fun _ hk => hk.2) (.slice Ao47 t566.length co47)) (fun _ hk => hk.2) (.slice Ao48 t569.length co48)) (fun _ hk => ⟨hk.1.2, hk.1.1⟩)⟩, ⟨by (with_reducible repeat (first | apply Kd.R_alloc | apply Kd.R_drewN | apply Kd.R_drew)); exact Kd.R_mono (Kd.R_far (p := ⟨gb573, 2, none⟩) (Kd.R_far (p := ⟨gb573, 1, none⟩) (Kd.R_far (p := ⟨gb573, 0, none⟩) (Kd.R_types HO568.out BK573.out (by decide)) (fun _ hk => hk.2) (.slice Ao45 t563.length co45)) (fun _ hk => hk.2) (.slice Ao47 t566.length co47)) (fun _ hk => hk.2) (.slice Ao48 t569.length co48)) (fun _ hk => trivial)⟩, ⟨by (with_reducible repeat (first | apply Kd.R_alloc | apply Kd.R_drewN | apply Kd.R_drew)); exact Kd.R_mono (Kd.R_far (p := ⟨gb573, 2, none⟩) (Kd.R_far (p := ⟨gb573, 1, none⟩) (Kd.R_far (p := ⟨gb573, 0, none⟩) (Kd.R_types HO571.out BK573.out (by decide)) (fun _ hk => hk.2) (.slice Ao45 t563.length co45)) (fun _ hk => hk.2) (.slice Ao47 t566.length co47)) (fun _ hk => hk.2) (.slice Ao48 t569.length co48)) (fun _ hk => hk.1.2)⟩, ⟨by (with_reducible repeat (first | refine blk_drewN ?_ _ | refine blk_drew ?_ | refine blk_alloc ?_ _)); refine blk_put (cs := #[.slice Ao45 t563.length co45, .slice Ao47 t566.length co47, .slice none 0 0]) ?_ 2 _ rfl; (with_reducible repeat (first | refine blk_drewN ?_ _ | refine blk_drew ?_ | refine blk_alloc ?_ _)); refine blk_put (cs := #[.slice Ao45 t563.length co45, .slice none 0 0, .slice none 0 0]) ?_ 1 _ rfl; (with_reducible repeat (first | refine blk_drewN ?_ _ | refine blk_drew ?_ | refine blk_alloc ?_ _)); refine blk_put (cs := #[.slice none 0 0, .slice none 0 0, .slice none 0 0]) ?_ 0 _ rfl; (with_reducible repeat (first | refine blk_drewN ?_ _ | refine blk_drew ?_ | refine blk_alloc ?_ _)); exact BK573.out⟩, ⟨by repeat (first | (with_reducible first | exact HB.out | apply below_alloc | apply pw_below_drewN | apply below_drew1 | refine below_set ?_ GE573.out) | exact HB.out)⟩⟩
                · rw [if_neg c50] at H
                  have c50b0 : (t574 == 0) = false := beq_eq_false_iff_ne.mpr c50
                  have c50b1 : (t574 != 0) = true := bne_iff_ne.mpr c50
                  (first | rw [c50b0] | (simp only [i64_w, i32_w]; rw [c50b0]) | skip)
                  have H' := Aside0.mk H
                  clear H
                  go_wp2_with (first | (go_at_call 13; (with_reducible refine (cruciblelaw0_Num.calls t572 t574 _ A49.out).mono ?_); rintro e w' ⟨rfl, ⟨nd, rfl⟩⟩; (try first | exact ⟨rfl, _, World.drewN_drewN _ _ _⟩ | exact ⟨rfl, _, Eq.trans (World.drewN_drewN _ _ _) (congrArg (World.drewN _) (Nat.add_assoc _ _ _))⟩)))
                  repeat (go_quiet (first | (go_at_call 13; (with_reducible refine (cruciblelaw0_Num.calls t572 t574 _ A49.out).mono ?_); rintro e w' ⟨rfl, ⟨nd, rfl⟩⟩; (try first | exact ⟨rfl, _, World.drewN_drewN _ _ _⟩ | exact ⟨rfl, _, Eq.trans (World.drewN_drewN _ _ _) (congrArg (World.drewN _) (Nat.add_assoc _ _ _))⟩))); try go_wp2_with (first | (go_at_call 13; (with_reducible refine (cruciblelaw0_Num.calls t572 t574 _ A49.out).mono ?_); rintro e w' ⟨rfl, ⟨nd, rfl⟩⟩; (try first | exact ⟨rfl, _, World.drewN_drewN _ _ _⟩ | exact ⟨rfl, _, Eq.trans (World.drewN_drewN _ _ _) (congrArg (World.drewN _) (Nat.add_assoc _ _ _))⟩))))
                  go_meet
                  case rel => exact ⟨_, (true), (by first | rfl | (simp; done) | (simp [*]; done)), H', ⟨by have := HK1.out; have := HJ4.out; first | omega | exact Nat.le_refl _⟩, ⟨by (with_reducible repeat (first | apply Kd.R_alloc | apply Kd.R_drewN | apply Kd.R_drew)); exact Kd.R_mono (Kd.R_far (p := ⟨gb573, 2, none⟩) (Kd.R_far (p := ⟨gb573, 1, none⟩) (Kd.R_far (p := ⟨gb573, 0, none⟩) (Kd.R_types HO_5.out BK573.out (by decide)) (fun _ hk => hk.2) (.slice Ao45 t563.length co45)) (fun _ hk => hk.2) (.slice Ao47 t566.length co47)) (fun _ hk => hk.2) (.slice Ao48 t569.length co48)) (fun _ hk => hk.1.2)⟩, ⟨by (with_reducible repeat (first | apply Kd.R_alloc | apply Kd.R_drewN | apply Kd.R_drew)); exact Kd.R_mono (Kd.R_far (p := ⟨gb573, 2, none⟩) (Kd.R_far (p := ⟨gb573, 1, none⟩) (Kd.R_far (p := ⟨gb573, 0, none⟩) (Kd.R_types HO565.out BK573.out (by decide)) (fun _ hk => hk.2) (.slice Ao45 t563.length co45)) (fun _ hk => hk.2) (.slice Ao47 t566.length co47)) (fun _ hk => hk.2) (.slice Ao48 t569.length co48)) (fun _ hk => ⟨hk.1.2, hk.1.1⟩)⟩, ⟨by (with_reducible repeat (first | apply Kd.R_alloc | apply Kd.R_drewN | apply Kd.R_drew)); exact Kd.R_mono (Kd.R_far (p := ⟨gb573, 2, none⟩) (Kd.R_far (p := ⟨gb573, 1, none⟩) (Kd.R_far (p := ⟨gb573, 0, none⟩) (Kd.R_types HO568.out BK573.out (by decide)) (fun _ hk => hk.2) (.slice Ao45 t563.length co45)) (fun _ hk => hk.2) (.slice Ao47 t566.length co47)) (fun _ hk => hk.2) (.slice Ao48 t569.length co48)) (fun _ hk => trivial)⟩, ⟨by (with_reducible repeat (first | apply Kd.R_alloc | apply Kd.R_drewN | apply Kd.R_drew)); exact Kd.R_mono (Kd.R_far (p := ⟨gb573, 2, none⟩) (Kd.R_far (p := ⟨gb573, 1, none⟩) (Kd.R_far (p := ⟨gb573, 0, none⟩) (Kd.R_types HO571.out BK573.out (by decide)) (fun _ hk => hk.2) (.slice Ao45 t563.length co45)) (fun _ hk => hk.2) (.slice Ao47 t566.length co47)) (fun _ hk => hk.2) (.slice Ao48 t569.length co48)) (fun _ hk => hk.1.2)⟩, ⟨by (with_reducible repeat (first | refine blk_drewN ?_ _ | refine blk_drew ?_ | refine blk_alloc ?_ _)); refine blk_put (cs := #[.slice Ao45 t563.length co45, .slice Ao47 t566.length co47, .slice none 0 0]) ?_ 2 _ rfl; (with_reducible repeat (first | refine blk_drewN ?_ _ | refine blk_drew ?_ | refine blk_alloc ?_ _)); refine blk_put (cs := #[.slice Ao45 t563.length co45, .slice none 0 0, .slice none 0 0]) ?_ 1 _ rfl; (with_reducible repeat (first | refine blk_drewN ?_ _ | refine blk_drew ?_ | refine blk_alloc ?_ _)); refine blk_put (cs := #[.slice none 0 0, .slice none 0 0, .slice none 0 0]) ?_ 0 _ rfl; (with_reducible repeat (first | refine blk_drewN ?_ _ | refine blk_drew ?_ | refine blk_alloc ?_ _)); exact BK573.out⟩, ⟨by repeat (first | (with_reducible first | exact HB.out | apply below_alloc | apply pw_below_drewN | apply below_drew1 | refine below_set ?_ GE573.out) | exact HB.out)⟩⟩
              case rest =>
                clear HC42
                try clear c1
                try clear hcv1
                try clear c2
                try clear p2
                try clear hcv2
                try clear c3
                try clear hcv3
                try clear c5
                try clear p5
                try clear q5
                try clear hx5
                try clear c6
                try clear c6b0
                try clear p6
                try clear c7
                try clear c8
                try clear c8b0
                try clear c9
                try clear c9b0
                try clear c10
                try clear c10b0
                try clear c10b1
                try clear c11
                try clear c11b0
                try clear c11b1
                try clear c11b2
                try clear c12
                try clear c12b0
                try clear c12b1
                try clear c12b2
                try clear c13
                try clear c13b0
                try clear c13b1
                try clear c13b2
                try clear hcv16
                try clear c17
                try clear c17b0
                try clear c17b1
                try clear c18
                try clear c18b0
                try clear c18b1
                try clear c19
                try clear c19b0
                try clear c19b1
                try clear c19b2
                try clear c20
                try clear c20b0
                try clear c20b1
                try clear c20b2
                try clear c21
                try clear c21b0
                try clear c21b1
                try clear c21b2
                try clear c22
                try clear c22b0
                try clear c22b1
                try clear c22b2
                try clear c23
                try clear c23b0
                try clear c23b1
                try clear c23b2
                try clear hcv26
                try clear hcv29
                try clear c30
                try clear c30b0
                try clear c30b1
                try clear c30b2
                try clear c31
                try clear c31b0
                try clear c31b1
                try clear c31b2
                try clear c32
                try clear c32b0
                try clear c32b1
                try clear c32b2
                try clear c33
                try clear c33b0
                try clear c33b1
                try clear c33b2
                try clear c34
                try clear c34b0
                try clear c34b1
                try clear c34b2
                try clear c35
                try clear c35b0
                try clear c35b1
                try clear c35b2
                try clear c36
                try clear hcv39
                try clear c50
                try clear c50b0
                try clear c50b1
                try clear hcz46_0
                try clear hcz46_1
                try clear hcz46_2
                try clear hcz51_0
                try clear hcz51_1
                try clear hcz51_2
                try clear hfz46_0
                try clear hfz46_1
                try clear hfz46_2
                try clear hfz51_0
                try clear hfz51_1
                try clear hfz51_2
                try clear hx559_0
                try clear p2
                try clear p559
                try clear q559
                obtain ⟨kq, x86_41, rfl, HA, HJ41, HO_5, HO_574000, HO_574001, HO_574002, BK573, HB⟩ := hcut
                cases kq with
                | zero => exact absurd HA.out (by simp [cruciblelaw8_ManifestBinds.j2])
                | succ kj41 =>
                  have H := HA.out
                  clear HA
                  simp only [cruciblelaw8_ManifestBinds.j2] at H
                  by_cases c53 : x86_41 = true
                  · subst c53
                    have H1 : (some false) = some r := by rw [if_pos rfl] at H; exact H
                    clear H
                    have H := H1
                    clear H1
                    obtain rfl := Option.some.inj H
                    go_wp2
                    repeat (go_quiet (fail); try go_wp2)
                    go_ret
                    exact ⟨by first | rfl | (simp [errW_none, errW_some] <;> rfl) | (simp [*, errW_none, errW_some] <;> rfl), by repeat (first | (with_reducible first | exact HB.out | apply below_alloc | apply pw_below_drewN | apply below_drew1 | refine below_set ?_ GE573.out) | exact HB.out)⟩
                  · replace c53 := Bool.eq_false_iff.mpr c53
                    subst c53
                    have H1 : (cruciblelaw8_ManifestBinds.l1 kj41 x5_1 0 t563 t566 t569) = some r := by rw [if_neg (show ¬ (false = true) by decide)] at H; exact H
                    clear H
                    have H := H1
                    clear H1
                    have H' := Aside0.mk H
                    clear H
                    go_wp2
                    repeat (go_quiet (fail); try go_wp2)
                    go_loopg [10] kj41 (fun kq v10 w' => ∃ (x10_4 : Int), v10 = .int .i64 x10_4 ∧ Aside0 (cruciblelaw8_ManifestBinds.l1 kq x5_1 x10_4 t563 t566 t569 = some r) ∧ Aside0 (kq ≤ kj41) ∧ Aside0 (Kd.R Kd.string 9 w' w.heap.size (fun k_ => some k_ ≠ ((.slice Ao48 t569.length co48) : Value).ownBlock) u5 x5_1) ∧ Aside0 (Kd.R k42 42 w' w.heap.size (fun k_ => some k_ ≠ (u5 : Value).ownBlock ∧ some k_ ≠ ((.slice Ao48 t569.length co48) : Value).ownBlock) (.slice Ao45 t563.length co45) t563) ∧ Aside0 (Kd.R k44 44 w' w.heap.size (fun _ => True) (.slice Ao47 t566.length co47) t566) ∧ Aside0 (Kd.R Kd.string 9 w' w.heap.size (fun k_ => some k_ ≠ (u5 : Value).ownBlock) (.slice Ao48 t569.length co48) t569) ∧ Aside0 (w'.heap[gb573]? = some (.cells #[(.slice Ao45 t563.length co45), (.slice Ao47 t566.length co47), (.slice Ao48 t569.length co48)] 26 (0, 0))) ∧ Aside0 (Below w.heap.size w w'))
                    case atStart => exact ⟨(0), (by first | rfl | (simp; done) | (simp [*]; done)), H', ⟨Nat.le_refl _⟩, ⟨by (with_reducible repeat (first | apply Kd.R_alloc | apply Kd.R_drewN | apply Kd.R_drew)); exact HO_5.out⟩, ⟨by (with_reducible repeat (first | apply Kd.R_alloc | apply Kd.R_drewN | apply Kd.R_drew)); exact HO_574000.out⟩, ⟨by (with_reducible repeat (first | apply Kd.R_alloc | apply Kd.R_drewN | apply Kd.R_drew)); exact HO_574001.out⟩, ⟨by (with_reducible repeat (first | apply Kd.R_alloc | apply Kd.R_drewN | apply Kd.R_drew)); exact HO_574002.out⟩, ⟨by (with_reducible repeat (first | refine blk_drewN ?_ _ | refine blk_drew ?_ | refine blk_alloc ?_ _)); exact BK573.out⟩, ⟨by repeat (first | (with_reducible first | exact HB.out | apply below_alloc | apply pw_below_drewN | apply below_drew1 | refine below_set ?_ GE573.out) | exact HB.out)⟩⟩
                    case round =>
                      clear H'
                      try clear c1
                      try clear hcv1
                      try clear c2
                      try clear p2
                      try clear hcv2
                      try clear c3
                      try clear hcv3
                      try clear c5
                      try clear p5
                      try clear q5
                      try clear hx5
                      try clear c6
                      try clear c6b0
                      try clear p6
                      try clear c7
                      try clear c8
                      try clear c8b0
                      try clear c9
                      try clear c9b0
                      try clear c10
                      try clear c10b0
                      try clear c10b1
                      try clear c11
                      try clear c11b0
                      try clear c11b1
                      try clear c11b2
                      try clear c12
                      try clear c12b0
                      try clear c12b1
                      try clear c12b2
                      try clear c13
                      try clear c13b0
                      try clear c13b1
                      try clear c13b2
                      try clear hcv16
                      try clear c17
                      try clear c17b0
                      try clear c17b1
                      try clear c18
                      try clear c18b0
                      try clear c18b1
                      try clear c19
                      try clear c19b0
                      try clear c19b1
                      try clear c19b2
                      try clear c20
                      try clear c20b0
                      try clear c20b1
                      try clear c20b2
                      try clear c21
                      try clear c21b0
                      try clear c21b1
                      try clear c21b2
                      try clear c22
                      try clear c22b0
                      try clear c22b1
                      try clear c22b2
                      try clear c23
                      try clear c23b0
                      try clear c23b1
                      try clear c23b2
                      try clear hcv26
                      try clear hcv29
                      try clear c30
                      try clear c30b0
                      try clear c30b1
                      try clear c30b2
                      try clear c31
                      try clear c31b0
                      try clear c31b1
                      try clear c31b2
                      try clear c32
                      try clear c32b0
                      try clear c32b1
                      try clear c32b2
                      try clear c33
                      try clear c33b0
                      try clear c33b1
                      try clear c33b2
                      try clear c34
                      try clear c34b0
                      try clear c34b1
                      try clear c34b2
                      try clear c35
                      try clear c35b0
                      try clear c35b1
                      try clear c35b2
                      try clear c36
                      try clear hcv39
                      try clear c50
                      try clear c50b0
                      try clear c50b1
                      try clear c53
                      try clear hcz46_0
                      try clear hcz46_1
                      try clear hcz46_2
                      try clear hcz51_0
                      try clear hcz51_1
                      try clear hcz51_2
                      try clear hfz46_0
                      try clear hfz46_1
                      try clear hfz46_2
                      try clear hfz51_0
                      try clear hfz51_1
                      try clear hfz51_2
                      try clear hx559_0
                      try clear p2
                      try clear p5
                      try clear p559
                      try clear p6
                      try clear q5
                      try clear q559
                      obtain ⟨x10_4, rfl, HA, HK4, HO_5, HO_574000, HO_574001, HO_574002, BK573, HB⟩ := hrel
                      cases gk with
                      | zero => exact absurd HA.out (by simp [cruciblelaw8_ManifestBinds.l1])
                      | succ k4 =>
                        have H := HA.out
                        clear HA
                        simp only [cruciblelaw8_ManifestBinds.l1] at H
                        by_cases c54 : x10_4 < (x5_1.length : Int)
                        · rw [if_pos c54] at H
                          have c54b0 : decide (x10_4 < (x5_1.length : Int)) = true := decide_eq_true c54
                          clear c54
                          by_cases c55 : 0 ≤ x10_4
                          · rw [if_pos c55] at H
                            have c55b0 : decide (0 ≤ x10_4) = true := decide_eq_true c55
                            clear c55
                            by_cases c56 : x10_4 < (t563.length : Int)
                            · rw [if_pos c56] at H
                              have c56b0 : decide (x10_4 < (t563.length : Int)) = true := decide_eq_true c56
                              clear c56
                              by_cases c57 : ((rd_T42 t563 x10_4).f4).toList = (rdOf ByteArray.empty x5_1 x10_4).toList
                              · rw [if_pos c57] at H
                                have c57b0 : (((rd_T42 t563 x10_4).f4).toList == (rdOf ByteArray.empty x5_1 x10_4).toList) = true := beq_iff_eq.mpr c57
                                have c57b1 : (((rd_T42 t563 x10_4).f4).toList != (rdOf ByteArray.empty x5_1 x10_4).toList) = false := bne_eq_false_iff_eq.mpr c57
                                clear c57
                                have H' := Aside0.mk H
                                clear H
                                obtain ⟨Ao58, co58, eo58⟩ := Kd.R_slice HO_5.out
                                subst eo58
                                have hcz59_0 : wr.cell? ⟨gb573, 0, none⟩ = some (.slice Ao45 t563.length co45) := (blk_cell BK573.out 0).trans rfl
                                have hcz59_1 : wr.cell? ⟨gb573, 1, none⟩ = some (.slice Ao47 t566.length co47) := (blk_cell BK573.out 1).trans rfl
                                have hcz59_2 : wr.cell? ⟨gb573, 2, none⟩ = some (.slice Ao48 t569.length co48) := (blk_cell BK573.out 2).trans rfl
                                have hfz59_0 := blk_frozen BK573.out 0
                                have hfz59_1 := blk_frozen BK573.out 1
                                have hfz59_2 := blk_frozen BK573.out 2
                                have p575 : 0 ≤ (x10_4 : Int) := of_decide_eq_true (by first | (with_reducible assumption) | assumption)
                                have q575 : x10_4 < (t563.length : Int) := of_decide_eq_true (by first | (with_reducible assumption) | assumption)
                                obtain ⟨ad575, A575_0, c575_0, A575_1, c575_1, A575_2, c575_2, A575_3, c575_3, e575, hx575_0, hx575_1, hx575_2, hx575_3, hx575_4, hx575_5, hx575_6, hl575_0, hi575_0, hl575_1, hi575_1, hl575_2, hi575_2, hl575_3, hi575_3⟩ := at_T42 (Kd.R_reads' HO_574000.out).2.2 x10_4 p575 q575
                                cases e575
                                obtain ⟨ce575, hce575, hMe575, hcc575⟩ := Kd.R_get HO_574000.out z42 x10_4 p575 (by first | exact q575 | exact of_decide_eq_true (by first | (with_reducible assumption) | assumption) | (have e_ := (Kd.R_reads' HO_574000.out).1; omega))
                                obtain ⟨ve575_0, ve575_1, ve575_2, ve575_3, rfl, ge575_0, ge575_1, ge575_2, ge575_3⟩ := k42_openM hMe575
                                have hv575_0 := hcc575 0 _ rfl
                                rw [Nat.add_zero] at hv575_0
                                replace hv575_0 := Option.some.inj (hv575_0.symm.trans hx575_0)
                                rw [hv575_0] at ge575_0
                                have HL575_0 := Aside0.mk (show Kd.R Kd.string 9 _ _ _ _ ((rd_T42 t563 x10_4).f0) from ge575_0)
                                clear hv575_0 ge575_0
                                have hv575_1 := hcc575 1 _ rfl
                                rw [add_field _ _ 1 (by omega)] at hv575_1
                                replace hv575_1 := Option.some.inj (hv575_1.symm.trans hx575_1)
                                rw [hv575_1] at ge575_1
                                have HL575_1 := Aside0.mk (show Kd.R Kd.string 9 _ _ _ _ ((rd_T42 t563 x10_4).f1) from ge575_1)
                                clear hv575_1 ge575_1
                                have hv575_2 := hcc575 2 _ rfl
                                rw [add_field _ _ 2 (by omega)] at hv575_2
                                replace hv575_2 := Option.some.inj (hv575_2.symm.trans hx575_2)
                                rw [hv575_2] at ge575_2
                                have HL575_2 := Aside0.mk (show Kd.R Kd.string 9 _ _ _ _ ((rd_T42 t563 x10_4).f2) from ge575_2)
                                clear hv575_2 ge575_2
                                have hv575_3 := hcc575 3 _ rfl
                                rw [add_field _ _ 3 (by omega)] at hv575_3
                                replace hv575_3 := Option.some.inj (hv575_3.symm.trans hx575_3)
                                rw [hv575_3] at ge575_3
                                have HL575_3 := Aside0.mk (show Kd.R Kd.string 9 _ _ _ _ ((rd_T42 t563 x10_4).f3) from ge575_3)
                                clear hv575_3 ge575_3
                                clear hcc575 hce575
                                have HR575_0 := Aside0.mk hi575_0
                                have HC575_0 := Aside0.mk hl575_0
                                clear hi575_0 hl575_0
                                have HR575_1 := Aside0.mk hi575_1
                                have HC575_1 := Aside0.mk hl575_1
                                clear hi575_1 hl575_1
                                have HR575_2 := Aside0.mk hi575_2
                                have HC575_2 := Aside0.mk hl575_2
                                clear hi575_2 hl575_2
                                have HR575_3 := Aside0.mk hi575_3
                                have HC575_3 := Aside0.mk hl575_3
                                clear hi575_3 hl575_3
                                replace p575 := eq_true p575
                                replace q575 := eq_true q575
                                have p576 : 0 ≤ (x10_4 : Int) := of_decide_eq_true (by first | (with_reducible assumption) | assumption)
                                have q576 : x10_4 < (x5_1.length : Int) := of_decide_eq_true (by first | (with_reducible assumption) | assumption)
                                obtain ⟨ad576, e576, hx576_0⟩ := Kd.at_string (Kd.R_reads' HO_5.out).2.2 x10_4 p576 q576
                                cases e576
                                replace p576 := eq_true p576
                                replace q576 := eq_true q576
                                go_wp2
                                repeat (go_quiet (fail); try go_wp2)
                                go_roundg k4
                                case measure => have := HK1.out; have := HJ4.out; have := HJ41.out; have := HK4.out; omega
                                case rel => exact ⟨(wrap64 (x10_4 + 1)), (by first | rfl | (simp; done) | (simp [*]; done)), H', ⟨by have := HK1.out; have := HJ4.out; have := HJ41.out; have := HK4.out; omega⟩, ⟨by (with_reducible repeat (first | apply Kd.R_alloc | apply Kd.R_drewN | apply Kd.R_drew)); exact HO_5.out⟩, ⟨by (with_reducible repeat (first | apply Kd.R_alloc | apply Kd.R_drewN | apply Kd.R_drew)); exact HO_574000.out⟩, ⟨by (with_reducible repeat (first | apply Kd.R_alloc | apply Kd.R_drewN | apply Kd.R_drew)); exact HO_574001.out⟩, ⟨by (with_reducible repeat (first | apply Kd.R_alloc | apply Kd.R_drewN | apply Kd.R_drew)); exact HO_574002.out⟩, ⟨by (with_reducible repeat (first | refine blk_drewN ?_ _ | refine blk_drew ?_ | refine blk_alloc ?_ _)); exact BK573.out⟩, ⟨by repeat (first | (with_reducible first | exact HB.out | apply below_alloc | apply pw_below_drewN | apply below_drew1 | refine below_set ?_ GE573.out) | exact HB.out)⟩⟩
                              · rw [if_neg c57] at H
                                have c57b0 : (((rd_T42 t563 x10_4).f4).toList == (rdOf ByteArray.empty x5_1 x10_4).toList) = false := beq_eq_false_iff_ne.mpr c57
                                have c57b1 : (((rd_T42 t563 x10_4).f4).toList != (rdOf ByteArray.empty x5_1 x10_4).toList) = true := bne_iff_ne.mpr c57
                                obtain rfl := Option.some.inj H
                                obtain ⟨Ao60, co60, eo60⟩ := Kd.R_slice HO_5.out
                                subst eo60
                                have hcz61_0 : wr.cell? ⟨gb573, 0, none⟩ = some (.slice Ao45 t563.length co45) := (blk_cell BK573.out 0).trans rfl
                                have hcz61_1 : wr.cell? ⟨gb573, 1, none⟩ = some (.slice Ao47 t566.length co47) := (blk_cell BK573.out 1).trans rfl
                                have hcz61_2 : wr.cell? ⟨gb573, 2, none⟩ = some (.slice Ao48 t569.length co48) := (blk_cell BK573.out 2).trans rfl
                                have hfz61_0 := blk_frozen BK573.out 0
                                have hfz61_1 := blk_frozen BK573.out 1
                                have hfz61_2 := blk_frozen BK573.out 2
                                have p575 : 0 ≤ (x10_4 : Int) := of_decide_eq_true (by first | (with_reducible assumption) | assumption)
                                have q575 : x10_4 < (t563.length : Int) := of_decide_eq_true (by first | (with_reducible assumption) | assumption)
                                obtain ⟨ad575, A575_0, c575_0, A575_1, c575_1, A575_2, c575_2, A575_3, c575_3, e575, hx575_0, hx575_1, hx575_2, hx575_3, hx575_4, hx575_5, hx575_6, hl575_0, hi575_0, hl575_1, hi575_1, hl575_2, hi575_2, hl575_3, hi575_3⟩ := at_T42 (Kd.R_reads' HO_574000.out).2.2 x10_4 p575 q575
                                cases e575
                                obtain ⟨ce575, hce575, hMe575, hcc575⟩ := Kd.R_get HO_574000.out z42 x10_4 p575 (by first | exact q575 | exact of_decide_eq_true (by first | (with_reducible assumption) | assumption) | (have e_ := (Kd.R_reads' HO_574000.out).1; omega))
                                obtain ⟨ve575_0, ve575_1, ve575_2, ve575_3, rfl, ge575_0, ge575_1, ge575_2, ge575_3⟩ := k42_openM hMe575
                                have hv575_0 := hcc575 0 _ rfl
                                rw [Nat.add_zero] at hv575_0
                                replace hv575_0 := Option.some.inj (hv575_0.symm.trans hx575_0)
                                rw [hv575_0] at ge575_0
                                have HL575_0 := Aside0.mk (show Kd.R Kd.string 9 _ _ _ _ ((rd_T42 t563 x10_4).f0) from ge575_0)
                                clear hv575_0 ge575_0
                                have hv575_1 := hcc575 1 _ rfl
                                rw [add_field _ _ 1 (by omega)] at hv575_1
                                replace hv575_1 := Option.some.inj (hv575_1.symm.trans hx575_1)
                                rw [hv575_1] at ge575_1
                                have HL575_1 := Aside0.mk (show Kd.R Kd.string 9 _ _ _ _ ((rd_T42 t563 x10_4).f1) from ge575_1)
                                clear hv575_1 ge575_1
                                have hv575_2 := hcc575 2 _ rfl
                                rw [add_field _ _ 2 (by omega)] at hv575_2
                                replace hv575_2 := Option.some.inj (hv575_2.symm.trans hx575_2)
                                rw [hv575_2] at ge575_2
                                have HL575_2 := Aside0.mk (show Kd.R Kd.string 9 _ _ _ _ ((rd_T42 t563 x10_4).f2) from ge575_2)
                                clear hv575_2 ge575_2
                                have hv575_3 := hcc575 3 _ rfl
                                rw [add_field _ _ 3 (by omega)] at hv575_3
                                replace hv575_3 := Option.some.inj (hv575_3.symm.trans hx575_3)
                                rw [hv575_3] at ge575_3
                                have HL575_3 := Aside0.mk (show Kd.R Kd.string 9 _ _ _ _ ((rd_T42 t563 x10_4).f3) from ge575_3)
                                clear hv575_3 ge575_3
                                clear hcc575 hce575
                                have HR575_0 := Aside0.mk hi575_0
                                have HC575_0 := Aside0.mk hl575_0
                                clear hi575_0 hl575_0
                                have HR575_1 := Aside0.mk hi575_1
                                have HC575_1 := Aside0.mk hl575_1
                                clear hi575_1 hl575_1
                                have HR575_2 := Aside0.mk hi575_2
                                have HC575_2 := Aside0.mk hl575_2
                                clear hi575_2 hl575_2
                                have HR575_3 := Aside0.mk hi575_3
                                have HC575_3 := Aside0.mk hl575_3
                                clear hi575_3 hl575_3
                                replace p575 := eq_true p575
                                replace q575 := eq_true q575
                                have p576 : 0 ≤ (x10_4 : Int) := of_decide_eq_true (by first | (with_reducible assumption) | assumption)
                                have q576 : x10_4 < (x5_1.length : Int) := of_decide_eq_true (by first | (with_reducible assumption) | assumption)
                                obtain ⟨ad576, e576, hx576_0⟩ := Kd.at_string (Kd.R_reads' HO_5.out).2.2 x10_4 p576 q576
                                cases e576
                                replace p576 := eq_true p576
                                replace q576 := eq_true q576
                                go_wp2
                                repeat (go_quiet (fail); try go_wp2)
                                go_ret
                                exact ⟨by first | rfl | (simp [errW_none, errW_some] <;> rfl) | (simp [*, errW_none, errW_some] <;> rfl), by repeat (first | (with_reducible first | exact HB.out | apply below_alloc | apply pw_below_drewN | apply below_drew1 | refine below_set ?_ GE573.out) | exact HB.out)⟩
                            · rw [if_neg c56] at H
                              exact absurd H (by simp)
                          · rw [if_neg c55] at H
                            exact absurd H (by simp)
                        · rw [if_neg c54] at H
                          have c54b0 : decide (x10_4 < (x5_1.length : Int)) = false := decide_eq_false c54
                          clear c54
                          obtain rfl := Option.some.inj H
                          obtain ⟨Ao62, co62, eo62⟩ := Kd.R_slice HO_5.out
                          subst eo62
                          go_wp2
                          repeat (go_quiet (fail); try go_wp2)
                          go_ret
                          exact ⟨by first | rfl | (simp [errW_none, errW_some] <;> rfl) | (simp [*, errW_none, errW_some] <;> rfl), by repeat (first | (with_reducible first | exact HB.out | apply below_alloc | apply pw_below_drewN | apply below_drew1 | refine below_set ?_ GE573.out) | exact HB.out)⟩
  · replace c3 := Bool.eq_false_iff.mpr c3
    subst c3
    have H1 : (some false) = some r := by rw [if_neg (show ¬ (false = true) by decide)] at H; exact H
    clear H
    have H := H1
    clear H1
    obtain rfl := Option.some.inj H
    go_enter Tryz.func9, Tryz.ntmps9
    go_wp2_with (first | (go_at_call 15; (with_reducible refine (cruciblelaw8_awake.calls  false _ A2.out).mono ?_); rintro e w63 ⟨rfl, hb⟩; have n0_ := Aside0.mk (below_step (by repeat (first | (with_reducible first | exact HB.out | apply below_alloc | apply pw_below_drewN | apply below_drew1) | exact HB.out)) hb); clear HB; have HB := n0_; clear n0_; (try clear hb); (try clear hb2); (try clear hk); (try clear hi)))
    repeat (go_quiet (first | (go_at_call 15; (with_reducible refine (cruciblelaw8_awake.calls  false _ A2.out).mono ?_); rintro e w63 ⟨rfl, hb⟩; have n0_ := Aside0.mk (below_step (by repeat (first | (with_reducible first | exact HB.out | apply below_alloc | apply pw_below_drewN | apply below_drew1) | exact HB.out)) hb); clear HB; have HB := n0_; clear n0_; (try clear hb); (try clear hb2); (try clear hk); (try clear hi))); try go_wp2_with (first | (go_at_call 15; (with_reducible refine (cruciblelaw8_awake.calls  false _ A2.out).mono ?_); rintro e w63 ⟨rfl, hb⟩; have n0_ := Aside0.mk (below_step (by repeat (first | (with_reducible first | exact HB.out | apply below_alloc | apply pw_below_drewN | apply below_drew1) | exact HB.out)) hb); clear HB; have HB := n0_; clear n0_; (try clear hb); (try clear hb2); (try clear hk); (try clear hi))))
    go_ret
    exact ⟨by first | rfl | (simp [errW_none, errW_some] <;> rfl) | (simp [*, errW_none, errW_some] <;> rfl), by repeat (first | (with_reducible first | exact HB.out | apply below_alloc | apply pw_below_drewN | apply below_drew1) | exact HB.out)⟩

/-- THE ONE PURE STATEMENT of cruciblelaw8_ManifestBinds: yours. -/
def cruciblelaw8_ManifestBinds.Pure : Prop := ∀ (l0 : List Int), l0.length ≤ maxLen → l0.length * 8 ≤ 140737488351232 → (∀ x ∈ l0, (Lit.int .i64 x).wf = true) → ∃ k, cruciblelaw8_ManifestBinds.f k l0 = some true
end Go.Proofs.YtefheailchihaaaGreatDoor.Print

end
section
namespace Go.Proofs.YtefheailchihaaaGreatDoor.Print
open Go.RowKit Go.Lib Go.Shelf Go.Proofs.YtefheailchihaaaGreatDoorW.PrintWords Go.Proofs.YtefheailchihaaaGreatDoorW.PrintLast Go.Proofs.YtefheailchihaaaGreatDoorW.PrintMore
set_option linter.unusedVariables false
set_option linter.unusedSimpArgs false

theorem parseGo_app : ∀ (l m : List S59) (p : Pst) (o : Opn), (parseGo l p o).2.2 = 0 → parseGo (l ++ m) p o = parseGo m (parseGo l p o).1 (parseGo l p o).2.1
  | [], m, p, o, _ => rfl
  | x :: l, m, p, o, h => by
    have e1 : parseGo (x :: l) p o = if (lineR p o x.f0 x.f1).2.2 = 0 then parseGo l (lineR p o x.f0 x.f1).1 (lineR p o x.f0 x.f1).2.1 else lineR p o x.f0 x.f1 := rfl
    have e2 : parseGo ((x :: l) ++ m) p o = if (lineR p o x.f0 x.f1).2.2 = 0 then parseGo (l ++ m) (lineR p o x.f0 x.f1).1 (lineR p o x.f0 x.f1).2.1 else lineR p o x.f0 x.f1 := rfl
    rw [e1] at h ⊢
    rw [e2]
    by_cases h0 : (lineR p o x.f0 x.f1).2.2 = 0
    · rw [if_pos h0] at h ⊢
      rw [if_pos h0]
      exact parseGo_app l m _ _ h
    · rw [if_neg h0] at h
      exact absurd h h0
/-- The same parser with more edges ahead. -/
def ahead (E : List S42) (p : Pst) : Pst := { p with edges := E ++ p.edges }
theorem ahead_over (E : List S42) (p : Pst) (o : Opn) : overP (ahead E p) o = ahead E (overP p o) ∧ ∀ e, overE (ahead E p) o e = overE p o e := by
  cases o with
  | build outs ins imp ord r own => exact ⟨by show finP (ahead E p) outs ins imp ord r own = ahead E (finP p outs ins imp ord r own); unfold finP ahead; simp only [List.append_assoc], fun e => rfl⟩
  | none => exact ⟨rfl, fun e => rfl⟩
  | rule => exact ⟨rfl, fun e => rfl⟩
  | pool => exact ⟨rfl, fun e => rfl⟩
theorem ahead_deep (E : List S42) (p : Pst) (o : Opn) (k v : ByteArray) : deepR (ahead E p) o k v = (ahead E (deepR p o k v).1, (deepR p o k v).2.1, (deepR p o k v).2.2) := by
  cases o with
  | none => rfl
  | rule => rfl
  | pool =>
    show (poolD (ahead E p) 0 k v, _, _) = (ahead E (poolD p 0 k v), _, _)
    have h1 : poolDE (ahead E p) 0 k v = poolDE p 0 k v := rfl
    unfold poolD
    rw [h1]
    split <;> rfl
  | build outs ins imp ord r own => rfl
theorem ahead_flat (E : List S42) (p : Pst) (t : ByteArray) (h : (E ++ p.edges).length < 16) : flatR (ahead E p) t = (ahead E (flatR p t).1, (flatR p t).2.1, (flatR p t).2.2) := by
  have hb : buildE (ahead E p) 0 (cutC 32 t).2.1 = buildE p 0 (cutC 32 t).2.1 := by
    have h1 : decide ((((E ++ p.edges).length : Nat) : Int) < 16) = true := decide_eq_true (by omega)
    have h2 : decide (((p.edges.length : Nat) : Int) < 16) = true := decide_eq_true (by rw [List.length_append] at h; omega)
    have e1 : buildE1 (ahead E p) 0 (buildR (cutC 32 t).2.1) = buildE1 p 0 (buildR (cutC 32 t).2.1) := rfl
    unfold buildE buildE2
    rw [e1]
    show (if _ then roomE _ (decide ((((E ++ p.edges).length : Nat) : Int) < 16)) else _) = _
    rw [h1, h2]
  unfold flatR
  simp only
  split
  · rfl
  split
  · rfl
  split
  · rw [hb]; rfl
  split
  · rfl
  · unfold bindFlat
    split <;> rfl
/-- A line, behind more edges. -/
theorem ahead_line (E : List S42) (p : Pst) (o : Opn) (d : Bool) (t : ByteArray) (h : (E ++ (overP p o).edges).length < 16) : lineR (ahead E p) o d t = (ahead E (lineR p o d t).1, (lineR p o d t).2.1, (lineR p o d t).2.2) := by
  obtain ⟨h1, h2⟩ := ahead_over E p o
  unfold lineR
  rw [h1, h2]
  split
  · unfold lineDeep
    split
    · rw [ahead_deep]
    · rfl
  · split
    · rw [ahead_flat E _ t h]
    · rfl
/-- Two texts of whole rows behind one another. -/
theorem lines_app (a b : List ByteArray) (ha : NoNl a) (hb : NoNl b) (hsz : (U (a ++ b)).size ≤ 2048) (h1 : (linesCut (U a)).2 = 0) (h2 : (linesCut (U b)).2 = 0) : linesCut (U (a ++ b)) = ((linesCut (U a)).1 ++ (linesCut (U b)).1, 0) := by
  have hab : NoNl (a ++ b) := fun r hr => (List.mem_append.1 hr).elim (ha r) (hb r)
  have ca := cut_rows a ha
  have cb := cut_rows b hb
  by_cases pa : (U a).size ≤ 2048 ∧ plainRows a = true
  · by_cases pb : (U b).size ≤ 2048 ∧ plainRows b = true
    · rw [if_pos pa] at ca
      rw [if_pos pb] at cb
      rw [ca] at h1 ⊢
      rw [cb] at h2 ⊢
      have pab : plainRows (a ++ b) = true := by
        unfold plainRows
        rw [List.all_append]
        rw [show (a.all fun r => plainL r.data.toList) = true from pa.2, show (b.all fun r => plainL r.data.toList) = true from pb.2]
        rfl
      rw [cut_rows (a ++ b) hab, if_pos ⟨hsz, pab⟩, List.length_append, go_app b b.length (Nat.le_refl _) a.length a [] (Nat.le_refl _) h1, go_out b.length b, if_pos h2]
    · rw [cb, if_neg pb] at h2
      exact absurd h2 (by decide)
  · rw [ca, if_neg pa] at h1
    exact absurd h1 (by decide)
end Go.Proofs.YtefheailchihaaaGreatDoor.Print

end
section
namespace Go.Proofs.YtefheailchihaaaGreatDoor.Print
open Go.RowKit Go.Lib Go.Shelf Go.Proofs.YtefheailchihaaaGreatDoorW.PrintWords Go.Proofs.YtefheailchihaaaGreatDoorW.PrintLast Go.Proofs.YtefheailchihaaaGreatDoorW.PrintMore
set_option linter.unusedVariables false

/-- Two texts that are cut, behind one another. -/
theorem lines_app2 {a b : ByteArray} (h1 : (linesCut a).2 = 0) (h2 : (linesCut b).2 = 0) (hsz : (a ++ b).size ≤ 2048) : linesCut (a ++ b) = ((linesCut a).1 ++ (linesCut b).1, 0) := by
  obtain ⟨ra, rfl, ha, _⟩ := cut_ok h1
  obtain ⟨rb, rfl, hb, _⟩ := cut_ok h2
  rw [U_app] at hsz ⊢
  exact lines_app ra rb ha hb hsz h1 h2
theorem over_len (p : Pst) (o : Opn) : (overP p o).edges.length ≤ p.edges.length + 1 := by
  cases o with
  | build outs ins imp ord r own => show (p.edges ++ [_]).length ≤ _; rw [List.length_append, List.length_singleton]; exact Nat.le_refl _
  | none => exact Nat.le_succ _
  | rule => exact Nat.le_succ _
  | pool => exact Nat.le_succ _
theorem deep_len (p : Pst) (o : Opn) (k v : ByteArray) : (deepR p o k v).1.edges.length ≤ p.edges.length + 1 := by
  cases o with
  | build outs ins imp ord r own => exact Nat.le_succ _
  | none => exact Nat.le_succ _
  | rule => exact Nat.le_succ _
  | pool =>
    show (poolD p 0 k v).edges.length ≤ _
    unfold poolD
    split <;> exact Nat.le_succ _
theorem flat_len (p : Pst) (t : ByteArray) : (flatR p t).1.edges = p.edges := by
  unfold flatR
  simp only
  split
  · rfl
  split
  · rfl
  split
  · rfl
  split
  · rfl
  · unfold bindFlat
    split <;> rfl
theorem line_len (p : Pst) (o : Opn) (d : Bool) (t : ByteArray) : (lineR p o d t).1.edges.length ≤ p.edges.length + 1 := by
  unfold lineR
  split
  · unfold lineDeep
    split
    · exact deep_len _ _ _ _
    · exact Nat.le_succ _
  · split
    · rw [flat_len]; exact over_len p o
    · exact over_len p o
/-- Lines, behind more edges. -/
theorem ahead_go (E : List S42) : ∀ (l : List S59) (p : Pst) (o : Opn), E.length + p.edges.length + l.length < 16 → parseGo l (ahead E p) o = (ahead E (parseGo l p o).1, (parseGo l p o).2.1, (parseGo l p o).2.2)
  | [], p, o, _ => rfl
  | x :: l, p, o, h => by
    rw [List.length_cons] at h
    have e1 : ∀ q, parseGo (x :: l) q o = if (lineR q o x.f0 x.f1).2.2 = 0 then parseGo l (lineR q o x.f0 x.f1).1 (lineR q o x.f0 x.f1).2.1 else lineR q o x.f0 x.f1 := fun _ => rfl
    have hl := ahead_line E p o x.f0 x.f1 (by rw [List.length_append]; have := over_len p o; omega)
    rw [e1, e1, hl]
    by_cases h0 : (lineR p o x.f0 x.f1).2.2 = 0
    · rw [if_pos h0, if_pos h0]
      exact ahead_go E l _ _ (by have := line_len p o x.f0 x.f1; omega)
    · rw [if_neg h0, if_neg h0]
/-- A flat line first: what was open is ended. -/
theorem go_flat (p q : Pst) (o : Opn) (x : S59) (l : List S59) (hx : x.f0 = false) (h0 : overE p o 0 = 0) (h1 : overP p o = q) : parseGo (x :: l) p o = parseGo (x :: l) q .none := by
  have e1 : ∀ q o, parseGo (x :: l) q o = if (lineR q o x.f0 x.f1).2.2 = 0 then parseGo l (lineR q o x.f0 x.f1).1 (lineR q o x.f0 x.f1).2.1 else lineR q o x.f0 x.f1 := fun _ _ => rfl
  have e2 : lineR p o x.f0 x.f1 = lineR q .none x.f0 x.f1 := by
    have a1 : lineR p o false x.f1 = flatR q x.f1 := by
      show (if false = true then lineDeep p o x.f1 else if overE p o 0 = 0 then flatR (overP p o) x.f1 else (overP p o, Opn.none, overE p o 0)) = _
      rw [if_neg (show ¬ (false = true) by decide), if_pos h0, h1]
    have a2 : lineR q .none false x.f1 = flatR q x.f1 := rfl
    rw [hx, a1, a2]
  rw [e1, e1, e2]
theorem pf_of {s : ByteArray} {r : List S42 × List S44 × List ByteArray × Int} (hs : s.size ≤ 9223372036854775807) (h : parseB s = r) : manifest_Parse.f s = some r := by unfold manifest_Parse.f; rw [if_pos hs, h]

end Go.Proofs.YtefheailchihaaaGreatDoor.Print

end
section
namespace Go.Proofs.YtefheailchihaaaGreatDoor.Print
open Go.RowKit Go.Lib Go.Shelf Go.Proofs.YtefheailchihaaaGreatDoorW.PrintWords Go.Proofs.YtefheailchihaaaGreatDoorW.PrintLast Go.Proofs.YtefheailchihaaaGreatDoorW.PrintMore
set_option linter.unusedVariables false

theorem plain_sizeB {s : ByteArray} {m : Int} (h : plainB s m = true) : (s.size : Int) ≤ m := by
  unfold plainB at h
  simp only [Bool.and_eq_true, decide_eq_true_eq] at h
  exact h.2
theorem find_oneB (nm t s : ByteArray) : findS [⟨nm, t⟩] s = if nm.toList = s.toList then 0 else -1 := by
  unfold findS findFrom
  by_cases h : nm.toList = s.toList
  · rw [if_pos (beq_iff_eq.2 h), if_pos h]; rfl
  · rw [if_neg (fun e => h (beq_iff_eq.1 e)), if_neg h]; rfl
theorem may_oneB {nm t : ByteArray} (hn : nameMay nm = true) (ht : plainB t 256 = true) : scopeMay [⟨nm, t⟩] = true := by
  refine (may_iff _).2 ⟨fun k hk => ?_, by simp⟩
  obtain rfl : k = 0 := by simp at hk; omega
  exact ⟨hn, ht, fun j hj => absurd hj (by omega)⟩
theorem get_oneB {nm t : ByteArray} (s : ByteArray) (hn : nameMay nm = true) (ht : plainB t 256 = true) : scopeGet [⟨nm, t⟩] s = if nm.toList = s.toList then t else ⟨#[]⟩ := by
  unfold scopeGet
  rw [find_oneB, may_oneB hn ht]
  by_cases h : nm.toList = s.toList
  · rw [if_pos h, if_pos h, if_pos ⟨by omega, rfl⟩]; rfl
  · rw [if_neg h, if_neg h, if_neg (fun e => absurd e.1 (by omega))]
theorem orB_emptyB (b : ByteArray) : orB ⟨#[]⟩ b = b := by unfold orB; rw [if_neg (by decide)]
theorem orB_selfB (b : ByteArray) : orB b b = b := by unfold orB; split <;> rfl
theorem eval_ofB {s : ByteArray} {ps : List S162} {l1 l2 : List S174} (hc : cutOf s = (ps, 0)) (h1 : scopeMay l1 = true) (h2 : scopeMay l2 = true) :
    evalOf s l1 l2 = if (evalOut l1 l2 ps).length ≤ 256 then (⟨(evalOut l1 l2 ps).toArray⟩, 0) else (⟨#[]⟩, 501) := by
  unfold evalOf
  rw [hc, if_pos ⟨rfl, h1, h2⟩]

abbrev biV : ByteArray := (⟨#[118]⟩ : ByteArray)
def biH : ByteArray := (⟨#[114, 117, 108, 101, 32, 99, 99, 10, 32, 99, 111, 109, 109, 97, 110, 100, 32, 61, 32, 60, 36, 118, 62, 36, 111, 117, 116, 10]⟩ : ByteArray)
abbrev biR : S116 := ⟨(⟨#[99, 99]⟩ : ByteArray), (⟨#[60, 36, 118, 62, 36, 111, 117, 116]⟩ : ByteArray), ⟨#[]⟩, false, false⟩
def biP (O : List S174) : Pst := ⟨[], [], [], O, [biR]⟩
theorem biH_lines : (linesCut biH).2 = 0 := by kernel_rfl
theorem biH_go : parseGo (linesCut biH).1 pst0 .none = (biP [], .rule, 0) := by kernel_rfl
theorem biH_size : biH.size = 28 := by kernel_rfl
theorem biP_over (O : List S174) : overE (biP O) .rule 0 = 0 := by kernel_rfl
/-- A scope that holds v, and at most that. -/
structure Sc (O : List S174) (v : ByteArray) : Prop where
  plain : plainB v 256 = true
  may : scopeMay O = true
  get : scopeGet O biV = v
  set : ∀ t, plainB t 256 = true → scopeSet O biV t = ([⟨biV, t⟩], 0)
theorem sc_nil : Sc [] ⟨#[]⟩ := ⟨by decide +kernel, by decide +kernel, by decide +kernel, fun t ht => by
  unfold scopeSet
  rw [ht]
  kernel_rfl⟩
theorem sc_one {v : ByteArray} (hv : plainB v 256 = true) : Sc [⟨biV, v⟩] v := ⟨hv, may_oneB (by decide +kernel) hv, by rw [get_oneB biV (by decide +kernel) hv, if_pos rfl], fun t ht => by
  unfold scopeSet
  rw [ht, may_oneB (by decide +kernel) hv, show nameMay biV = true by decide +kernel, if_pos (by decide)]
  unfold setIn
  rw [find_oneB, if_pos rfl, if_pos (by omega)]
  rfl⟩
/-- A row that binds v: the value by the pieces. -/
theorem bi_bind (O : List S174) (v t vt b : ByteArray) (ps : List S162) (E : List S42) (hS : Sc O v) (hc : (cutC 32 t).1.toList = [118]) (hb : bindB t = (biV, vt, true)) (hv : cutOf vt = (ps, 0)) (ho : evalOut O O ps = b.data.toList) (hp : plainB b 256 = true) :
    lineR (ahead E (biP O)) .none false t = (ahead E (biP [⟨biV, b⟩]), .none, 0) := by
  have hl : (evalOut O O ps).length ≤ 256 := by
    rw [ho]
    have h1 := plain_sizeB hp
    have h2 := Lib.size_eq b
    omega
  have he : evalOf vt O O = (b, 0) := by
    rw [eval_ofB hv hS.may hS.may, if_pos hl, ho]
  have hs := hS.set b hp
  have hpl : putL O biV b = [⟨biV, b⟩] := by unfold putL; rw [hs]; rfl
  have e1 : lineR (ahead E (biP O)) .none false t = flatR (ahead E (biP O)) t := rfl
  rw [e1]
  unfold flatR
  simp only [hc]
  rw [if_neg (by decide), if_neg (by decide), if_neg (by decide), if_neg (by decide)]
  unfold bindFlat
  rw [hb]
  show (if needE 0 true = 0 then ({ ahead E (biP O) with outer := putL O biV (evalOf vt O O).1 }, Opn.none, tookE (tookE 0 (evalOf vt O O).2) (scopeSet O biV (evalOf vt O O).1).2) else _) = _
  rw [he]
  simp only [hpl, hs]
  rfl
/-- The value of a command. -/
theorem bi_command (O : List S174) (v F : ByteArray) (L : List S174) (hS : Sc O v) (hL : scopeMay L = true) (h1 : scopeGet L biV = ⟨#[]⟩) (h2 : scopeGet L sOut = F) (h3 : F.size = 2) (hv : v.size ≤ 250) :
    evalOf (⟨#[60, 36, 118, 62, 36, 111, 117, 116]⟩ : ByteArray) L O = ((⟨#[60]⟩ : ByteArray) ++ v ++ (⟨#[62]⟩ : ByteArray) ++ F, 0) := by
  have hc : cutOf (⟨#[60, 36, 118, 62, 36, 111, 117, 116]⟩ : ByteArray) = ([⟨false, (⟨#[60]⟩ : ByteArray)⟩, ⟨true, biV⟩, ⟨false, (⟨#[62]⟩ : ByteArray)⟩, ⟨true, sOut⟩], 0) := by kernel_rfl
  have hF : orB F (scopeGet O sOut) = F := by unfold orB; rw [if_pos (by omega)]
  have ho : evalOut L O [⟨false, (⟨#[60]⟩ : ByteArray)⟩, ⟨true, biV⟩, ⟨false, (⟨#[62]⟩ : ByteArray)⟩, ⟨true, sOut⟩] = ((⟨#[60]⟩ : ByteArray) ++ v ++ (⟨#[62]⟩ : ByteArray) ++ F).data.toList := by
    show [60] ++ ((orB (scopeGet L biV) (scopeGet O biV)).data.toList ++ ([62] ++ ((orB (scopeGet L sOut) (scopeGet O sOut)).data.toList ++ []))) = _
    rw [h1, h2, hF, orB_emptyB, hS.get]
    simp only [ByteArray.data_append, Array.toList_append, List.append_assoc, List.append_nil]
  rw [eval_ofB hc hL hS.may, ho, if_pos (by rw [← Lib.size_eq]; simp only [ByteArray.size_append, h3]; show 1 + v.size + 1 + 2 ≤ 256; omega)]

abbrev strL (i : Int) : ByteArray := strOfNums ([(wrap64 (97 + i)) % 256] : List Int)
abbrev biT0 : ByteArray := (⟨#[118, 32, 61, 32]⟩ : ByteArray)
abbrev biT1 : ByteArray := (⟨#[118, 32, 61, 32, 36, 123, 118, 125, 36, 123, 118, 125]⟩ : ByteArray)
abbrev biT2 : ByteArray := (⟨#[98, 117, 105, 108, 100, 32, 111]⟩ : ByteArray)
abbrev biT3 : ByteArray := (⟨#[32, 58, 32, 99, 99, 10]⟩ : ByteArray)
abbrev biNl : ByteArray := ⟨#[10]⟩
def biK (i : Int) : Nat → ByteArray
  | 0 => biT0 ++ (strL i ++ biNl)
  | 1 => biT1 ++ (strL i ++ biNl)
  | _ => biT2 ++ (strL i ++ biT3)
/-- The law's edge: what it makes; as the parser has it. -/
def biO (i : Int) : ByteArray := (⟨#[111]⟩ : ByteArray) ++ strL i
def biB (i : Int) : Opn := .build [biO i] [] [] [] biR []
/-- A row: its one line, and what it does. -/
structure Row (i : Int) : Prop where
  cut : ∀ c, c < 3 → (linesCut (biK i c)).2 = 0 ∧ (biK i c).size ≤ 20
  set0 : ∀ O v E, Sc O v → parseGo (linesCut (biK i 0)).1 (ahead E (biP O)) .none = (ahead E (biP [⟨biV, strL i⟩]), .none, 0)
  set1 : ∀ O v E, Sc O v → plainB ((v ++ v) ++ strL i) 256 = true → parseGo (linesCut (biK i 1)).1 (ahead E (biP O)) .none = (ahead E (biP [⟨biV, (v ++ v) ++ strL i⟩]), .none, 0)
  build : ∀ O, parseGo (linesCut (biK i 2)).1 (biP O) .none = (biP O, biB i, 0)
  flat : ∀ c, c < 3 → ∃ x, (linesCut (biK i c)).1 = [x] ∧ x.f0 = false
  ends : ∀ O v, Sc O v → v.size ≤ 250 → overE (biP O) (biB i) 0 = 0 ∧ overP (biP O) (biB i) = ahead [⟨[biO i], [], [], [], (⟨#[60]⟩ : ByteArray) ++ v ++ (⟨#[62]⟩ : ByteArray) ++ biO i, false, ⟨#[]⟩⟩] (biP O)
  plain : plainL (strL i).data.toList = true ∧ (strL i).size = 1
theorem go_oneB {t : ByteArray} {p a : Pst} {o b : Opn} (h : lineR p o false t = (a, b, 0)) : parseGo [⟨false, t⟩] p o = (a, b, 0) := by
  show (if (lineR p o false t).2.2 = 0 then ((lineR p o false t).1, (lineR p o false t).2.1, (0 : Int)) else lineR p o false t) = _
  rw [h]
  rfl
theorem ends_ofB (i : Int) (L : List S174) (hF : finS2 [biO i] [] [] = L) (hL : scopeMay L = true) (h1 : scopeGet L biV = ⟨#[]⟩) (h2 : scopeGet L sOut = biO i) (h3 : (biO i).size = 2) (h4 : (scopeSet [] sIn (joinB [] ⟨#[32]⟩)).2 = 0) (h5 : (scopeSet (finS1 [] []) sOut (joinB [biO i] ⟨#[32]⟩)).2 = 0) (O : List S174) (v : ByteArray) (hS : Sc O v) (hv : v.size ≤ 250) : overE (biP O) (biB i) 0 = 0 ∧ overP (biP O) (biB i) = ahead [⟨[biO i], [], [], [], (⟨#[60]⟩ : ByteArray) ++ v ++ (⟨#[62]⟩ : ByteArray) ++ biO i, false, ⟨#[]⟩⟩] (biP O) := by
  have hc := bi_command O v (biO i) L hS hL h1 h2 h3 hv
  have hf : finC O [biO i] [] biR [] = ((⟨#[60]⟩ : ByteArray) ++ v ++ (⟨#[62]⟩ : ByteArray) ++ biO i, 0) := by unfold finC; rw [hF]; exact hc
  refine ⟨?_, ?_⟩
  · show finE O [biO i] [] biR [] 0 = 0
    have hsz : 1 ≤ ((⟨#[60]⟩ : ByteArray) ++ v ++ (⟨#[62]⟩ : ByteArray) ++ biO i).size := by simp only [ByteArray.size_append, h3]; omega
    have hne : (!((⟨#[60]⟩ : ByteArray) ++ v ++ (⟨#[62]⟩ : ByteArray) ++ biO i).toList.isEmpty) = true := by
      have h6 := size_some hsz
      cases hh : ((⟨#[60]⟩ : ByteArray) ++ v ++ (⟨#[62]⟩ : ByteArray) ++ biO i).toList with
      | nil => exact absurd hh h6
      | cons a l => rfl
    unfold finE
    rw [h4, h5, hf, hne]
    rfl
  · show finP (biP O) [biO i] [] [] [] biR [] = _
    unfold finP
    show Pst.mk ([] ++ [⟨[biO i], [], [], [], (finC O [biO i] [] biR []).1, false, ⟨#[]⟩⟩]) [] [] O [biR] = _
    rw [hf]
    rfl
theorem biE0_0 : biK 0 0 = (⟨#[118, 32, 61, 32, 97, 10]⟩ : ByteArray) := by kernel_rfl
theorem biL0_0 : linesCut (biK 0 0) = ([⟨false, (⟨#[118, 32, 61, 32, 97]⟩ : ByteArray)⟩], 0) := (congrArg linesCut biE0_0).trans (by kernel_rfl)
theorem biE0_1 : biK 0 1 = (⟨#[118, 32, 61, 32, 36, 123, 118, 125, 36, 123, 118, 125, 97, 10]⟩ : ByteArray) := by kernel_rfl
theorem biL0_1 : linesCut (biK 0 1) = ([⟨false, (⟨#[118, 32, 61, 32, 36, 123, 118, 125, 36, 123, 118, 125, 97]⟩ : ByteArray)⟩], 0) := (congrArg linesCut biE0_1).trans (by kernel_rfl)
theorem biE0_2 : biK 0 2 = (⟨#[98, 117, 105, 108, 100, 32, 111, 97, 32, 58, 32, 99, 99, 10]⟩ : ByteArray) := by kernel_rfl
theorem biL0_2 : linesCut (biK 0 2) = ([⟨false, (⟨#[98, 117, 105, 108, 100, 32, 111, 97, 32, 58, 32, 99, 99]⟩ : ByteArray)⟩], 0) := (congrArg linesCut biE0_2).trans (by kernel_rfl)
theorem biS0 : strL 0 = (⟨#[97]⟩ : ByteArray) := by kernel_rfl
theorem biOe0 : biO 0 = (⟨#[111, 97]⟩ : ByteArray) := by kernel_rfl
theorem row_0 : Row 0 where
  cut := fun c hc => match c, hc with
    | 0, _ => ⟨by rw [biL0_0], by rw [biE0_0]; decide⟩
    | 1, _ => ⟨by rw [biL0_1], by rw [biE0_1]; decide⟩
    | 2, _ => ⟨by rw [biL0_2], by rw [biE0_2]; decide⟩
    | _ + 3, h => absurd h (by omega)
  set0 := fun O v E hS => by
    rw [biL0_0]
    exact go_oneB (bi_bind O v (⟨#[118, 32, 61, 32, 97]⟩ : ByteArray) (⟨#[97]⟩ : ByteArray) (strL 0) [⟨false, (⟨#[97]⟩ : ByteArray)⟩] E hS (by kernel_rfl) (by kernel_rfl) (by kernel_rfl) (by rw [biS0]; rfl) (by rw [biS0]; decide +kernel))
  set1 := fun O v E hS hp => by
    rw [biL0_1]
    refine go_oneB (bi_bind O v (⟨#[118, 32, 61, 32, 36, 123, 118, 125, 36, 123, 118, 125, 97]⟩ : ByteArray) (⟨#[36, 123, 118, 125, 36, 123, 118, 125, 97]⟩ : ByteArray) ((v ++ v) ++ strL 0) [⟨true, biV⟩, ⟨true, biV⟩, ⟨false, (⟨#[97]⟩ : ByteArray)⟩] E hS (by kernel_rfl) (by kernel_rfl) (by kernel_rfl) ?_ hp)
    show (orB (scopeGet O biV) (scopeGet O biV)).data.toList ++ ((orB (scopeGet O biV) (scopeGet O biV)).data.toList ++ ([97] ++ [])) = _
    rw [orB_selfB, hS.get, biS0]
    simp only [ByteArray.data_append, Array.toList_append, List.append_assoc, List.append_nil]
  build := fun O => by rw [biL0_2]; kernel_rfl
  flat := fun c hc => match c, hc with
    | 0, _ => ⟨_, by rw [biL0_0], rfl⟩
    | 1, _ => ⟨_, by rw [biL0_1], rfl⟩
    | 2, _ => ⟨_, by rw [biL0_2], rfl⟩
    | _ + 3, h => absurd h (by omega)
  ends := ends_ofB 0 [⟨sIn, ⟨#[]⟩⟩, ⟨sOut, biO 0⟩] (by rw [biOe0]; kernel_rfl) (by rw [biOe0]; decide +kernel) (by rw [biOe0]; decide +kernel) (by rw [biOe0]; decide +kernel) (by rw [biOe0]; decide) (by decide +kernel) (by rw [biOe0]; decide +kernel)
  plain := by rw [biS0]; decide +kernel
theorem biE1_0 : biK 1 0 = (⟨#[118, 32, 61, 32, 98, 10]⟩ : ByteArray) := by kernel_rfl
theorem biL1_0 : linesCut (biK 1 0) = ([⟨false, (⟨#[118, 32, 61, 32, 98]⟩ : ByteArray)⟩], 0) := (congrArg linesCut biE1_0).trans (by kernel_rfl)
theorem biE1_1 : biK 1 1 = (⟨#[118, 32, 61, 32, 36, 123, 118, 125, 36, 123, 118, 125, 98, 10]⟩ : ByteArray) := by kernel_rfl
theorem biL1_1 : linesCut (biK 1 1) = ([⟨false, (⟨#[118, 32, 61, 32, 36, 123, 118, 125, 36, 123, 118, 125, 98]⟩ : ByteArray)⟩], 0) := (congrArg linesCut biE1_1).trans (by kernel_rfl)
theorem biE1_2 : biK 1 2 = (⟨#[98, 117, 105, 108, 100, 32, 111, 98, 32, 58, 32, 99, 99, 10]⟩ : ByteArray) := by kernel_rfl
theorem biL1_2 : linesCut (biK 1 2) = ([⟨false, (⟨#[98, 117, 105, 108, 100, 32, 111, 98, 32, 58, 32, 99, 99]⟩ : ByteArray)⟩], 0) := (congrArg linesCut biE1_2).trans (by kernel_rfl)
theorem biS1 : strL 1 = (⟨#[98]⟩ : ByteArray) := by kernel_rfl
theorem biOe1 : biO 1 = (⟨#[111, 98]⟩ : ByteArray) := by kernel_rfl
theorem row_1 : Row 1 where
  cut := fun c hc => match c, hc with
    | 0, _ => ⟨by rw [biL1_0], by rw [biE1_0]; decide⟩
    | 1, _ => ⟨by rw [biL1_1], by rw [biE1_1]; decide⟩
    | 2, _ => ⟨by rw [biL1_2], by rw [biE1_2]; decide⟩
    | _ + 3, h => absurd h (by omega)
  set0 := fun O v E hS => by
    rw [biL1_0]
    exact go_oneB (bi_bind O v (⟨#[118, 32, 61, 32, 98]⟩ : ByteArray) (⟨#[98]⟩ : ByteArray) (strL 1) [⟨false, (⟨#[98]⟩ : ByteArray)⟩] E hS (by kernel_rfl) (by kernel_rfl) (by kernel_rfl) (by rw [biS1]; rfl) (by rw [biS1]; decide +kernel))
  set1 := fun O v E hS hp => by
    rw [biL1_1]
    refine go_oneB (bi_bind O v (⟨#[118, 32, 61, 32, 36, 123, 118, 125, 36, 123, 118, 125, 98]⟩ : ByteArray) (⟨#[36, 123, 118, 125, 36, 123, 118, 125, 98]⟩ : ByteArray) ((v ++ v) ++ strL 1) [⟨true, biV⟩, ⟨true, biV⟩, ⟨false, (⟨#[98]⟩ : ByteArray)⟩] E hS (by kernel_rfl) (by kernel_rfl) (by kernel_rfl) ?_ hp)
    show (orB (scopeGet O biV) (scopeGet O biV)).data.toList ++ ((orB (scopeGet O biV) (scopeGet O biV)).data.toList ++ ([98] ++ [])) = _
    rw [orB_selfB, hS.get, biS1]
    simp only [ByteArray.data_append, Array.toList_append, List.append_assoc, List.append_nil]
  build := fun O => by rw [biL1_2]; kernel_rfl
  flat := fun c hc => match c, hc with
    | 0, _ => ⟨_, by rw [biL1_0], rfl⟩
    | 1, _ => ⟨_, by rw [biL1_1], rfl⟩
    | 2, _ => ⟨_, by rw [biL1_2], rfl⟩
    | _ + 3, h => absurd h (by omega)
  ends := ends_ofB 1 [⟨sIn, ⟨#[]⟩⟩, ⟨sOut, biO 1⟩] (by rw [biOe1]; kernel_rfl) (by rw [biOe1]; decide +kernel) (by rw [biOe1]; decide +kernel) (by rw [biOe1]; decide +kernel) (by rw [biOe1]; decide) (by decide +kernel) (by rw [biOe1]; decide +kernel)
  plain := by rw [biS1]; decide +kernel
theorem biE2_0 : biK 2 0 = (⟨#[118, 32, 61, 32, 99, 10]⟩ : ByteArray) := by kernel_rfl
theorem biL2_0 : linesCut (biK 2 0) = ([⟨false, (⟨#[118, 32, 61, 32, 99]⟩ : ByteArray)⟩], 0) := (congrArg linesCut biE2_0).trans (by kernel_rfl)
theorem biE2_1 : biK 2 1 = (⟨#[118, 32, 61, 32, 36, 123, 118, 125, 36, 123, 118, 125, 99, 10]⟩ : ByteArray) := by kernel_rfl
theorem biL2_1 : linesCut (biK 2 1) = ([⟨false, (⟨#[118, 32, 61, 32, 36, 123, 118, 125, 36, 123, 118, 125, 99]⟩ : ByteArray)⟩], 0) := (congrArg linesCut biE2_1).trans (by kernel_rfl)
theorem biE2_2 : biK 2 2 = (⟨#[98, 117, 105, 108, 100, 32, 111, 99, 32, 58, 32, 99, 99, 10]⟩ : ByteArray) := by kernel_rfl
theorem biL2_2 : linesCut (biK 2 2) = ([⟨false, (⟨#[98, 117, 105, 108, 100, 32, 111, 99, 32, 58, 32, 99, 99]⟩ : ByteArray)⟩], 0) := (congrArg linesCut biE2_2).trans (by kernel_rfl)
theorem biS2 : strL 2 = (⟨#[99]⟩ : ByteArray) := by kernel_rfl
theorem biOe2 : biO 2 = (⟨#[111, 99]⟩ : ByteArray) := by kernel_rfl
theorem row_2 : Row 2 where
  cut := fun c hc => match c, hc with
    | 0, _ => ⟨by rw [biL2_0], by rw [biE2_0]; decide⟩
    | 1, _ => ⟨by rw [biL2_1], by rw [biE2_1]; decide⟩
    | 2, _ => ⟨by rw [biL2_2], by rw [biE2_2]; decide⟩
    | _ + 3, h => absurd h (by omega)
  set0 := fun O v E hS => by
    rw [biL2_0]
    exact go_oneB (bi_bind O v (⟨#[118, 32, 61, 32, 99]⟩ : ByteArray) (⟨#[99]⟩ : ByteArray) (strL 2) [⟨false, (⟨#[99]⟩ : ByteArray)⟩] E hS (by kernel_rfl) (by kernel_rfl) (by kernel_rfl) (by rw [biS2]; rfl) (by rw [biS2]; decide +kernel))
  set1 := fun O v E hS hp => by
    rw [biL2_1]
    refine go_oneB (bi_bind O v (⟨#[118, 32, 61, 32, 36, 123, 118, 125, 36, 123, 118, 125, 99]⟩ : ByteArray) (⟨#[36, 123, 118, 125, 36, 123, 118, 125, 99]⟩ : ByteArray) ((v ++ v) ++ strL 2) [⟨true, biV⟩, ⟨true, biV⟩, ⟨false, (⟨#[99]⟩ : ByteArray)⟩] E hS (by kernel_rfl) (by kernel_rfl) (by kernel_rfl) ?_ hp)
    show (orB (scopeGet O biV) (scopeGet O biV)).data.toList ++ ((orB (scopeGet O biV) (scopeGet O biV)).data.toList ++ ([99] ++ [])) = _
    rw [orB_selfB, hS.get, biS2]
    simp only [ByteArray.data_append, Array.toList_append, List.append_assoc, List.append_nil]
  build := fun O => by rw [biL2_2]; kernel_rfl
  flat := fun c hc => match c, hc with
    | 0, _ => ⟨_, by rw [biL2_0], rfl⟩
    | 1, _ => ⟨_, by rw [biL2_1], rfl⟩
    | 2, _ => ⟨_, by rw [biL2_2], rfl⟩
    | _ + 3, h => absurd h (by omega)
  ends := ends_ofB 2 [⟨sIn, ⟨#[]⟩⟩, ⟨sOut, biO 2⟩] (by rw [biOe2]; kernel_rfl) (by rw [biOe2]; decide +kernel) (by rw [biOe2]; decide +kernel) (by rw [biOe2]; decide +kernel) (by rw [biOe2]; decide) (by decide +kernel) (by rw [biOe2]; decide +kernel)
  plain := by rw [biS2]; decide +kernel
theorem biE3_0 : biK 3 0 = (⟨#[118, 32, 61, 32, 100, 10]⟩ : ByteArray) := by kernel_rfl
theorem biL3_0 : linesCut (biK 3 0) = ([⟨false, (⟨#[118, 32, 61, 32, 100]⟩ : ByteArray)⟩], 0) := (congrArg linesCut biE3_0).trans (by kernel_rfl)
theorem biE3_1 : biK 3 1 = (⟨#[118, 32, 61, 32, 36, 123, 118, 125, 36, 123, 118, 125, 100, 10]⟩ : ByteArray) := by kernel_rfl
theorem biL3_1 : linesCut (biK 3 1) = ([⟨false, (⟨#[118, 32, 61, 32, 36, 123, 118, 125, 36, 123, 118, 125, 100]⟩ : ByteArray)⟩], 0) := (congrArg linesCut biE3_1).trans (by kernel_rfl)
theorem biE3_2 : biK 3 2 = (⟨#[98, 117, 105, 108, 100, 32, 111, 100, 32, 58, 32, 99, 99, 10]⟩ : ByteArray) := by kernel_rfl
theorem biL3_2 : linesCut (biK 3 2) = ([⟨false, (⟨#[98, 117, 105, 108, 100, 32, 111, 100, 32, 58, 32, 99, 99]⟩ : ByteArray)⟩], 0) := (congrArg linesCut biE3_2).trans (by kernel_rfl)
theorem biS3 : strL 3 = (⟨#[100]⟩ : ByteArray) := by kernel_rfl
theorem biOe3 : biO 3 = (⟨#[111, 100]⟩ : ByteArray) := by kernel_rfl
theorem row_3 : Row 3 where
  cut := fun c hc => match c, hc with
    | 0, _ => ⟨by rw [biL3_0], by rw [biE3_0]; decide⟩
    | 1, _ => ⟨by rw [biL3_1], by rw [biE3_1]; decide⟩
    | 2, _ => ⟨by rw [biL3_2], by rw [biE3_2]; decide⟩
    | _ + 3, h => absurd h (by omega)
  set0 := fun O v E hS => by
    rw [biL3_0]
    exact go_oneB (bi_bind O v (⟨#[118, 32, 61, 32, 100]⟩ : ByteArray) (⟨#[100]⟩ : ByteArray) (strL 3) [⟨false, (⟨#[100]⟩ : ByteArray)⟩] E hS (by kernel_rfl) (by kernel_rfl) (by kernel_rfl) (by rw [biS3]; rfl) (by rw [biS3]; decide +kernel))
  set1 := fun O v E hS hp => by
    rw [biL3_1]
    refine go_oneB (bi_bind O v (⟨#[118, 32, 61, 32, 36, 123, 118, 125, 36, 123, 118, 125, 100]⟩ : ByteArray) (⟨#[36, 123, 118, 125, 36, 123, 118, 125, 100]⟩ : ByteArray) ((v ++ v) ++ strL 3) [⟨true, biV⟩, ⟨true, biV⟩, ⟨false, (⟨#[100]⟩ : ByteArray)⟩] E hS (by kernel_rfl) (by kernel_rfl) (by kernel_rfl) ?_ hp)
    show (orB (scopeGet O biV) (scopeGet O biV)).data.toList ++ ((orB (scopeGet O biV) (scopeGet O biV)).data.toList ++ ([100] ++ [])) = _
    rw [orB_selfB, hS.get, biS3]
    simp only [ByteArray.data_append, Array.toList_append, List.append_assoc, List.append_nil]
  build := fun O => by rw [biL3_2]; kernel_rfl
  flat := fun c hc => match c, hc with
    | 0, _ => ⟨_, by rw [biL3_0], rfl⟩
    | 1, _ => ⟨_, by rw [biL3_1], rfl⟩
    | 2, _ => ⟨_, by rw [biL3_2], rfl⟩
    | _ + 3, h => absurd h (by omega)
  ends := ends_ofB 3 [⟨sIn, ⟨#[]⟩⟩, ⟨sOut, biO 3⟩] (by rw [biOe3]; kernel_rfl) (by rw [biOe3]; decide +kernel) (by rw [biOe3]; decide +kernel) (by rw [biOe3]; decide +kernel) (by rw [biOe3]; decide) (by decide +kernel) (by rw [biOe3]; decide +kernel)
  plain := by rw [biS3]; decide +kernel
theorem biE4_0 : biK 4 0 = (⟨#[118, 32, 61, 32, 101, 10]⟩ : ByteArray) := by kernel_rfl
theorem biL4_0 : linesCut (biK 4 0) = ([⟨false, (⟨#[118, 32, 61, 32, 101]⟩ : ByteArray)⟩], 0) := (congrArg linesCut biE4_0).trans (by kernel_rfl)
theorem biE4_1 : biK 4 1 = (⟨#[118, 32, 61, 32, 36, 123, 118, 125, 36, 123, 118, 125, 101, 10]⟩ : ByteArray) := by kernel_rfl
theorem biL4_1 : linesCut (biK 4 1) = ([⟨false, (⟨#[118, 32, 61, 32, 36, 123, 118, 125, 36, 123, 118, 125, 101]⟩ : ByteArray)⟩], 0) := (congrArg linesCut biE4_1).trans (by kernel_rfl)
theorem biE4_2 : biK 4 2 = (⟨#[98, 117, 105, 108, 100, 32, 111, 101, 32, 58, 32, 99, 99, 10]⟩ : ByteArray) := by kernel_rfl
theorem biL4_2 : linesCut (biK 4 2) = ([⟨false, (⟨#[98, 117, 105, 108, 100, 32, 111, 101, 32, 58, 32, 99, 99]⟩ : ByteArray)⟩], 0) := (congrArg linesCut biE4_2).trans (by kernel_rfl)
theorem biS4 : strL 4 = (⟨#[101]⟩ : ByteArray) := by kernel_rfl
theorem biOe4 : biO 4 = (⟨#[111, 101]⟩ : ByteArray) := by kernel_rfl
theorem row_4 : Row 4 where
  cut := fun c hc => match c, hc with
    | 0, _ => ⟨by rw [biL4_0], by rw [biE4_0]; decide⟩
    | 1, _ => ⟨by rw [biL4_1], by rw [biE4_1]; decide⟩
    | 2, _ => ⟨by rw [biL4_2], by rw [biE4_2]; decide⟩
    | _ + 3, h => absurd h (by omega)
  set0 := fun O v E hS => by
    rw [biL4_0]
    exact go_oneB (bi_bind O v (⟨#[118, 32, 61, 32, 101]⟩ : ByteArray) (⟨#[101]⟩ : ByteArray) (strL 4) [⟨false, (⟨#[101]⟩ : ByteArray)⟩] E hS (by kernel_rfl) (by kernel_rfl) (by kernel_rfl) (by rw [biS4]; rfl) (by rw [biS4]; decide +kernel))
  set1 := fun O v E hS hp => by
    rw [biL4_1]
    refine go_oneB (bi_bind O v (⟨#[118, 32, 61, 32, 36, 123, 118, 125, 36, 123, 118, 125, 101]⟩ : ByteArray) (⟨#[36, 123, 118, 125, 36, 123, 118, 125, 101]⟩ : ByteArray) ((v ++ v) ++ strL 4) [⟨true, biV⟩, ⟨true, biV⟩, ⟨false, (⟨#[101]⟩ : ByteArray)⟩] E hS (by kernel_rfl) (by kernel_rfl) (by kernel_rfl) ?_ hp)
    show (orB (scopeGet O biV) (scopeGet O biV)).data.toList ++ ((orB (scopeGet O biV) (scopeGet O biV)).data.toList ++ ([101] ++ [])) = _
    rw [orB_selfB, hS.get, biS4]
    simp only [ByteArray.data_append, Array.toList_append, List.append_assoc, List.append_nil]
  build := fun O => by rw [biL4_2]; kernel_rfl
  flat := fun c hc => match c, hc with
    | 0, _ => ⟨_, by rw [biL4_0], rfl⟩
    | 1, _ => ⟨_, by rw [biL4_1], rfl⟩
    | 2, _ => ⟨_, by rw [biL4_2], rfl⟩
    | _ + 3, h => absurd h (by omega)
  ends := ends_ofB 4 [⟨sIn, ⟨#[]⟩⟩, ⟨sOut, biO 4⟩] (by rw [biOe4]; kernel_rfl) (by rw [biOe4]; decide +kernel) (by rw [biOe4]; decide +kernel) (by rw [biOe4]; decide +kernel) (by rw [biOe4]; decide) (by decide +kernel) (by rw [biOe4]; decide +kernel)
  plain := by rw [biS4]; decide +kernel
theorem biE5_0 : biK 5 0 = (⟨#[118, 32, 61, 32, 102, 10]⟩ : ByteArray) := by kernel_rfl
theorem biL5_0 : linesCut (biK 5 0) = ([⟨false, (⟨#[118, 32, 61, 32, 102]⟩ : ByteArray)⟩], 0) := (congrArg linesCut biE5_0).trans (by kernel_rfl)
theorem biE5_1 : biK 5 1 = (⟨#[118, 32, 61, 32, 36, 123, 118, 125, 36, 123, 118, 125, 102, 10]⟩ : ByteArray) := by kernel_rfl
theorem biL5_1 : linesCut (biK 5 1) = ([⟨false, (⟨#[118, 32, 61, 32, 36, 123, 118, 125, 36, 123, 118, 125, 102]⟩ : ByteArray)⟩], 0) := (congrArg linesCut biE5_1).trans (by kernel_rfl)
theorem biE5_2 : biK 5 2 = (⟨#[98, 117, 105, 108, 100, 32, 111, 102, 32, 58, 32, 99, 99, 10]⟩ : ByteArray) := by kernel_rfl
theorem biL5_2 : linesCut (biK 5 2) = ([⟨false, (⟨#[98, 117, 105, 108, 100, 32, 111, 102, 32, 58, 32, 99, 99]⟩ : ByteArray)⟩], 0) := (congrArg linesCut biE5_2).trans (by kernel_rfl)
theorem biS5 : strL 5 = (⟨#[102]⟩ : ByteArray) := by kernel_rfl
theorem biOe5 : biO 5 = (⟨#[111, 102]⟩ : ByteArray) := by kernel_rfl
theorem row_5 : Row 5 where
  cut := fun c hc => match c, hc with
    | 0, _ => ⟨by rw [biL5_0], by rw [biE5_0]; decide⟩
    | 1, _ => ⟨by rw [biL5_1], by rw [biE5_1]; decide⟩
    | 2, _ => ⟨by rw [biL5_2], by rw [biE5_2]; decide⟩
    | _ + 3, h => absurd h (by omega)
  set0 := fun O v E hS => by
    rw [biL5_0]
    exact go_oneB (bi_bind O v (⟨#[118, 32, 61, 32, 102]⟩ : ByteArray) (⟨#[102]⟩ : ByteArray) (strL 5) [⟨false, (⟨#[102]⟩ : ByteArray)⟩] E hS (by kernel_rfl) (by kernel_rfl) (by kernel_rfl) (by rw [biS5]; rfl) (by rw [biS5]; decide +kernel))
  set1 := fun O v E hS hp => by
    rw [biL5_1]
    refine go_oneB (bi_bind O v (⟨#[118, 32, 61, 32, 36, 123, 118, 125, 36, 123, 118, 125, 102]⟩ : ByteArray) (⟨#[36, 123, 118, 125, 36, 123, 118, 125, 102]⟩ : ByteArray) ((v ++ v) ++ strL 5) [⟨true, biV⟩, ⟨true, biV⟩, ⟨false, (⟨#[102]⟩ : ByteArray)⟩] E hS (by kernel_rfl) (by kernel_rfl) (by kernel_rfl) ?_ hp)
    show (orB (scopeGet O biV) (scopeGet O biV)).data.toList ++ ((orB (scopeGet O biV) (scopeGet O biV)).data.toList ++ ([102] ++ [])) = _
    rw [orB_selfB, hS.get, biS5]
    simp only [ByteArray.data_append, Array.toList_append, List.append_assoc, List.append_nil]
  build := fun O => by rw [biL5_2]; kernel_rfl
  flat := fun c hc => match c, hc with
    | 0, _ => ⟨_, by rw [biL5_0], rfl⟩
    | 1, _ => ⟨_, by rw [biL5_1], rfl⟩
    | 2, _ => ⟨_, by rw [biL5_2], rfl⟩
    | _ + 3, h => absurd h (by omega)
  ends := ends_ofB 5 [⟨sIn, ⟨#[]⟩⟩, ⟨sOut, biO 5⟩] (by rw [biOe5]; kernel_rfl) (by rw [biOe5]; decide +kernel) (by rw [biOe5]; decide +kernel) (by rw [biOe5]; decide +kernel) (by rw [biOe5]; decide) (by decide +kernel) (by rw [biOe5]; decide +kernel)
  plain := by rw [biS5]; decide +kernel
theorem biE6_0 : biK 6 0 = (⟨#[118, 32, 61, 32, 103, 10]⟩ : ByteArray) := by kernel_rfl
theorem biL6_0 : linesCut (biK 6 0) = ([⟨false, (⟨#[118, 32, 61, 32, 103]⟩ : ByteArray)⟩], 0) := (congrArg linesCut biE6_0).trans (by kernel_rfl)
theorem biE6_1 : biK 6 1 = (⟨#[118, 32, 61, 32, 36, 123, 118, 125, 36, 123, 118, 125, 103, 10]⟩ : ByteArray) := by kernel_rfl
theorem biL6_1 : linesCut (biK 6 1) = ([⟨false, (⟨#[118, 32, 61, 32, 36, 123, 118, 125, 36, 123, 118, 125, 103]⟩ : ByteArray)⟩], 0) := (congrArg linesCut biE6_1).trans (by kernel_rfl)
theorem biE6_2 : biK 6 2 = (⟨#[98, 117, 105, 108, 100, 32, 111, 103, 32, 58, 32, 99, 99, 10]⟩ : ByteArray) := by kernel_rfl
theorem biL6_2 : linesCut (biK 6 2) = ([⟨false, (⟨#[98, 117, 105, 108, 100, 32, 111, 103, 32, 58, 32, 99, 99]⟩ : ByteArray)⟩], 0) := (congrArg linesCut biE6_2).trans (by kernel_rfl)
theorem biS6 : strL 6 = (⟨#[103]⟩ : ByteArray) := by kernel_rfl
theorem biOe6 : biO 6 = (⟨#[111, 103]⟩ : ByteArray) := by kernel_rfl
theorem row_6 : Row 6 where
  cut := fun c hc => match c, hc with
    | 0, _ => ⟨by rw [biL6_0], by rw [biE6_0]; decide⟩
    | 1, _ => ⟨by rw [biL6_1], by rw [biE6_1]; decide⟩
    | 2, _ => ⟨by rw [biL6_2], by rw [biE6_2]; decide⟩
    | _ + 3, h => absurd h (by omega)
  set0 := fun O v E hS => by
    rw [biL6_0]
    exact go_oneB (bi_bind O v (⟨#[118, 32, 61, 32, 103]⟩ : ByteArray) (⟨#[103]⟩ : ByteArray) (strL 6) [⟨false, (⟨#[103]⟩ : ByteArray)⟩] E hS (by kernel_rfl) (by kernel_rfl) (by kernel_rfl) (by rw [biS6]; rfl) (by rw [biS6]; decide +kernel))
  set1 := fun O v E hS hp => by
    rw [biL6_1]
    refine go_oneB (bi_bind O v (⟨#[118, 32, 61, 32, 36, 123, 118, 125, 36, 123, 118, 125, 103]⟩ : ByteArray) (⟨#[36, 123, 118, 125, 36, 123, 118, 125, 103]⟩ : ByteArray) ((v ++ v) ++ strL 6) [⟨true, biV⟩, ⟨true, biV⟩, ⟨false, (⟨#[103]⟩ : ByteArray)⟩] E hS (by kernel_rfl) (by kernel_rfl) (by kernel_rfl) ?_ hp)
    show (orB (scopeGet O biV) (scopeGet O biV)).data.toList ++ ((orB (scopeGet O biV) (scopeGet O biV)).data.toList ++ ([103] ++ [])) = _
    rw [orB_selfB, hS.get, biS6]
    simp only [ByteArray.data_append, Array.toList_append, List.append_assoc, List.append_nil]
  build := fun O => by rw [biL6_2]; kernel_rfl
  flat := fun c hc => match c, hc with
    | 0, _ => ⟨_, by rw [biL6_0], rfl⟩
    | 1, _ => ⟨_, by rw [biL6_1], rfl⟩
    | 2, _ => ⟨_, by rw [biL6_2], rfl⟩
    | _ + 3, h => absurd h (by omega)
  ends := ends_ofB 6 [⟨sIn, ⟨#[]⟩⟩, ⟨sOut, biO 6⟩] (by rw [biOe6]; kernel_rfl) (by rw [biOe6]; decide +kernel) (by rw [biOe6]; decide +kernel) (by rw [biOe6]; decide +kernel) (by rw [biOe6]; decide) (by decide +kernel) (by rw [biOe6]; decide +kernel)
  plain := by rw [biS6]; decide +kernel
theorem biE7_0 : biK 7 0 = (⟨#[118, 32, 61, 32, 104, 10]⟩ : ByteArray) := by kernel_rfl
theorem biL7_0 : linesCut (biK 7 0) = ([⟨false, (⟨#[118, 32, 61, 32, 104]⟩ : ByteArray)⟩], 0) := (congrArg linesCut biE7_0).trans (by kernel_rfl)
theorem biE7_1 : biK 7 1 = (⟨#[118, 32, 61, 32, 36, 123, 118, 125, 36, 123, 118, 125, 104, 10]⟩ : ByteArray) := by kernel_rfl
theorem biL7_1 : linesCut (biK 7 1) = ([⟨false, (⟨#[118, 32, 61, 32, 36, 123, 118, 125, 36, 123, 118, 125, 104]⟩ : ByteArray)⟩], 0) := (congrArg linesCut biE7_1).trans (by kernel_rfl)
theorem biE7_2 : biK 7 2 = (⟨#[98, 117, 105, 108, 100, 32, 111, 104, 32, 58, 32, 99, 99, 10]⟩ : ByteArray) := by kernel_rfl
theorem biL7_2 : linesCut (biK 7 2) = ([⟨false, (⟨#[98, 117, 105, 108, 100, 32, 111, 104, 32, 58, 32, 99, 99]⟩ : ByteArray)⟩], 0) := (congrArg linesCut biE7_2).trans (by kernel_rfl)
theorem biS7 : strL 7 = (⟨#[104]⟩ : ByteArray) := by kernel_rfl
theorem biOe7 : biO 7 = (⟨#[111, 104]⟩ : ByteArray) := by kernel_rfl
theorem row_7 : Row 7 where
  cut := fun c hc => match c, hc with
    | 0, _ => ⟨by rw [biL7_0], by rw [biE7_0]; decide⟩
    | 1, _ => ⟨by rw [biL7_1], by rw [biE7_1]; decide⟩
    | 2, _ => ⟨by rw [biL7_2], by rw [biE7_2]; decide⟩
    | _ + 3, h => absurd h (by omega)
  set0 := fun O v E hS => by
    rw [biL7_0]
    exact go_oneB (bi_bind O v (⟨#[118, 32, 61, 32, 104]⟩ : ByteArray) (⟨#[104]⟩ : ByteArray) (strL 7) [⟨false, (⟨#[104]⟩ : ByteArray)⟩] E hS (by kernel_rfl) (by kernel_rfl) (by kernel_rfl) (by rw [biS7]; rfl) (by rw [biS7]; decide +kernel))
  set1 := fun O v E hS hp => by
    rw [biL7_1]
    refine go_oneB (bi_bind O v (⟨#[118, 32, 61, 32, 36, 123, 118, 125, 36, 123, 118, 125, 104]⟩ : ByteArray) (⟨#[36, 123, 118, 125, 36, 123, 118, 125, 104]⟩ : ByteArray) ((v ++ v) ++ strL 7) [⟨true, biV⟩, ⟨true, biV⟩, ⟨false, (⟨#[104]⟩ : ByteArray)⟩] E hS (by kernel_rfl) (by kernel_rfl) (by kernel_rfl) ?_ hp)
    show (orB (scopeGet O biV) (scopeGet O biV)).data.toList ++ ((orB (scopeGet O biV) (scopeGet O biV)).data.toList ++ ([104] ++ [])) = _
    rw [orB_selfB, hS.get, biS7]
    simp only [ByteArray.data_append, Array.toList_append, List.append_assoc, List.append_nil]
  build := fun O => by rw [biL7_2]; kernel_rfl
  flat := fun c hc => match c, hc with
    | 0, _ => ⟨_, by rw [biL7_0], rfl⟩
    | 1, _ => ⟨_, by rw [biL7_1], rfl⟩
    | 2, _ => ⟨_, by rw [biL7_2], rfl⟩
    | _ + 3, h => absurd h (by omega)
  ends := ends_ofB 7 [⟨sIn, ⟨#[]⟩⟩, ⟨sOut, biO 7⟩] (by rw [biOe7]; kernel_rfl) (by rw [biOe7]; decide +kernel) (by rw [biOe7]; decide +kernel) (by rw [biOe7]; decide +kernel) (by rw [biOe7]; decide) (by decide +kernel) (by rw [biOe7]; decide +kernel)
  plain := by rw [biS7]; decide +kernel
theorem biE8_0 : biK 8 0 = (⟨#[118, 32, 61, 32, 105, 10]⟩ : ByteArray) := by kernel_rfl
theorem biL8_0 : linesCut (biK 8 0) = ([⟨false, (⟨#[118, 32, 61, 32, 105]⟩ : ByteArray)⟩], 0) := (congrArg linesCut biE8_0).trans (by kernel_rfl)
theorem biE8_1 : biK 8 1 = (⟨#[118, 32, 61, 32, 36, 123, 118, 125, 36, 123, 118, 125, 105, 10]⟩ : ByteArray) := by kernel_rfl
theorem biL8_1 : linesCut (biK 8 1) = ([⟨false, (⟨#[118, 32, 61, 32, 36, 123, 118, 125, 36, 123, 118, 125, 105]⟩ : ByteArray)⟩], 0) := (congrArg linesCut biE8_1).trans (by kernel_rfl)
theorem biE8_2 : biK 8 2 = (⟨#[98, 117, 105, 108, 100, 32, 111, 105, 32, 58, 32, 99, 99, 10]⟩ : ByteArray) := by kernel_rfl
theorem biL8_2 : linesCut (biK 8 2) = ([⟨false, (⟨#[98, 117, 105, 108, 100, 32, 111, 105, 32, 58, 32, 99, 99]⟩ : ByteArray)⟩], 0) := (congrArg linesCut biE8_2).trans (by kernel_rfl)
theorem biS8 : strL 8 = (⟨#[105]⟩ : ByteArray) := by kernel_rfl
theorem biOe8 : biO 8 = (⟨#[111, 105]⟩ : ByteArray) := by kernel_rfl
theorem row_8 : Row 8 where
  cut := fun c hc => match c, hc with
    | 0, _ => ⟨by rw [biL8_0], by rw [biE8_0]; decide⟩
    | 1, _ => ⟨by rw [biL8_1], by rw [biE8_1]; decide⟩
    | 2, _ => ⟨by rw [biL8_2], by rw [biE8_2]; decide⟩
    | _ + 3, h => absurd h (by omega)
  set0 := fun O v E hS => by
    rw [biL8_0]
    exact go_oneB (bi_bind O v (⟨#[118, 32, 61, 32, 105]⟩ : ByteArray) (⟨#[105]⟩ : ByteArray) (strL 8) [⟨false, (⟨#[105]⟩ : ByteArray)⟩] E hS (by kernel_rfl) (by kernel_rfl) (by kernel_rfl) (by rw [biS8]; rfl) (by rw [biS8]; decide +kernel))
  set1 := fun O v E hS hp => by
    rw [biL8_1]
    refine go_oneB (bi_bind O v (⟨#[118, 32, 61, 32, 36, 123, 118, 125, 36, 123, 118, 125, 105]⟩ : ByteArray) (⟨#[36, 123, 118, 125, 36, 123, 118, 125, 105]⟩ : ByteArray) ((v ++ v) ++ strL 8) [⟨true, biV⟩, ⟨true, biV⟩, ⟨false, (⟨#[105]⟩ : ByteArray)⟩] E hS (by kernel_rfl) (by kernel_rfl) (by kernel_rfl) ?_ hp)
    show (orB (scopeGet O biV) (scopeGet O biV)).data.toList ++ ((orB (scopeGet O biV) (scopeGet O biV)).data.toList ++ ([105] ++ [])) = _
    rw [orB_selfB, hS.get, biS8]
    simp only [ByteArray.data_append, Array.toList_append, List.append_assoc, List.append_nil]
  build := fun O => by rw [biL8_2]; kernel_rfl
  flat := fun c hc => match c, hc with
    | 0, _ => ⟨_, by rw [biL8_0], rfl⟩
    | 1, _ => ⟨_, by rw [biL8_1], rfl⟩
    | 2, _ => ⟨_, by rw [biL8_2], rfl⟩
    | _ + 3, h => absurd h (by omega)
  ends := ends_ofB 8 [⟨sIn, ⟨#[]⟩⟩, ⟨sOut, biO 8⟩] (by rw [biOe8]; kernel_rfl) (by rw [biOe8]; decide +kernel) (by rw [biOe8]; decide +kernel) (by rw [biOe8]; decide +kernel) (by rw [biOe8]; decide) (by decide +kernel) (by rw [biOe8]; decide +kernel)
  plain := by rw [biS8]; decide +kernel
theorem biE9_0 : biK 9 0 = (⟨#[118, 32, 61, 32, 106, 10]⟩ : ByteArray) := by kernel_rfl
theorem biL9_0 : linesCut (biK 9 0) = ([⟨false, (⟨#[118, 32, 61, 32, 106]⟩ : ByteArray)⟩], 0) := (congrArg linesCut biE9_0).trans (by kernel_rfl)
theorem biE9_1 : biK 9 1 = (⟨#[118, 32, 61, 32, 36, 123, 118, 125, 36, 123, 118, 125, 106, 10]⟩ : ByteArray) := by kernel_rfl
theorem biL9_1 : linesCut (biK 9 1) = ([⟨false, (⟨#[118, 32, 61, 32, 36, 123, 118, 125, 36, 123, 118, 125, 106]⟩ : ByteArray)⟩], 0) := (congrArg linesCut biE9_1).trans (by kernel_rfl)
theorem biE9_2 : biK 9 2 = (⟨#[98, 117, 105, 108, 100, 32, 111, 106, 32, 58, 32, 99, 99, 10]⟩ : ByteArray) := by kernel_rfl
theorem biL9_2 : linesCut (biK 9 2) = ([⟨false, (⟨#[98, 117, 105, 108, 100, 32, 111, 106, 32, 58, 32, 99, 99]⟩ : ByteArray)⟩], 0) := (congrArg linesCut biE9_2).trans (by kernel_rfl)
theorem biS9 : strL 9 = (⟨#[106]⟩ : ByteArray) := by kernel_rfl
theorem biOe9 : biO 9 = (⟨#[111, 106]⟩ : ByteArray) := by kernel_rfl
theorem row_9 : Row 9 where
  cut := fun c hc => match c, hc with
    | 0, _ => ⟨by rw [biL9_0], by rw [biE9_0]; decide⟩
    | 1, _ => ⟨by rw [biL9_1], by rw [biE9_1]; decide⟩
    | 2, _ => ⟨by rw [biL9_2], by rw [biE9_2]; decide⟩
    | _ + 3, h => absurd h (by omega)
  set0 := fun O v E hS => by
    rw [biL9_0]
    exact go_oneB (bi_bind O v (⟨#[118, 32, 61, 32, 106]⟩ : ByteArray) (⟨#[106]⟩ : ByteArray) (strL 9) [⟨false, (⟨#[106]⟩ : ByteArray)⟩] E hS (by kernel_rfl) (by kernel_rfl) (by kernel_rfl) (by rw [biS9]; rfl) (by rw [biS9]; decide +kernel))
  set1 := fun O v E hS hp => by
    rw [biL9_1]
    refine go_oneB (bi_bind O v (⟨#[118, 32, 61, 32, 36, 123, 118, 125, 36, 123, 118, 125, 106]⟩ : ByteArray) (⟨#[36, 123, 118, 125, 36, 123, 118, 125, 106]⟩ : ByteArray) ((v ++ v) ++ strL 9) [⟨true, biV⟩, ⟨true, biV⟩, ⟨false, (⟨#[106]⟩ : ByteArray)⟩] E hS (by kernel_rfl) (by kernel_rfl) (by kernel_rfl) ?_ hp)
    show (orB (scopeGet O biV) (scopeGet O biV)).data.toList ++ ((orB (scopeGet O biV) (scopeGet O biV)).data.toList ++ ([106] ++ [])) = _
    rw [orB_selfB, hS.get, biS9]
    simp only [ByteArray.data_append, Array.toList_append, List.append_assoc, List.append_nil]
  build := fun O => by rw [biL9_2]; kernel_rfl
  flat := fun c hc => match c, hc with
    | 0, _ => ⟨_, by rw [biL9_0], rfl⟩
    | 1, _ => ⟨_, by rw [biL9_1], rfl⟩
    | 2, _ => ⟨_, by rw [biL9_2], rfl⟩
    | _ + 3, h => absurd h (by omega)
  ends := ends_ofB 9 [⟨sIn, ⟨#[]⟩⟩, ⟨sOut, biO 9⟩] (by rw [biOe9]; kernel_rfl) (by rw [biOe9]; decide +kernel) (by rw [biOe9]; decide +kernel) (by rw [biOe9]; decide +kernel) (by rw [biOe9]; decide) (by decide +kernel) (by rw [biOe9]; decide +kernel)
  plain := by rw [biS9]; decide +kernel
theorem biE10_0 : biK 10 0 = (⟨#[118, 32, 61, 32, 107, 10]⟩ : ByteArray) := by kernel_rfl
theorem biL10_0 : linesCut (biK 10 0) = ([⟨false, (⟨#[118, 32, 61, 32, 107]⟩ : ByteArray)⟩], 0) := (congrArg linesCut biE10_0).trans (by kernel_rfl)
theorem biE10_1 : biK 10 1 = (⟨#[118, 32, 61, 32, 36, 123, 118, 125, 36, 123, 118, 125, 107, 10]⟩ : ByteArray) := by kernel_rfl
theorem biL10_1 : linesCut (biK 10 1) = ([⟨false, (⟨#[118, 32, 61, 32, 36, 123, 118, 125, 36, 123, 118, 125, 107]⟩ : ByteArray)⟩], 0) := (congrArg linesCut biE10_1).trans (by kernel_rfl)
theorem biE10_2 : biK 10 2 = (⟨#[98, 117, 105, 108, 100, 32, 111, 107, 32, 58, 32, 99, 99, 10]⟩ : ByteArray) := by kernel_rfl
theorem biL10_2 : linesCut (biK 10 2) = ([⟨false, (⟨#[98, 117, 105, 108, 100, 32, 111, 107, 32, 58, 32, 99, 99]⟩ : ByteArray)⟩], 0) := (congrArg linesCut biE10_2).trans (by kernel_rfl)
theorem biS10 : strL 10 = (⟨#[107]⟩ : ByteArray) := by kernel_rfl
theorem biOe10 : biO 10 = (⟨#[111, 107]⟩ : ByteArray) := by kernel_rfl
theorem row_10 : Row 10 where
  cut := fun c hc => match c, hc with
    | 0, _ => ⟨by rw [biL10_0], by rw [biE10_0]; decide⟩
    | 1, _ => ⟨by rw [biL10_1], by rw [biE10_1]; decide⟩
    | 2, _ => ⟨by rw [biL10_2], by rw [biE10_2]; decide⟩
    | _ + 3, h => absurd h (by omega)
  set0 := fun O v E hS => by
    rw [biL10_0]
    exact go_oneB (bi_bind O v (⟨#[118, 32, 61, 32, 107]⟩ : ByteArray) (⟨#[107]⟩ : ByteArray) (strL 10) [⟨false, (⟨#[107]⟩ : ByteArray)⟩] E hS (by kernel_rfl) (by kernel_rfl) (by kernel_rfl) (by rw [biS10]; rfl) (by rw [biS10]; decide +kernel))
  set1 := fun O v E hS hp => by
    rw [biL10_1]
    refine go_oneB (bi_bind O v (⟨#[118, 32, 61, 32, 36, 123, 118, 125, 36, 123, 118, 125, 107]⟩ : ByteArray) (⟨#[36, 123, 118, 125, 36, 123, 118, 125, 107]⟩ : ByteArray) ((v ++ v) ++ strL 10) [⟨true, biV⟩, ⟨true, biV⟩, ⟨false, (⟨#[107]⟩ : ByteArray)⟩] E hS (by kernel_rfl) (by kernel_rfl) (by kernel_rfl) ?_ hp)
    show (orB (scopeGet O biV) (scopeGet O biV)).data.toList ++ ((orB (scopeGet O biV) (scopeGet O biV)).data.toList ++ ([107] ++ [])) = _
    rw [orB_selfB, hS.get, biS10]
    simp only [ByteArray.data_append, Array.toList_append, List.append_assoc, List.append_nil]
  build := fun O => by rw [biL10_2]; kernel_rfl
  flat := fun c hc => match c, hc with
    | 0, _ => ⟨_, by rw [biL10_0], rfl⟩
    | 1, _ => ⟨_, by rw [biL10_1], rfl⟩
    | 2, _ => ⟨_, by rw [biL10_2], rfl⟩
    | _ + 3, h => absurd h (by omega)
  ends := ends_ofB 10 [⟨sIn, ⟨#[]⟩⟩, ⟨sOut, biO 10⟩] (by rw [biOe10]; kernel_rfl) (by rw [biOe10]; decide +kernel) (by rw [biOe10]; decide +kernel) (by rw [biOe10]; decide +kernel) (by rw [biOe10]; decide) (by decide +kernel) (by rw [biOe10]; decide +kernel)
  plain := by rw [biS10]; decide +kernel
theorem biE11_0 : biK 11 0 = (⟨#[118, 32, 61, 32, 108, 10]⟩ : ByteArray) := by kernel_rfl
theorem biL11_0 : linesCut (biK 11 0) = ([⟨false, (⟨#[118, 32, 61, 32, 108]⟩ : ByteArray)⟩], 0) := (congrArg linesCut biE11_0).trans (by kernel_rfl)
theorem biE11_1 : biK 11 1 = (⟨#[118, 32, 61, 32, 36, 123, 118, 125, 36, 123, 118, 125, 108, 10]⟩ : ByteArray) := by kernel_rfl
theorem biL11_1 : linesCut (biK 11 1) = ([⟨false, (⟨#[118, 32, 61, 32, 36, 123, 118, 125, 36, 123, 118, 125, 108]⟩ : ByteArray)⟩], 0) := (congrArg linesCut biE11_1).trans (by kernel_rfl)
theorem biE11_2 : biK 11 2 = (⟨#[98, 117, 105, 108, 100, 32, 111, 108, 32, 58, 32, 99, 99, 10]⟩ : ByteArray) := by kernel_rfl
theorem biL11_2 : linesCut (biK 11 2) = ([⟨false, (⟨#[98, 117, 105, 108, 100, 32, 111, 108, 32, 58, 32, 99, 99]⟩ : ByteArray)⟩], 0) := (congrArg linesCut biE11_2).trans (by kernel_rfl)
theorem biS11 : strL 11 = (⟨#[108]⟩ : ByteArray) := by kernel_rfl
theorem biOe11 : biO 11 = (⟨#[111, 108]⟩ : ByteArray) := by kernel_rfl
theorem row_11 : Row 11 where
  cut := fun c hc => match c, hc with
    | 0, _ => ⟨by rw [biL11_0], by rw [biE11_0]; decide⟩
    | 1, _ => ⟨by rw [biL11_1], by rw [biE11_1]; decide⟩
    | 2, _ => ⟨by rw [biL11_2], by rw [biE11_2]; decide⟩
    | _ + 3, h => absurd h (by omega)
  set0 := fun O v E hS => by
    rw [biL11_0]
    exact go_oneB (bi_bind O v (⟨#[118, 32, 61, 32, 108]⟩ : ByteArray) (⟨#[108]⟩ : ByteArray) (strL 11) [⟨false, (⟨#[108]⟩ : ByteArray)⟩] E hS (by kernel_rfl) (by kernel_rfl) (by kernel_rfl) (by rw [biS11]; rfl) (by rw [biS11]; decide +kernel))
  set1 := fun O v E hS hp => by
    rw [biL11_1]
    refine go_oneB (bi_bind O v (⟨#[118, 32, 61, 32, 36, 123, 118, 125, 36, 123, 118, 125, 108]⟩ : ByteArray) (⟨#[36, 123, 118, 125, 36, 123, 118, 125, 108]⟩ : ByteArray) ((v ++ v) ++ strL 11) [⟨true, biV⟩, ⟨true, biV⟩, ⟨false, (⟨#[108]⟩ : ByteArray)⟩] E hS (by kernel_rfl) (by kernel_rfl) (by kernel_rfl) ?_ hp)
    show (orB (scopeGet O biV) (scopeGet O biV)).data.toList ++ ((orB (scopeGet O biV) (scopeGet O biV)).data.toList ++ ([108] ++ [])) = _
    rw [orB_selfB, hS.get, biS11]
    simp only [ByteArray.data_append, Array.toList_append, List.append_assoc, List.append_nil]
  build := fun O => by rw [biL11_2]; kernel_rfl
  flat := fun c hc => match c, hc with
    | 0, _ => ⟨_, by rw [biL11_0], rfl⟩
    | 1, _ => ⟨_, by rw [biL11_1], rfl⟩
    | 2, _ => ⟨_, by rw [biL11_2], rfl⟩
    | _ + 3, h => absurd h (by omega)
  ends := ends_ofB 11 [⟨sIn, ⟨#[]⟩⟩, ⟨sOut, biO 11⟩] (by rw [biOe11]; kernel_rfl) (by rw [biOe11]; decide +kernel) (by rw [biOe11]; decide +kernel) (by rw [biOe11]; decide +kernel) (by rw [biOe11]; decide) (by decide +kernel) (by rw [biOe11]; decide +kernel)
  plain := by rw [biS11]; decide +kernel
theorem row_all : ∀ (i : Nat), i < 12 → Row (i : Int)
  | 0, _ => row_0
  | 1, _ => row_1
  | 2, _ => row_2
  | 3, _ => row_3
  | 4, _ => row_4
  | 5, _ => row_5
  | 6, _ => row_6
  | 7, _ => row_7
  | 8, _ => row_8
  | 9, _ => row_9
  | 10, _ => row_10
  | 11, _ => row_11
  | _ + 12, h => absurd h (by omega)
end Go.Proofs.YtefheailchihaaaGreatDoor.Print

end
