/- YtefheailchihaaaGreatDoorSf12: out of this seat's texts (wip/tools/shake.py), what is needed alone. -/
import Derived.Test.YtefheailchihaaaGreatDoorSf11
section
namespace Go.Proofs.YtefheailchihaaaGreatDoor.Print
open Go.RowKit Go.Lib Go.Shelf Go.Proofs.YtefheailchihaaaGreatDoorW.PrintWords Go.Proofs.YtefheailchihaaaGreatDoorW.PrintLast Go.Proofs.YtefheailchihaaaGreatDoorW.PrintMore
set_option linter.unusedVariables false
set_option linter.unusedSimpArgs false
attribute [local go_sem ↓] Go.wp_at_zero Go.wp_at_succ

/-- What Parse answers: a graph's rows of its own, and what is wrong. -/
def Ans (w w' : World) (e : Ending) (r : List S42 × List S44 × List ByteArray × Int) : Prop := ∃ v0_ v1_ v2_ : Value, e = .returned (.tuple #[.agg #[v0_, v1_, v2_], .int .i64 r.2.2.2]) ∧
  Kd.R k42 42 w' w.heap.size (fun k_ => some k_ ≠ (v1_ : Value).ownBlock ∧ some k_ ≠ (v2_ : Value).ownBlock) v0_ r.1 ∧ Kd.R k44 44 w' w.heap.size (fun k_ => some k_ ≠ (v0_ : Value).ownBlock ∧ some k_ ≠ (v2_ : Value).ownBlock) v1_ r.2.1 ∧ Kd.R Kd.string 9 w' w.heap.size (fun k_ => some k_ ≠ (v0_ : Value).ownBlock ∧ some k_ ≠ (v1_ : Value).ownBlock) v2_ r.2.2.1 ∧ Below w.heap.size w w'
theorem ans_nil {w w' : World} {c : Int} (hb : Below w.heap.size w w') : Ans w w' (.returned (.tuple #[.agg #[.slice none 0 0, .slice none 0 0, .slice none 0 0], .int .i64 c])) ([], [], [], c) :=
  ⟨_, _, _, rfl, Kd.R_nil _ _ _ _ _, Kd.R_nil _ _ _ _ _, Kd.R_nil _ _ _ _ _, hb⟩

theorem linesGo_len : ∀ (k : Nat) (rs : List ByteArray) (out : List S59), (linesGo k rs out).1.length ≤ out.length + k
  | 0, rs, out => by cases rs <;> exact Nat.le_refl _
  | _ + 1, [], out => Nat.le_add_right _ _
  | k + 1, r :: rs, out => by
    unfold linesGo
    cases hj : joinGo r r rs with
    | none => exact Nat.zero_le _
    | some q =>
      have h1 := linesGo_len k q.2 (addLine out q.1)
      have h2 : (addLine out q.1).length ≤ out.length + 1 := by
        unfold addLine
        split
        · omega
        · rw [List.length_append, List.length_singleton]; omega
      simp only
      omega
theorem splitL_len : ∀ (l cur : List UInt8), (splitL cur l).length ≤ l.length + 1
  | [], cur => by simp [splitL]
  | c :: l, cur => by
    unfold splitL
    split
    · have := splitL_len l []
      simp only [List.length_cons]
      omega
    · have := splitL_len l (cur ++ [c])
      simp only [List.length_cons]
      omega
theorem lines_len (s : ByteArray) (hs : s.size ≤ 9223372036854775807) : (linesCut s).1.length ≤ 4096 := by
  unfold linesCut
  split
  · rename_i hm
    unfold mayB at hm
    simp only [Bool.and_eq_true, Bool.or_eq_true, decide_eq_true_eq] at hm
    have h1 := linesGo_len (rowsOf s).length (rowsOf s) []
    have h2 := splitL_len s.data.toList []
    have h3 : (rowsOf s).length ≤ (splitL [] s.data.toList).length := by unfold rowsOf; rw [List.length_map, List.length_dropLast]; omega
    have h4 := hm.1
    rw [Lib.size_eq] at h4
    simp only [List.length_nil] at h1
    omega
  · exact Nat.zero_le _
theorem parseGo_cons (x : S59) (l : List S59) (p : Pst) (o : Opn) : parseGo (x :: l) p o = if (lineR p o x.f0 x.f1).2.2 = 0 then parseGo l (lineR p o x.f0 x.f1).1 (lineR p o x.f0 x.f1).2.1 else lineR p o x.f0 x.f1 := rfl
theorem g_nil {w : World} {G : Nat} (h : w.heap[G]? = some (.cells #[.slice none 0 0, .slice none 0 0, .slice none 0 0] 26 (0, 0))) : (((w.setCell ⟨G, 0, none⟩ (.slice none 0 0)).setCell ⟨G, 1, none⟩ (.slice none 0 0)).setCell ⟨G, 2, none⟩ (.slice none 0 0)).heap[G]? = some (.cells #[.slice none 0 0, .slice none 0 0, .slice none 0 0] 26 (0, 0)) := blk_put (blk_put (blk_put h 0 _ rfl) 1 _ rfl) 2 _ rfl
theorem g_put {w : World} {G : Nat} {a b c : Value} (h : w.heap[G]? = some (.cells #[.slice none 0 0, .slice none 0 0, .slice none 0 0] 26 (0, 0))) : (((w.setCell ⟨G, 0, none⟩ a).setCell ⟨G, 1, none⟩ b).setCell ⟨G, 2, none⟩ c).heap[G]? = some (.cells #[a, b, c] 26 (0, 0)) := blk_put (blk_put (blk_put h 0 _ rfl) 1 _ rfl) 2 _ rfl
theorem g_below {w W : World} {a b c : Value} (h : Below w.heap.size w W) : Below w.heap.size w (((W.setCell ⟨w.heap.size, 0, none⟩ a).setCell ⟨w.heap.size, 1, none⟩ b).setCell ⟨w.heap.size, 2, none⟩ c) :=
  ((h.setCell (p := ⟨w.heap.size, 0, none⟩) (Nat.le_refl _) _).setCell (p := ⟨w.heap.size, 1, none⟩) (Nat.le_refl _) _).setCell (p := ⟨w.heap.size, 2, none⟩) (Nat.le_refl _) _
/-- A row is none of another's block, by types. -/
theorem R_not {α β : Type} {d : Kd α} {d' : Kd β} {e t base base' : Nat} {ok ok' : Nat → Prop} {w : World} {v v' : Value} {xs : List α} {ys : List β} (h : d.R e w base ok v xs) (h' : d'.R t w base' ok' v' ys) (ht : t ∉ e :: d.E) : d.R e w base (fun k => ok k ∧ some k ≠ v'.ownBlock) v xs :=
  Kd.R_mono (Kd.R_bound h) (fun k hk => ⟨hk.1, fun he => by
    obtain ⟨_, _, _, q, hq, cells, hc⟩ := hk
    obtain ⟨cells2, hc2⟩ := R_own_type h' he.symm
    rw [hc] at hc2
    simp only [Option.some.injEq, Obj.cells.injEq] at hc2
    exact ht (hc2.2.1 ▸ hq)⟩)

set_option maxHeartbeats 1000000 in
set_option maxRecDepth 100000 in
theorem parse_calls (s : ByteArray) (hs : s.size ≤ 9223372036854775807) (w : World) :
    Calls Tryz.prog 10 #[.string s] w fun e w' => Ans w w' e (parseB s) := by
  have hls := lines_size s
  have hln := lines_len s hs
  have HL := Lib.hid (lines_calls s hs (w.alloc (.cells #[.slice none 0 0, .slice none 0 0, .slice none 0 0] 26)))
  obtain ⟨Z, hZ⟩ : ∃ Z, parseB s = Z := ⟨_, rfl⟩
  have hZ2 := hZ
  rw [hZ]
  unfold parseB at hZ2
  obtain ⟨⟨ls, c⟩, hlc⟩ : ∃ q, linesCut s = q := ⟨_, rfl⟩
  rw [hlc] at hls hln HL hZ2
  simp only at hls hln HL hZ2
  have HZ := Lib.hid hZ2
  have HLS := Lib.hid hls
  clear hls hZ hZ2 hlc
  have HA := Aside0.mk ((Below.refl w.heap.size w).alloc (Nat.le_refl _) (.cells #[.slice none 0 0, .slice none 0 0, .slice none 0 0] 26))
  have HGa := Aside0.mk (blk_new w (.cells #[.slice none 0 0, .slice none 0 0, .slice none 0 0] 26))
  have hsz : (w.alloc (.cells #[.slice none 0 0, .slice none 0 0, .slice none 0 0] 26)).heap.size = w.heap.size + 1 := by simp
  by_cases h0 : c = 0
  · subst h0
    have hz := HZ.out
    rw [if_pos rfl] at hz
    have HZ1 := Lib.hid hz
    clear hz HZ
    go_enter Tryz.func10, Tryz.ntmps10
    go_upto_region 5 with (first | (go_at_call 18; refine HL.out.mono ?_; rintro x w1 ⟨vl, rfl, hl, hb⟩; obtain ⟨Al, cl, rfl⟩ := Kd.R_slice hl; have HG1 := Aside0.mk (blk_below HGa.out hb); have RL1 := Aside0.mk (Kd.R_reads' hl).2.2; have HB1 := Aside0.mk (HA.out.trans (hb.mono (by omega))); clear hl hb HGa HA))
    have hGB : w.heap.size < w1.heap.size := blk_lt HG1.out
    have hd := (Below.refl w1.heap.size w1).alloc (Nat.le_refl _) (.cells #[.slice none 0 0, .slice none 0 0, .slice none 0 0, .slice none 0 0, .slice none 0 0, .nilFunc, .nilFunc, .int .i64 0] 57)
    have HM2 : Aside0 (Mst (w1.alloc (.cells #[.slice none 0 0, .slice none 0 0, .slice none 0 0, .slice none 0 0, .slice none 0 0, .nilFunc, .nilFunc, .int .i64 0] 57)) w1.heap.size w1.heap.size pst0 .none 0) := ⟨⟨_, _, _, _, _, _, _, Nat.le_refl _, blk_new w1 _, ⟨Kd.R_nil _ _ _ _ _, Kd.R_nil _ _ _ _ _, Kd.R_nil _ _ _ _ _, Kd.R_nil _ _ _ _ _, Kd.R_nil _ _ _ _ _⟩, rfl, rfl⟩⟩
    have HB2 := Aside0.mk hd
    clear hd
    obtain ⟨B, hB⟩ : ∃ B, w1.heap.size = B := ⟨_, rfl⟩
    rw [hB] at HM2 HB2 hGB ⊢
    have hBG : B ≠ w.heap.size := by omega
    have HBB := Lib.hid hB
    clear hB
    generalize w1.alloc (.cells #[.slice none 0 0, .slice none 0 0, .slice none 0 0, .slice none 0 0, .slice none 0 0, .nilFunc, .nilFunc, .int .i64 0] 57) = w2 at HM2 HB2 ⊢
    go_wp2_with fail
    go_loopw [8, 21] (fun v8 v21 wr => ∃ (k : Nat) (p : Pst) (o : Opn), v21 = .int .i64 k ∧ k ≤ ls.length ∧ Aside0 (parseGo ls pst0 .none = parseGo (ls.drop k) p o) ∧ Aside0 (Inv p o) ∧ Aside0 (Mst wr B B p o 0) ∧ Aside0 (Below B w1 wr)) (fun v8 v21 _ => ls.length - (intOf v21).toNat)
    case atStart => exact ⟨0, pst0, .none, rfl, Nat.zero_le _, ⟨by rw [List.drop_zero]⟩, ⟨inv0⟩, ⟨HM2.out⟩, ⟨HB2.out⟩⟩
    case round =>
      obtain ⟨k, p, o, rfl, hk, HPG, HIV, HM, HB⟩ := hrel
      have hBw : B ≤ wr.heap.size := by
        have h1 := HB.out.size
        have h2 := HBB.out
        omega
      have HG := Aside0.mk ((HB.out.block _ hGB).trans HG1.out)
      by_cases hlt : k < ls.length
      · have RLr := Aside0.mk (Kd.C_below RL1.out (by rw [HBB.out]; exact HB.out))
        obtain ⟨ad, rfl, r0, r1⟩ := at_T59 RLr.out (k : Int) (by omega) (by omega)
        have hx := HLS.out _ (List.getElem_mem hlt)
        have hrd : rd_T59 ls (k : Int) = ls[k] := by simp [rd_T59, List.getD_eq_getElem?_getD, hlt]
        rw [hrd] at r0 r1
        simp only [Int.toNat_natCast] at r0 r1
        have hgo := HPG.out
        rw [List.drop_eq_getElem_cons hlt] at hgo
        rw [parseGo_cons] at hgo
        generalize ls[k] = x at *
        obtain ⟨xd, xt⟩ := x
        have HA3 := Aside0.mk ((Below.refl wr.heap.size wr).alloc (Nat.le_refl _) (.cells #[.bool xd, .string xt] 59))
        have HLC := Lib.hid (line_calls B B p o xd xt hx (wr.alloc (.cells #[.bool xd, .string xt] 59)) (Nat.le_trans hBw HA3.out.size) (Mst_below HM.out HA3.out) HIV.out)
        have hinv := inv_line (p := p) (o := o) (d := xd) hx HIV.out
        obtain ⟨⟨P', O', E'⟩, hL⟩ : ∃ q, lineR p o xd xt = q := ⟨_, rfl⟩
        rw [hL] at HLC hgo hinv
        simp only at HLC hgo hinv r0 r1
        have HINV := Lib.hid hinv
        clear hL hinv
        have CALL := HLC
        by_cases hE : E' = 0
        · subst hE
          rw [if_pos rfl] at hgo
          have HGO := Aside0.mk hgo
          clear hgo
          go_wp2_with (first | (go_at_call 19; refine HLC.out.mono ?_; rintro y w3 ⟨rfl, hm, hb⟩; have HM3 := Aside0.mk hm; have HB3 := Aside0.mk (HB.out.trans ((HA3.out.mono hBw).trans hb)); obtain ⟨_, _, _, _, _, _, _, _, hp3, _⟩ := hm; have q7 : w3.cell? ⟨B, 7, none⟩ = some (.int .i64 0) := blk_cell hp3 7; clear hp3 hb))
          exact ⟨⟨k + 1, P', O', by go_num, by omega, ⟨HGO.out⟩, ⟨HINV.out trivial⟩, ⟨HM3.out⟩, ⟨HB3.out⟩⟩, by simp [intOf]; omega⟩
        · rw [if_neg hE] at hgo
          have HGO := Aside0.mk hgo
          clear hgo
          have hEb : (E' != 0) = true := bne_iff_ne.2 hE
          go_upto_region 10 with (first | (go_at_call 19; refine HLC.out.mono ?_; rintro y w3 ⟨rfl, hm, hb⟩; have HB3 := Aside0.mk (HB.out.trans ((HA3.out.mono hBw).trans hb)); obtain ⟨_, _, _, _, _, _, _, _, hp3, _⟩ := hm; have HP3 := Aside0.mk hp3; have q7 : w3.cell? ⟨B, 7, none⟩ = some (.int .i64 E') := blk_cell hp3 7; clear hp3 hb))
          have HG3 := Aside0.mk ((HB3.out.block _ hGB).trans HG1.out)
          refine start_ (n := 7) (S := fun w' => w'.cell? ⟨B, 7, none⟩ = some (.int .i64 E')) (ds := []) #[false, false, false, false, false, false, false] (by kernel_rfl) rfl rfl (q7) (fun hHeld => ?_)
          have g0 := blk_cell HG3.out 0
          have g1 := blk_cell (HG3.out) 1
          have g2 := blk_cell (HG3.out) 2
          have f0 := blk_frozen (HG3.out) 0
          have f1 := blk_frozen (HG3.out) 1
          have f2 := blk_frozen (HG3.out) 2
          refine pure_ (i := 0) (N := some 33) (v := ?_) (a' := ?_) #[true, false, false, false, false, false, false] rfl rfl (by kernel_rfl) (fun _ _ _ h => h) (Or.inl ⟨by rfl, ?_⟩) ?_ ?_
          rotate_left
          · intro w'
            go_simp
            with_reducible rfl
          rotate_left
          · simp only [Act.put, List.setIfInBounds_toArray, List.set_cons_zero, List.set_cons_succ, i64_w, i32_w]
            rfl
          refine pure_ (i := 1) (N := some 34) (v := ?_) (a' := ?_) #[true, true, false, false, false, false, false] rfl rfl (by kernel_rfl) (fun _ _ _ h => h) (Or.inl ⟨by rfl, ?_⟩) ?_ ?_
          rotate_left
          · intro w'
            go_simp
            with_reducible rfl
          rotate_left
          · simp only [Act.put, List.setIfInBounds_toArray, List.set_cons_zero, List.set_cons_succ, i64_w, i32_w]
            rfl
          refine pure_ (i := 2) (N := some 35) (v := ?_) (a' := ?_) #[true, true, true, false, false, false, false] rfl rfl (by kernel_rfl) (fun _ _ _ h => h) (Or.inl ⟨by rfl, ?_⟩) ?_ ?_
          rotate_left
          · intro w'
            go_simp
            with_reducible rfl
          rotate_left
          · simp only [Act.put, List.setIfInBounds_toArray, List.set_cons_zero, List.set_cons_succ, i64_w, i32_w]
            rfl
          refine pure_ (i := 3) (N := some 36) (v := ?_) (a' := ?_) #[true, true, true, true, false, false, false] rfl rfl (by kernel_rfl) (fun _ _ _ h => h) (Or.inl ⟨by rfl, ?_⟩) ?_ ?_
          rotate_left
          · intro w'
            go_simp
            with_reducible rfl
          rotate_left
          · simp only [Act.put, List.setIfInBounds_toArray, List.set_cons_zero, List.set_cons_succ, i64_w, i32_w]
            rfl
          refine take_ (i := 4) (N := some 37) (v := ?_) (a' := ?_) #[true, true, true, true, true, false, false] rfl rfl (by kernel_rfl) (fun _ _ _ h => h) (Or.inl ⟨by rfl, ?_⟩) hHeld ?_ ?_
          rotate_left
          · intro w' s0
            go_simp
            with_reducible rfl
          rotate_left
          · simp only [Act.put, List.setIfInBounds_toArray, List.set_cons_zero, List.set_cons_succ, i64_w, i32_w]
            rfl
          refine one_ (i := 5) (N := none) #[true, true, true, true, true, true, false] rfl rfl (by kernel_rfl) (by decide) (fun K hK => ?_)
          refine skip_ (w1 := ?_) (by rfl) rfl ?_ ?_
          rotate_left
          · go_simp
            rfl
          refine hK.out _ _ (blk_cell (blk_far (blk_far (blk_far (blk_drew HP3.out) hBG _) hBG _) hBG _) 7) (fun hHeld => ?_)
          clear hK K
          refine pure_ (i := 6) (N := some 3) (v := ?_) (a' := ?_) #[true, true, true, true, true, true, true] rfl rfl (by kernel_rfl) (fun _ _ _ h => h) (Or.inl ⟨by rfl, ?_⟩) ?_ ?_
          rotate_left
          · intro w'
            go_simp
            with_reducible rfl
          rotate_left
          · simp only [Act.put, List.setIfInBounds_toArray, List.set_cons_zero, List.set_cons_succ, i64_w, i32_w]
            rfl
          refine done_ (by kernel_rfl) ?_
          have hz := HZ1.out
          rw [HGO.out] at hz
          unfold parseEnd at hz
          rw [if_neg hE] at hz
          subst hz
          go_wp2_with fail
          have HGN := blk_drew (g_nil HG3.out)
          have HBN := (g_below (a := .slice none 0 0) (b := .slice none 0 0) (c := .slice none 0 0) (HB1.out.trans (HB3.out.mono (Nat.le_of_lt hGB)))).drew
          generalize (((w3.setCell ⟨w.heap.size, 0, none⟩ (.slice none 0 0)).setCell ⟨w.heap.size, 1, none⟩ (.slice none 0 0)).setCell ⟨w.heap.size, 2, none⟩ (.slice none 0 0)).drew = w9 at HGN HBN ⊢
          have z0 := blk_cell HGN 0
          have z1 := blk_cell HGN 1
          have z2 := blk_cell HGN 2
          refine bodyPost_ret (v := .tuple #[.agg #[.slice none 0 0, .slice none 0 0, .slice none 0 0], .int .i64 E']) (by simp [results, Tryz.results10, go_sem, z0, z1, z2]) rfl ?_
          exact ans_nil HBN
      · obtain rfl : k = ls.length := by omega
        have hgo := HPG.out
        rw [List.drop_length] at hgo
        have hgo2 : parseGo ls pst0 .none = (p, o, 0) := hgo
        have hz := HZ1.out
        rw [hgo2] at hz
        unfold parseEnd at hz
        rw [if_pos rfl] at hz
        simp only at hz
        clear hgo hgo2
        have HEN := Lib.hid (end_calls B B p o 0 wr HM.out HIV.out w.heap.size 26 _ HG.out (by decide))
        obtain ⟨E', hE'⟩ : ∃ q, overE p o 0 = q := ⟨_, rfl⟩
        obtain ⟨P', hP'⟩ : ∃ q, overP p o = q := ⟨_, rfl⟩
        rw [hE', hP'] at HEN hz
        clear hE' hP'
        by_cases hE : E' = 0
        · subst hE
          rw [if_pos rfl] at hz
          have HZ2 := Lib.hid hz
          clear hz
          go_wp2_with (first | (go_at_call 20; refine HEN.out.mono ?_; rintro y w3 ⟨rfl, hm, hb, hq⟩; have HB3 := Aside0.mk (HB.out.trans hb); have HG3 := Aside0.mk hq; obtain ⟨vE, vP, vD, vO, vR, fd, fo, _, hp3, hr3, _⟩ := hm; obtain ⟨AE, cE, rfl⟩ := Kd.R_slice hr3.1; obtain ⟨AP, cP, rfl⟩ := Kd.R_slice hr3.2.1; obtain ⟨AD, cD, rfl⟩ := Kd.R_slice hr3.2.2.1; have HP3 := Aside0.mk hp3; have HR3 := Aside0.mk hr3; have q7 : w3.cell? ⟨B, 7, none⟩ = some (.int .i64 0) := blk_cell hp3 7; have q0 := blk_cell hp3 0; have q1 := blk_cell hp3 1; have q2 := blk_cell hp3 2; have g0 := blk_cell HG3.out 0; have g1 := blk_cell HG3.out 1; have g2 := blk_cell HG3.out 2; have f0 := blk_frozen HG3.out 0; have f1 := blk_frozen HG3.out 1; have f2 := blk_frozen HG3.out 2; clear hp3 hr3 hb hq))
          have hz2 := HZ2.out
          subst hz2
          have HGN := g_put (a := .slice AE P'.edges.length cE) (b := .slice AP P'.pools.length cP) (c := .slice AD P'.defs.length cD) HG3.out
          have HBN := g_below (a := .slice AE P'.edges.length cE) (b := .slice AP P'.pools.length cP) (c := .slice AD P'.defs.length cD) (HB1.out.trans (HB3.out.mono (Nat.le_of_lt hGB)))
          have hkk := Kept.then_ (Kept.then_ (kept_one w3 w.heap.size 0 (.slice AE P'.edges.length cE)) (kept_one _ w.heap.size 1 (.slice AP P'.pools.length cP)) (fun k hk => .inl hk)) (kept_one _ w.heap.size 2 (.slice AD P'.defs.length cD)) (fun k hk => .inl hk)
          have HRN := Rows_kept HR3.out hkk (apart_one HG3.out (by decide))
          clear hkk
          generalize ((w3.setCell ⟨w.heap.size, 0, none⟩ (.slice AE P'.edges.length cE)).setCell ⟨w.heap.size, 1, none⟩ (.slice AP P'.pools.length cP)).setCell ⟨w.heap.size, 2, none⟩ (.slice AD P'.defs.length cD) = w9 at HGN HBN HRN ⊢
          have z0 := blk_cell HGN 0
          have z1 := blk_cell HGN 1
          have z2 := blk_cell HGN 2
          refine bodyPost_ret (v := .tuple #[.agg #[.slice AE P'.edges.length cE, .slice AP P'.pools.length cP, .slice AD P'.defs.length cD], .int .i64 0]) (by simp [results, Tryz.results10, go_sem, z0, z1, z2]) rfl ?_
          obtain ⟨n1, n2, n3, _, _⟩ := HRN
          have hle := Nat.le_of_lt hGB
          exact ⟨_, _, _, rfl, Kd.R_lower (Kd.R_mono (R_not n1 n2 (by decide)) (fun k hk => ⟨hk.2, hk.1⟩)) hle, Kd.R_lower (Kd.R_mono (R_not (R_not n2 n1 (by decide)) n3 (by decide)) (fun k hk => ⟨hk.1.2, hk.2⟩)) hle, Kd.R_lower (Kd.R_mono (R_not (R_not n3 n1 (by decide)) n2 (by decide)) (fun k hk => ⟨hk.1.2, hk.2⟩)) hle, HBN⟩
        · rw [if_neg hE] at hz
          have HZ2 := Lib.hid hz
          clear hz
          have hEb : (E' != 0) = true := bne_iff_ne.2 hE
          go_upto_region 14 with (first | (go_at_call 20; refine HEN.out.mono ?_; rintro y w3 ⟨rfl, hm, hb, hq⟩; have HB3 := Aside0.mk (HB.out.trans hb); have HG3 := Aside0.mk hq; obtain ⟨_, _, _, _, _, _, _, _, hp3, _⟩ := hm; have HP3 := Aside0.mk hp3; have q7 : w3.cell? ⟨B, 7, none⟩ = some (.int .i64 E') := blk_cell hp3 7; clear hp3 hb hq))
          refine start_ (n := 7) (S := fun w' => w'.cell? ⟨B, 7, none⟩ = some (.int .i64 E')) (ds := []) #[false, false, false, false, false, false, false] (by kernel_rfl) rfl rfl (q7) (fun hHeld => ?_)
          have g0 := blk_cell HG3.out 0
          have g1 := blk_cell (HG3.out) 1
          have g2 := blk_cell (HG3.out) 2
          have f0 := blk_frozen (HG3.out) 0
          have f1 := blk_frozen (HG3.out) 1
          have f2 := blk_frozen (HG3.out) 2
          refine pure_ (i := 0) (N := some 46) (v := ?_) (a' := ?_) #[true, false, false, false, false, false, false] rfl rfl (by kernel_rfl) (fun _ _ _ h => h) (Or.inl ⟨by rfl, ?_⟩) ?_ ?_
          rotate_left
          · intro w'
            go_simp
            with_reducible rfl
          rotate_left
          · simp only [Act.put, List.setIfInBounds_toArray, List.set_cons_zero, List.set_cons_succ, i64_w, i32_w]
            rfl
          refine pure_ (i := 1) (N := some 47) (v := ?_) (a' := ?_) #[true, true, false, false, false, false, false] rfl rfl (by kernel_rfl) (fun _ _ _ h => h) (Or.inl ⟨by rfl, ?_⟩) ?_ ?_
          rotate_left
          · intro w'
            go_simp
            with_reducible rfl
          rotate_left
          · simp only [Act.put, List.setIfInBounds_toArray, List.set_cons_zero, List.set_cons_succ, i64_w, i32_w]
            rfl
          refine pure_ (i := 2) (N := some 48) (v := ?_) (a' := ?_) #[true, true, true, false, false, false, false] rfl rfl (by kernel_rfl) (fun _ _ _ h => h) (Or.inl ⟨by rfl, ?_⟩) ?_ ?_
          rotate_left
          · intro w'
            go_simp
            with_reducible rfl
          rotate_left
          · simp only [Act.put, List.setIfInBounds_toArray, List.set_cons_zero, List.set_cons_succ, i64_w, i32_w]
            rfl
          refine pure_ (i := 3) (N := some 49) (v := ?_) (a' := ?_) #[true, true, true, true, false, false, false] rfl rfl (by kernel_rfl) (fun _ _ _ h => h) (Or.inl ⟨by rfl, ?_⟩) ?_ ?_
          rotate_left
          · intro w'
            go_simp
            with_reducible rfl
          rotate_left
          · simp only [Act.put, List.setIfInBounds_toArray, List.set_cons_zero, List.set_cons_succ, i64_w, i32_w]
            rfl
          refine take_ (i := 4) (N := some 50) (v := ?_) (a' := ?_) #[true, true, true, true, true, false, false] rfl rfl (by kernel_rfl) (fun _ _ _ h => h) (Or.inl ⟨by rfl, ?_⟩) hHeld ?_ ?_
          rotate_left
          · intro w' s0
            go_simp
            with_reducible rfl
          rotate_left
          · simp only [Act.put, List.setIfInBounds_toArray, List.set_cons_zero, List.set_cons_succ, i64_w, i32_w]
            rfl
          refine one_ (i := 5) (N := none) #[true, true, true, true, true, true, false] rfl rfl (by kernel_rfl) (by decide) (fun K hK => ?_)
          refine skip_ (w1 := ?_) (by rfl) rfl ?_ ?_
          rotate_left
          · go_simp
            rfl
          refine hK.out _ _ (blk_cell (blk_far (blk_far (blk_far (blk_drew HP3.out) hBG _) hBG _) hBG _) 7) (fun hHeld => ?_)
          clear hK K
          refine pure_ (i := 6) (N := some 3) (v := ?_) (a' := ?_) #[true, true, true, true, true, true, true] rfl rfl (by kernel_rfl) (fun _ _ _ h => h) (Or.inl ⟨by rfl, ?_⟩) ?_ ?_
          rotate_left
          · intro w'
            go_simp
            with_reducible rfl
          rotate_left
          · simp only [Act.put, List.setIfInBounds_toArray, List.set_cons_zero, List.set_cons_succ, i64_w, i32_w]
            rfl
          refine done_ (by kernel_rfl) ?_
          have hz := HZ2.out
          subst hz
          go_wp2_with fail
          have HGN := blk_drew (g_nil HG3.out)
          have HBN := (g_below (a := .slice none 0 0) (b := .slice none 0 0) (c := .slice none 0 0) (HB1.out.trans (HB3.out.mono (Nat.le_of_lt hGB)))).drew
          generalize (((w3.setCell ⟨w.heap.size, 0, none⟩ (.slice none 0 0)).setCell ⟨w.heap.size, 1, none⟩ (.slice none 0 0)).setCell ⟨w.heap.size, 2, none⟩ (.slice none 0 0)).drew = w9 at HGN HBN ⊢
          have z0 := blk_cell HGN 0
          have z1 := blk_cell HGN 1
          have z2 := blk_cell HGN 2
          refine bodyPost_ret (v := .tuple #[.agg #[.slice none 0 0, .slice none 0 0, .slice none 0 0], .int .i64 E']) (by simp [results, Tryz.results10, go_sem, z0, z1, z2]) rfl ?_
          exact ans_nil HBN
  · have h0b : (c != 0) = true := bne_iff_ne.2 h0
    have hz := HZ.out
    rw [if_neg h0] at hz
    subst hz
    go_enter Tryz.func10, Tryz.ntmps10
    go_wp2_with (first | (go_at_call 18; refine HL.out.mono ?_; rintro x w1 ⟨vl, rfl, hl, hb⟩; obtain ⟨Al, cl, rfl⟩ := Kd.R_slice hl; have HG1 := Aside0.mk (blk_below HGa.out hb); have HB1 := Aside0.mk (HA.out.trans (hb.mono (by omega))); have g0 := blk_cell HG1.out 0; have g1 := blk_cell HG1.out 1; have g2 := blk_cell HG1.out 2; have f0 := blk_frozen HG1.out 0; have f1 := blk_frozen HG1.out 1; have f2 := blk_frozen HG1.out 2; clear hl hb))
    have HGN := g_nil HG1.out
    have HBN := g_below (a := .slice none 0 0) (b := .slice none 0 0) (c := .slice none 0 0) HB1.out
    generalize ((w1.setCell ⟨w.heap.size, 0, none⟩ (.slice none 0 0)).setCell ⟨w.heap.size, 1, none⟩ (.slice none 0 0)).setCell ⟨w.heap.size, 2, none⟩ (.slice none 0 0) = w9 at HGN HBN ⊢
    have z0 := blk_cell HGN 0
    have z1 := blk_cell HGN 1
    have z2 := blk_cell HGN 2
    refine bodyPost_ret (v := .tuple #[.agg #[.slice none 0 0, .slice none 0 0, .slice none 0 0], .int .i64 800]) (by simp [results, Tryz.results10, go_sem, z0, z1, z2]) rfl ?_
    exact ans_nil HBN

def manifest_Parse.f (a0 : ByteArray) : Option (List S42 × List S44 × List ByteArray × Int) := if a0.size ≤ 9223372036854775807 then some (parseB a0) else none
theorem manifest_Parse.calls (a0 : ByteArray) (r1 : List S42) (r2 : List S44) (r3 : List ByteArray) (r4 : Int) (w : World) (h : manifest_Parse.f a0 = some (r1, r2, r3, r4)) :
    Calls Tryz.prog 10 #[.string a0] w fun e w' => ∃ v0_ v1_ v2_ : Value, e = .returned (.tuple #[.agg #[v0_, v1_, v2_], .int .i64 r4]) ∧ Kd.R k42 42 w' w.heap.size (fun k_ => some k_ ≠ (v2_ : Value).ownBlock) v0_ r1 ∧ Kd.R k44 44 w' w.heap.size (fun _ => True) v1_ r2 ∧ Kd.R Kd.string 9 w' w.heap.size (fun _ => True) v2_ r3 ∧ Below w.heap.size w w' := by
  unfold manifest_Parse.f at h
  split at h
  · rename_i hs
    have h2 := Option.some.inj h
    have hc := parse_calls a0 hs w
    rw [h2] at hc
    refine hc.mono ?_
    rintro e w1 ⟨v0, v1, v2, he, n1, n2, n3, hb⟩
    exact ⟨v0, v1, v2, he, Kd.R_mono n1 (fun k hk => hk.2), Kd.R_mono n2 (fun k hk => trivial), Kd.R_mono n3 (fun k hk => trivial), hb⟩
  · cases h
end Go.Proofs.YtefheailchihaaaGreatDoor.Print

end
section
namespace Go.Proofs.YtefheailchihaaaGreatDoor.Print
open Go.RowKit Go.Lib Go.Shelf Go.Proofs.YtefheailchihaaaGreatDoorW.PrintWords Go.Proofs.YtefheailchihaaaGreatDoorW.PrintLast Go.Proofs.YtefheailchihaaaGreatDoorW.PrintMore
set_option linter.unusedVariables false
set_option linter.unusedSimpArgs false
attribute [local go_sem ↓] Go.wp_at_zero Go.wp_at_succ

def wantE : List S42 := [⟨[⟨#[97, 46, 111]⟩], [⟨#[97, 46, 99]⟩], [⟨#[97, 46, 104]⟩], [], ⟨#[99, 99, 32, 45, 111, 50, 32, 97, 46, 99, 32, 45, 111, 32, 97, 46, 111, 32, 45, 103]⟩, true, ⟨#[116, 119, 111]⟩⟩, ⟨[⟨#[98, 46, 111]⟩], [⟨#[98, 46, 99]⟩], [], [⟨#[97, 46, 111]⟩], ⟨#[99, 99, 32, 45, 111, 50, 32, 98, 46, 99, 32, 45, 111, 32, 98, 46, 111, 32]⟩, true, ⟨#[116, 119, 111]⟩⟩]
def wantP : List S44 := [⟨⟨#[116, 119, 111]⟩, 2⟩]
def wantD : List ByteArray := [⟨#[98, 46, 111]⟩]
def badR : ByteArray := ⟨#[114, 117, 108, 101, 32, 99, 99, 10]⟩
def badB : ByteArray := ⟨#[98, 117, 105, 108, 100, 32, 97, 32, 58, 32, 99, 99, 32, 98, 10]⟩
theorem parse_text : parseB textB = (wantE, wantP, wantD, 0) := by kernel_rfl
theorem parse_badR : parseB badR = ([], [], [], 800) := by kernel_rfl
theorem parse_badB : parseB badB = ([], [], [], 800) := by kernel_rfl
theorem same_want : cruciblelaw0_SameGraph.f 100 wantE wantP wantD wantE wantP wantD = some true := by kernel_rfl

/-- Rows of one and of two, as they lie. -/
theorem C_one {α : Type} {d : Kd α} {w : World} {g t : Nat} {cells : Array Value} {x : α} {cs : List Value} (h : w.heap[g]? = some (.cells cells t (0, 0))) (hK : d.K w x cs) (hc : cells.toList = cs) : d.C w (some ⟨g, 0, none⟩) 1 [x] := by
  refine ⟨rfl, by omega, fun _ => ⟨_, rfl, fun j p hj => ?_⟩⟩
  cases j with
  | zero =>
    simp only [List.getElem?_cons_zero, Option.some.injEq] at hj
    subst hj
    refine ⟨cs, d.K_len hK, hK, fun i u hi => ?_⟩
    have h1 := blk_cell h i
    have h2 : (⟨g, 0, none⟩ : Addr).add (0 * d.sz + i) = ⟨g, i, none⟩ := by simp [Addr.add]; try omega
    rw [h2, h1, ← hi, ← hc, Array.getElem?_toList]
  | succ j => simp at hj
theorem C_two {α : Type} {d : Kd α} {w : World} {g t : Nat} {cells : Array Value} {x y : α} {c1 c2 : List Value} (h : w.heap[g]? = some (.cells cells t (0, 0))) (hK1 : d.K w x c1) (hK2 : d.K w y c2) (hc : cells.toList = c1 ++ c2) : d.C w (some ⟨g, 0, none⟩) 2 [x, y] := by
  refine ⟨rfl, by omega, fun _ => ⟨_, rfl, fun j p hj => ?_⟩⟩
  have l1 := d.K_len hK1
  have l2 := d.K_len hK2
  match j, hj with
  | 0, hj =>
    simp only [List.getElem?_cons_zero, Option.some.injEq] at hj
    subst hj
    refine ⟨c1, l1, hK1, fun i u hi => ?_⟩
    have h1 := blk_cell h i
    have h2 : (⟨g, 0, none⟩ : Addr).add (0 * d.sz + i) = ⟨g, i, none⟩ := by simp [Addr.add]; try omega
    have h3 : i < c1.length := (List.getElem?_eq_some_iff.1 hi).1
    rw [h2, h1, ← Array.getElem?_toList, hc, List.getElem?_append_left h3]
    exact hi
  | 1, hj =>
    simp only [List.getElem?_cons_succ, List.getElem?_cons_zero, Option.some.injEq] at hj
    subst hj
    refine ⟨c2, l2, hK2, fun i u hi => ?_⟩
    have h1 := blk_cell h (d.sz + i)
    have h2 : (⟨g, 0, none⟩ : Addr).add (1 * d.sz + i) = ⟨g, d.sz + i, none⟩ := by simp [Addr.add]; try omega
    rw [h2, h1, ← Array.getElem?_toList, hc, List.getElem?_append_right (by omega)]
    rw [show d.sz + i - c1.length = i from by omega]
    exact hi
  | j + 2, hj => simp at hj

set_option maxHeartbeats 4000000 in
set_option maxRecDepth 100000 in
theorem awake_calls (w : World) : Calls Tryz.prog 15 #[] w fun e w' => e = .returned (.bool true) ∧ Below w.heap.size w w' := by
  have HT := Lib.hid (fun W => cruciblelaw8_text.calls textB W rfl)
  have H1 := Lib.hid (fun W => manifest_Parse.calls textB wantE wantP wantD 0 W (by unfold manifest_Parse.f; rw [if_pos (by decide), parse_text]))
  have H2 := Lib.hid (fun W => manifest_Parse.calls badR [] [] [] 800 W (by unfold manifest_Parse.f; rw [if_pos (by decide), parse_badR]))
  have H3 := Lib.hid (fun W => manifest_Parse.calls badB [] [] [] 800 W (by unfold manifest_Parse.f; rw [if_pos (by decide), parse_badB]))
  obtain ⟨T, hT⟩ : ∃ T, textB = T := ⟨_, rfl⟩
  obtain ⟨wE, hE⟩ : ∃ q, wantE = q := ⟨_, rfl⟩
  obtain ⟨wP, hP⟩ : ∃ q, wantP = q := ⟨_, rfl⟩
  obtain ⟨wD, hD⟩ : ∃ q, wantD = q := ⟨_, rfl⟩
  rw [hT] at HT H1
  rw [hE, hP, hD] at H1
  have HE := Lib.hid hE
  have HP := Lib.hid hP
  have HD := Lib.hid hD
  clear hT hE hP hD
  go_enter Tryz.func15, Tryz.ntmps15
  go_upto_region 5 with (first | (go_at_call 16; refine (HT.out _).mono ?_; rintro x w1 ⟨rfl, hd⟩; have HB1 := Aside0.mk hd.below; clear hd) | (go_at_call_of 10 (Value.string T); refine (H1.out _).mono ?_; rintro x w2 ⟨v0, v1, v2, rfl, r0, r1, r2, hb⟩; obtain ⟨A0, c0, rfl, l0, C0⟩ := Kd.R_reads r0; obtain ⟨A1, c1, rfl, l1, C1⟩ := Kd.R_reads r1; obtain ⟨A2, c2, rfl, l2, C2⟩ := Kd.R_reads r2; have HB2 := Aside0.mk (HB1.out.trans (hb.mono HB1.out.size)); have HC0 := Aside0.mk C0; have HC1 := Aside0.mk C1; have HC2 := Aside0.mk C2; clear r0 r1 r2 C0 C1 C2 hb) | (go_at_call_of 10 (Value.string ⟨#[114, 117, 108, 101, 32, 99, 99, 10]⟩); refine (H2.out _).mono ?_; rintro x w3 ⟨u0, u1, u2, rfl, r0, r1, r2, hb⟩; obtain ⟨D0, d0, rfl⟩ := Kd.R_slice r0; obtain ⟨D1, d1, rfl⟩ := Kd.R_slice r1; obtain ⟨D2, d2, rfl⟩ := Kd.R_slice r2; have hal := (Below.refl w2.heap.size w2).alloc (Nat.le_refl _) (.cells #[.slice A0 wE.length c0, .slice A1 wP.length c1, .slice A2 wD.length c2] 26); have HB3 := Aside0.mk (HB2.out.trans ((hal.mono HB2.out.size).trans (hb.mono (Nat.le_trans HB2.out.size hal.size)))); have BT3 := Aside0.mk (blk_below (blk_new w2 (.cells #[.slice A0 wE.length c0, .slice A1 wP.length c1, .slice A2 wD.length c2] 26)) hb); have HC03 := Aside0.mk (Kd.C_below (Kd.C_below HC0.out hal) hb); have HC13 := Aside0.mk (Kd.C_below (Kd.C_below HC1.out hal) hb); have HC23 := Aside0.mk (Kd.C_below (Kd.C_below HC2.out hal) hb); clear r0 r1 r2 hal hb HC0 HC1 HC2) | (go_at_call_of 10 (Value.string ⟨#[98, 117, 105, 108, 100, 32, 97, 32, 58, 32, 99, 99, 32, 98, 10]⟩); refine (H3.out _).mono ?_; rintro x w4 ⟨u0, u1, u2, rfl, r0, r1, r2, hb⟩; obtain ⟨F0, f0, rfl⟩ := Kd.R_slice r0; obtain ⟨F1, f1, rfl⟩ := Kd.R_slice r1; obtain ⟨F2, f2, rfl⟩ := Kd.R_slice r2; have hal := (Below.refl w3.heap.size w3).alloc (Nat.le_refl _) (.cells #[.slice D0 0 d0, .slice D1 0 d1, .slice D2 0 d2] 26); have HB4 := Aside0.mk (HB3.out.trans ((hal.mono HB3.out.size).trans (hb.mono (Nat.le_trans HB3.out.size hal.size)))); have BT4 := Aside0.mk (blk_below (blk_below BT3.out hal) hb); have HC04 := Aside0.mk (Kd.C_below (Kd.C_below HC03.out hal) hb); have HC14 := Aside0.mk (Kd.C_below (Kd.C_below HC13.out hal) hb); have HC24 := Aside0.mk (Kd.C_below (Kd.C_below HC23.out hal) hb); clear r0 r1 r2 hal hb HC03 HC13 HC23 BT3))
  obtain ⟨b, hb⟩ : ∃ b, w4.heap.size = b := ⟨_, rfl⟩
  rw [hb]
  have hb4 : w4.heap.size = b := hb
  have k0 : Aside0 ((w4.alloc (.cells #[.slice F0 0 f0, .slice F1 0 f1, .slice F2 0 f2] 26)).heap[b]? = some (.cells #[.slice F0 0 f0, .slice F1 0 f1, .slice F2 0 f2] 26)) := ⟨by have := blk_new w4 (.cells #[.slice F0 0 f0, .slice F1 0 f1, .slice F2 0 f2] 26); rwa [hb] at this⟩
  have s0 : (w4.alloc (.cells #[.slice F0 0 f0, .slice F1 0 f1, .slice F2 0 f2] 26)).heap.size = b + 1 := by simp [hb]
  replace HB4 := Aside0.mk (below_alloc HB4.out (.cells #[.slice F0 0 f0, .slice F1 0 f1, .slice F2 0 f2] 26))
  replace BT4 := Aside0.mk (blk_alloc BT4.out (.cells #[.slice F0 0 f0, .slice F1 0 f1, .slice F2 0 f2] 26))
  replace HC04 := Aside0.mk (Kd.C_alloc HC04.out (.cells #[.slice F0 0 f0, .slice F1 0 f1, .slice F2 0 f2] 26))
  replace HC14 := Aside0.mk (Kd.C_alloc HC14.out (.cells #[.slice F0 0 f0, .slice F1 0 f1, .slice F2 0 f2] 26))
  replace HC24 := Aside0.mk (Kd.C_alloc HC24.out (.cells #[.slice F0 0 f0, .slice F1 0 f1, .slice F2 0 f2] 26))
  clear k0
  generalize w4.alloc (.cells #[.slice F0 0 f0, .slice F1 0 f1, .slice F2 0 f2] 26) = u0 at s0 HB4 BT4 HC04 HC14 HC24 ⊢
  have k1 : Aside0 ((u0.alloc (.cells #[.string ⟨#[97, 46, 111]⟩] 9)).heap[b + 1]? = some (.cells #[.string ⟨#[97, 46, 111]⟩] 9)) := ⟨by have := blk_new u0 (.cells #[.string ⟨#[97, 46, 111]⟩] 9); rwa [s0] at this⟩
  have s1 : (u0.alloc (.cells #[.string ⟨#[97, 46, 111]⟩] 9)).heap.size = b + 1 + 1 := by simp [s0]
  replace HB4 := Aside0.mk (below_alloc HB4.out (.cells #[.string ⟨#[97, 46, 111]⟩] 9))
  replace BT4 := Aside0.mk (blk_alloc BT4.out (.cells #[.string ⟨#[97, 46, 111]⟩] 9))
  replace HC04 := Aside0.mk (Kd.C_alloc HC04.out (.cells #[.string ⟨#[97, 46, 111]⟩] 9))
  replace HC14 := Aside0.mk (Kd.C_alloc HC14.out (.cells #[.string ⟨#[97, 46, 111]⟩] 9))
  replace HC24 := Aside0.mk (Kd.C_alloc HC24.out (.cells #[.string ⟨#[97, 46, 111]⟩] 9))
  generalize u0.alloc (.cells #[.string ⟨#[97, 46, 111]⟩] 9) = u1 at k1 s1 HB4 BT4 HC04 HC14 HC24 ⊢
  have k2 : Aside0 ((u1.alloc (.cells #[.string ⟨#[97, 46, 99]⟩] 9)).heap[b + 1 + 1]? = some (.cells #[.string ⟨#[97, 46, 99]⟩] 9)) := ⟨by have := blk_new u1 (.cells #[.string ⟨#[97, 46, 99]⟩] 9); rwa [s1] at this⟩
  have s2 : (u1.alloc (.cells #[.string ⟨#[97, 46, 99]⟩] 9)).heap.size = b + 1 + 1 + 1 := by simp [s1]
  replace k1 := Aside0.mk (blk_alloc k1.out (.cells #[.string ⟨#[97, 46, 99]⟩] 9))
  replace HB4 := Aside0.mk (below_alloc HB4.out (.cells #[.string ⟨#[97, 46, 99]⟩] 9))
  replace BT4 := Aside0.mk (blk_alloc BT4.out (.cells #[.string ⟨#[97, 46, 99]⟩] 9))
  replace HC04 := Aside0.mk (Kd.C_alloc HC04.out (.cells #[.string ⟨#[97, 46, 99]⟩] 9))
  replace HC14 := Aside0.mk (Kd.C_alloc HC14.out (.cells #[.string ⟨#[97, 46, 99]⟩] 9))
  replace HC24 := Aside0.mk (Kd.C_alloc HC24.out (.cells #[.string ⟨#[97, 46, 99]⟩] 9))
  generalize u1.alloc (.cells #[.string ⟨#[97, 46, 99]⟩] 9) = u2 at k1 k2 s2 HB4 BT4 HC04 HC14 HC24 ⊢
  have k3 : Aside0 ((u2.alloc (.cells #[.string ⟨#[97, 46, 104]⟩] 9)).heap[b + 1 + 1 + 1]? = some (.cells #[.string ⟨#[97, 46, 104]⟩] 9)) := ⟨by have := blk_new u2 (.cells #[.string ⟨#[97, 46, 104]⟩] 9); rwa [s2] at this⟩
  have s3 : (u2.alloc (.cells #[.string ⟨#[97, 46, 104]⟩] 9)).heap.size = b + 1 + 1 + 1 + 1 := by simp [s2]
  replace k1 := Aside0.mk (blk_alloc k1.out (.cells #[.string ⟨#[97, 46, 104]⟩] 9))
  replace k2 := Aside0.mk (blk_alloc k2.out (.cells #[.string ⟨#[97, 46, 104]⟩] 9))
  replace HB4 := Aside0.mk (below_alloc HB4.out (.cells #[.string ⟨#[97, 46, 104]⟩] 9))
  replace BT4 := Aside0.mk (blk_alloc BT4.out (.cells #[.string ⟨#[97, 46, 104]⟩] 9))
  replace HC04 := Aside0.mk (Kd.C_alloc HC04.out (.cells #[.string ⟨#[97, 46, 104]⟩] 9))
  replace HC14 := Aside0.mk (Kd.C_alloc HC14.out (.cells #[.string ⟨#[97, 46, 104]⟩] 9))
  replace HC24 := Aside0.mk (Kd.C_alloc HC24.out (.cells #[.string ⟨#[97, 46, 104]⟩] 9))
  generalize u2.alloc (.cells #[.string ⟨#[97, 46, 104]⟩] 9) = u3 at k1 k2 k3 s3 HB4 BT4 HC04 HC14 HC24 ⊢
  have k4 : Aside0 ((u3.alloc (.cells #[.string ⟨#[98, 46, 111]⟩] 9)).heap[b + 1 + 1 + 1 + 1]? = some (.cells #[.string ⟨#[98, 46, 111]⟩] 9)) := ⟨by have := blk_new u3 (.cells #[.string ⟨#[98, 46, 111]⟩] 9); rwa [s3] at this⟩
  have s4 : (u3.alloc (.cells #[.string ⟨#[98, 46, 111]⟩] 9)).heap.size = b + 1 + 1 + 1 + 1 + 1 := by simp [s3]
  replace k1 := Aside0.mk (blk_alloc k1.out (.cells #[.string ⟨#[98, 46, 111]⟩] 9))
  replace k2 := Aside0.mk (blk_alloc k2.out (.cells #[.string ⟨#[98, 46, 111]⟩] 9))
  replace k3 := Aside0.mk (blk_alloc k3.out (.cells #[.string ⟨#[98, 46, 111]⟩] 9))
  replace HB4 := Aside0.mk (below_alloc HB4.out (.cells #[.string ⟨#[98, 46, 111]⟩] 9))
  replace BT4 := Aside0.mk (blk_alloc BT4.out (.cells #[.string ⟨#[98, 46, 111]⟩] 9))
  replace HC04 := Aside0.mk (Kd.C_alloc HC04.out (.cells #[.string ⟨#[98, 46, 111]⟩] 9))
  replace HC14 := Aside0.mk (Kd.C_alloc HC14.out (.cells #[.string ⟨#[98, 46, 111]⟩] 9))
  replace HC24 := Aside0.mk (Kd.C_alloc HC24.out (.cells #[.string ⟨#[98, 46, 111]⟩] 9))
  generalize u3.alloc (.cells #[.string ⟨#[98, 46, 111]⟩] 9) = u4 at k1 k2 k3 k4 s4 HB4 BT4 HC04 HC14 HC24 ⊢
  have k5 : Aside0 ((u4.alloc (.cells #[.string ⟨#[98, 46, 99]⟩] 9)).heap[b + 1 + 1 + 1 + 1 + 1]? = some (.cells #[.string ⟨#[98, 46, 99]⟩] 9)) := ⟨by have := blk_new u4 (.cells #[.string ⟨#[98, 46, 99]⟩] 9); rwa [s4] at this⟩
  have s5 : (u4.alloc (.cells #[.string ⟨#[98, 46, 99]⟩] 9)).heap.size = b + 1 + 1 + 1 + 1 + 1 + 1 := by simp [s4]
  replace k1 := Aside0.mk (blk_alloc k1.out (.cells #[.string ⟨#[98, 46, 99]⟩] 9))
  replace k2 := Aside0.mk (blk_alloc k2.out (.cells #[.string ⟨#[98, 46, 99]⟩] 9))
  replace k3 := Aside0.mk (blk_alloc k3.out (.cells #[.string ⟨#[98, 46, 99]⟩] 9))
  replace k4 := Aside0.mk (blk_alloc k4.out (.cells #[.string ⟨#[98, 46, 99]⟩] 9))
  replace HB4 := Aside0.mk (below_alloc HB4.out (.cells #[.string ⟨#[98, 46, 99]⟩] 9))
  replace BT4 := Aside0.mk (blk_alloc BT4.out (.cells #[.string ⟨#[98, 46, 99]⟩] 9))
  replace HC04 := Aside0.mk (Kd.C_alloc HC04.out (.cells #[.string ⟨#[98, 46, 99]⟩] 9))
  replace HC14 := Aside0.mk (Kd.C_alloc HC14.out (.cells #[.string ⟨#[98, 46, 99]⟩] 9))
  replace HC24 := Aside0.mk (Kd.C_alloc HC24.out (.cells #[.string ⟨#[98, 46, 99]⟩] 9))
  generalize u4.alloc (.cells #[.string ⟨#[98, 46, 99]⟩] 9) = u5 at k1 k2 k3 k4 k5 s5 HB4 BT4 HC04 HC14 HC24 ⊢
  have k6 : Aside0 ((u5.alloc (.cells #[.string ⟨#[97, 46, 111]⟩] 9)).heap[b + 1 + 1 + 1 + 1 + 1 + 1]? = some (.cells #[.string ⟨#[97, 46, 111]⟩] 9)) := ⟨by have := blk_new u5 (.cells #[.string ⟨#[97, 46, 111]⟩] 9); rwa [s5] at this⟩
  have s6 : (u5.alloc (.cells #[.string ⟨#[97, 46, 111]⟩] 9)).heap.size = b + 1 + 1 + 1 + 1 + 1 + 1 + 1 := by simp [s5]
  replace k1 := Aside0.mk (blk_alloc k1.out (.cells #[.string ⟨#[97, 46, 111]⟩] 9))
  replace k2 := Aside0.mk (blk_alloc k2.out (.cells #[.string ⟨#[97, 46, 111]⟩] 9))
  replace k3 := Aside0.mk (blk_alloc k3.out (.cells #[.string ⟨#[97, 46, 111]⟩] 9))
  replace k4 := Aside0.mk (blk_alloc k4.out (.cells #[.string ⟨#[97, 46, 111]⟩] 9))
  replace k5 := Aside0.mk (blk_alloc k5.out (.cells #[.string ⟨#[97, 46, 111]⟩] 9))
  replace HB4 := Aside0.mk (below_alloc HB4.out (.cells #[.string ⟨#[97, 46, 111]⟩] 9))
  replace BT4 := Aside0.mk (blk_alloc BT4.out (.cells #[.string ⟨#[97, 46, 111]⟩] 9))
  replace HC04 := Aside0.mk (Kd.C_alloc HC04.out (.cells #[.string ⟨#[97, 46, 111]⟩] 9))
  replace HC14 := Aside0.mk (Kd.C_alloc HC14.out (.cells #[.string ⟨#[97, 46, 111]⟩] 9))
  replace HC24 := Aside0.mk (Kd.C_alloc HC24.out (.cells #[.string ⟨#[97, 46, 111]⟩] 9))
  generalize u5.alloc (.cells #[.string ⟨#[97, 46, 111]⟩] 9) = u6 at k1 k2 k3 k4 k5 k6 s6 HB4 BT4 HC04 HC14 HC24 ⊢
  have k7 : Aside0 ((u6.alloc (.cells #[.slice (some ⟨b + 1, 0, none⟩) 1 1, .slice (some ⟨b + 1 + 1, 0, none⟩) 1 1, .slice (some ⟨b + 1 + 1 + 1, 0, none⟩) 1 1, .slice none 0 0, .string ⟨#[99, 99, 32, 45, 111, 50, 32, 97, 46, 99, 32, 45, 111, 32, 97, 46, 111, 32, 45, 103]⟩, .bool true, .string ⟨#[116, 119, 111]⟩, .slice (some ⟨b + 1 + 1 + 1 + 1, 0, none⟩) 1 1, .slice (some ⟨b + 1 + 1 + 1 + 1 + 1, 0, none⟩) 1 1, .slice none 0 0, .slice (some ⟨b + 1 + 1 + 1 + 1 + 1 + 1, 0, none⟩) 1 1, .string ⟨#[99, 99, 32, 45, 111, 50, 32, 98, 46, 99, 32, 45, 111, 32, 98, 46, 111, 32]⟩, .bool true, .string ⟨#[116, 119, 111]⟩] 42)).heap[b + 1 + 1 + 1 + 1 + 1 + 1 + 1]? = some (.cells #[.slice (some ⟨b + 1, 0, none⟩) 1 1, .slice (some ⟨b + 1 + 1, 0, none⟩) 1 1, .slice (some ⟨b + 1 + 1 + 1, 0, none⟩) 1 1, .slice none 0 0, .string ⟨#[99, 99, 32, 45, 111, 50, 32, 97, 46, 99, 32, 45, 111, 32, 97, 46, 111, 32, 45, 103]⟩, .bool true, .string ⟨#[116, 119, 111]⟩, .slice (some ⟨b + 1 + 1 + 1 + 1, 0, none⟩) 1 1, .slice (some ⟨b + 1 + 1 + 1 + 1 + 1, 0, none⟩) 1 1, .slice none 0 0, .slice (some ⟨b + 1 + 1 + 1 + 1 + 1 + 1, 0, none⟩) 1 1, .string ⟨#[99, 99, 32, 45, 111, 50, 32, 98, 46, 99, 32, 45, 111, 32, 98, 46, 111, 32]⟩, .bool true, .string ⟨#[116, 119, 111]⟩] 42)) := ⟨by have := blk_new u6 (.cells #[.slice (some ⟨b + 1, 0, none⟩) 1 1, .slice (some ⟨b + 1 + 1, 0, none⟩) 1 1, .slice (some ⟨b + 1 + 1 + 1, 0, none⟩) 1 1, .slice none 0 0, .string ⟨#[99, 99, 32, 45, 111, 50, 32, 97, 46, 99, 32, 45, 111, 32, 97, 46, 111, 32, 45, 103]⟩, .bool true, .string ⟨#[116, 119, 111]⟩, .slice (some ⟨b + 1 + 1 + 1 + 1, 0, none⟩) 1 1, .slice (some ⟨b + 1 + 1 + 1 + 1 + 1, 0, none⟩) 1 1, .slice none 0 0, .slice (some ⟨b + 1 + 1 + 1 + 1 + 1 + 1, 0, none⟩) 1 1, .string ⟨#[99, 99, 32, 45, 111, 50, 32, 98, 46, 99, 32, 45, 111, 32, 98, 46, 111, 32]⟩, .bool true, .string ⟨#[116, 119, 111]⟩] 42); rwa [s6] at this⟩
  have s7 : (u6.alloc (.cells #[.slice (some ⟨b + 1, 0, none⟩) 1 1, .slice (some ⟨b + 1 + 1, 0, none⟩) 1 1, .slice (some ⟨b + 1 + 1 + 1, 0, none⟩) 1 1, .slice none 0 0, .string ⟨#[99, 99, 32, 45, 111, 50, 32, 97, 46, 99, 32, 45, 111, 32, 97, 46, 111, 32, 45, 103]⟩, .bool true, .string ⟨#[116, 119, 111]⟩, .slice (some ⟨b + 1 + 1 + 1 + 1, 0, none⟩) 1 1, .slice (some ⟨b + 1 + 1 + 1 + 1 + 1, 0, none⟩) 1 1, .slice none 0 0, .slice (some ⟨b + 1 + 1 + 1 + 1 + 1 + 1, 0, none⟩) 1 1, .string ⟨#[99, 99, 32, 45, 111, 50, 32, 98, 46, 99, 32, 45, 111, 32, 98, 46, 111, 32]⟩, .bool true, .string ⟨#[116, 119, 111]⟩] 42)).heap.size = b + 1 + 1 + 1 + 1 + 1 + 1 + 1 + 1 := by simp [s6]
  replace k1 := Aside0.mk (blk_alloc k1.out (.cells #[.slice (some ⟨b + 1, 0, none⟩) 1 1, .slice (some ⟨b + 1 + 1, 0, none⟩) 1 1, .slice (some ⟨b + 1 + 1 + 1, 0, none⟩) 1 1, .slice none 0 0, .string ⟨#[99, 99, 32, 45, 111, 50, 32, 97, 46, 99, 32, 45, 111, 32, 97, 46, 111, 32, 45, 103]⟩, .bool true, .string ⟨#[116, 119, 111]⟩, .slice (some ⟨b + 1 + 1 + 1 + 1, 0, none⟩) 1 1, .slice (some ⟨b + 1 + 1 + 1 + 1 + 1, 0, none⟩) 1 1, .slice none 0 0, .slice (some ⟨b + 1 + 1 + 1 + 1 + 1 + 1, 0, none⟩) 1 1, .string ⟨#[99, 99, 32, 45, 111, 50, 32, 98, 46, 99, 32, 45, 111, 32, 98, 46, 111, 32]⟩, .bool true, .string ⟨#[116, 119, 111]⟩] 42))
  replace k2 := Aside0.mk (blk_alloc k2.out (.cells #[.slice (some ⟨b + 1, 0, none⟩) 1 1, .slice (some ⟨b + 1 + 1, 0, none⟩) 1 1, .slice (some ⟨b + 1 + 1 + 1, 0, none⟩) 1 1, .slice none 0 0, .string ⟨#[99, 99, 32, 45, 111, 50, 32, 97, 46, 99, 32, 45, 111, 32, 97, 46, 111, 32, 45, 103]⟩, .bool true, .string ⟨#[116, 119, 111]⟩, .slice (some ⟨b + 1 + 1 + 1 + 1, 0, none⟩) 1 1, .slice (some ⟨b + 1 + 1 + 1 + 1 + 1, 0, none⟩) 1 1, .slice none 0 0, .slice (some ⟨b + 1 + 1 + 1 + 1 + 1 + 1, 0, none⟩) 1 1, .string ⟨#[99, 99, 32, 45, 111, 50, 32, 98, 46, 99, 32, 45, 111, 32, 98, 46, 111, 32]⟩, .bool true, .string ⟨#[116, 119, 111]⟩] 42))
  replace k3 := Aside0.mk (blk_alloc k3.out (.cells #[.slice (some ⟨b + 1, 0, none⟩) 1 1, .slice (some ⟨b + 1 + 1, 0, none⟩) 1 1, .slice (some ⟨b + 1 + 1 + 1, 0, none⟩) 1 1, .slice none 0 0, .string ⟨#[99, 99, 32, 45, 111, 50, 32, 97, 46, 99, 32, 45, 111, 32, 97, 46, 111, 32, 45, 103]⟩, .bool true, .string ⟨#[116, 119, 111]⟩, .slice (some ⟨b + 1 + 1 + 1 + 1, 0, none⟩) 1 1, .slice (some ⟨b + 1 + 1 + 1 + 1 + 1, 0, none⟩) 1 1, .slice none 0 0, .slice (some ⟨b + 1 + 1 + 1 + 1 + 1 + 1, 0, none⟩) 1 1, .string ⟨#[99, 99, 32, 45, 111, 50, 32, 98, 46, 99, 32, 45, 111, 32, 98, 46, 111, 32]⟩, .bool true, .string ⟨#[116, 119, 111]⟩] 42))
  replace k4 := Aside0.mk (blk_alloc k4.out (.cells #[.slice (some ⟨b + 1, 0, none⟩) 1 1, .slice (some ⟨b + 1 + 1, 0, none⟩) 1 1, .slice (some ⟨b + 1 + 1 + 1, 0, none⟩) 1 1, .slice none 0 0, .string ⟨#[99, 99, 32, 45, 111, 50, 32, 97, 46, 99, 32, 45, 111, 32, 97, 46, 111, 32, 45, 103]⟩, .bool true, .string ⟨#[116, 119, 111]⟩, .slice (some ⟨b + 1 + 1 + 1 + 1, 0, none⟩) 1 1, .slice (some ⟨b + 1 + 1 + 1 + 1 + 1, 0, none⟩) 1 1, .slice none 0 0, .slice (some ⟨b + 1 + 1 + 1 + 1 + 1 + 1, 0, none⟩) 1 1, .string ⟨#[99, 99, 32, 45, 111, 50, 32, 98, 46, 99, 32, 45, 111, 32, 98, 46, 111, 32]⟩, .bool true, .string ⟨#[116, 119, 111]⟩] 42))
  replace k5 := Aside0.mk (blk_alloc k5.out (.cells #[.slice (some ⟨b + 1, 0, none⟩) 1 1, .slice (some ⟨b + 1 + 1, 0, none⟩) 1 1, .slice (some ⟨b + 1 + 1 + 1, 0, none⟩) 1 1, .slice none 0 0, .string ⟨#[99, 99, 32, 45, 111, 50, 32, 97, 46, 99, 32, 45, 111, 32, 97, 46, 111, 32, 45, 103]⟩, .bool true, .string ⟨#[116, 119, 111]⟩, .slice (some ⟨b + 1 + 1 + 1 + 1, 0, none⟩) 1 1, .slice (some ⟨b + 1 + 1 + 1 + 1 + 1, 0, none⟩) 1 1, .slice none 0 0, .slice (some ⟨b + 1 + 1 + 1 + 1 + 1 + 1, 0, none⟩) 1 1, .string ⟨#[99, 99, 32, 45, 111, 50, 32, 98, 46, 99, 32, 45, 111, 32, 98, 46, 111, 32]⟩, .bool true, .string ⟨#[116, 119, 111]⟩] 42))
  replace k6 := Aside0.mk (blk_alloc k6.out (.cells #[.slice (some ⟨b + 1, 0, none⟩) 1 1, .slice (some ⟨b + 1 + 1, 0, none⟩) 1 1, .slice (some ⟨b + 1 + 1 + 1, 0, none⟩) 1 1, .slice none 0 0, .string ⟨#[99, 99, 32, 45, 111, 50, 32, 97, 46, 99, 32, 45, 111, 32, 97, 46, 111, 32, 45, 103]⟩, .bool true, .string ⟨#[116, 119, 111]⟩, .slice (some ⟨b + 1 + 1 + 1 + 1, 0, none⟩) 1 1, .slice (some ⟨b + 1 + 1 + 1 + 1 + 1, 0, none⟩) 1 1, .slice none 0 0, .slice (some ⟨b + 1 + 1 + 1 + 1 + 1 + 1, 0, none⟩) 1 1, .string ⟨#[99, 99, 32, 45, 111, 50, 32, 98, 46, 99, 32, 45, 111, 32, 98, 46, 111, 32]⟩, .bool true, .string ⟨#[116, 119, 111]⟩] 42))
  replace HB4 := Aside0.mk (below_alloc HB4.out (.cells #[.slice (some ⟨b + 1, 0, none⟩) 1 1, .slice (some ⟨b + 1 + 1, 0, none⟩) 1 1, .slice (some ⟨b + 1 + 1 + 1, 0, none⟩) 1 1, .slice none 0 0, .string ⟨#[99, 99, 32, 45, 111, 50, 32, 97, 46, 99, 32, 45, 111, 32, 97, 46, 111, 32, 45, 103]⟩, .bool true, .string ⟨#[116, 119, 111]⟩, .slice (some ⟨b + 1 + 1 + 1 + 1, 0, none⟩) 1 1, .slice (some ⟨b + 1 + 1 + 1 + 1 + 1, 0, none⟩) 1 1, .slice none 0 0, .slice (some ⟨b + 1 + 1 + 1 + 1 + 1 + 1, 0, none⟩) 1 1, .string ⟨#[99, 99, 32, 45, 111, 50, 32, 98, 46, 99, 32, 45, 111, 32, 98, 46, 111, 32]⟩, .bool true, .string ⟨#[116, 119, 111]⟩] 42))
  replace BT4 := Aside0.mk (blk_alloc BT4.out (.cells #[.slice (some ⟨b + 1, 0, none⟩) 1 1, .slice (some ⟨b + 1 + 1, 0, none⟩) 1 1, .slice (some ⟨b + 1 + 1 + 1, 0, none⟩) 1 1, .slice none 0 0, .string ⟨#[99, 99, 32, 45, 111, 50, 32, 97, 46, 99, 32, 45, 111, 32, 97, 46, 111, 32, 45, 103]⟩, .bool true, .string ⟨#[116, 119, 111]⟩, .slice (some ⟨b + 1 + 1 + 1 + 1, 0, none⟩) 1 1, .slice (some ⟨b + 1 + 1 + 1 + 1 + 1, 0, none⟩) 1 1, .slice none 0 0, .slice (some ⟨b + 1 + 1 + 1 + 1 + 1 + 1, 0, none⟩) 1 1, .string ⟨#[99, 99, 32, 45, 111, 50, 32, 98, 46, 99, 32, 45, 111, 32, 98, 46, 111, 32]⟩, .bool true, .string ⟨#[116, 119, 111]⟩] 42))
  replace HC04 := Aside0.mk (Kd.C_alloc HC04.out (.cells #[.slice (some ⟨b + 1, 0, none⟩) 1 1, .slice (some ⟨b + 1 + 1, 0, none⟩) 1 1, .slice (some ⟨b + 1 + 1 + 1, 0, none⟩) 1 1, .slice none 0 0, .string ⟨#[99, 99, 32, 45, 111, 50, 32, 97, 46, 99, 32, 45, 111, 32, 97, 46, 111, 32, 45, 103]⟩, .bool true, .string ⟨#[116, 119, 111]⟩, .slice (some ⟨b + 1 + 1 + 1 + 1, 0, none⟩) 1 1, .slice (some ⟨b + 1 + 1 + 1 + 1 + 1, 0, none⟩) 1 1, .slice none 0 0, .slice (some ⟨b + 1 + 1 + 1 + 1 + 1 + 1, 0, none⟩) 1 1, .string ⟨#[99, 99, 32, 45, 111, 50, 32, 98, 46, 99, 32, 45, 111, 32, 98, 46, 111, 32]⟩, .bool true, .string ⟨#[116, 119, 111]⟩] 42))
  replace HC14 := Aside0.mk (Kd.C_alloc HC14.out (.cells #[.slice (some ⟨b + 1, 0, none⟩) 1 1, .slice (some ⟨b + 1 + 1, 0, none⟩) 1 1, .slice (some ⟨b + 1 + 1 + 1, 0, none⟩) 1 1, .slice none 0 0, .string ⟨#[99, 99, 32, 45, 111, 50, 32, 97, 46, 99, 32, 45, 111, 32, 97, 46, 111, 32, 45, 103]⟩, .bool true, .string ⟨#[116, 119, 111]⟩, .slice (some ⟨b + 1 + 1 + 1 + 1, 0, none⟩) 1 1, .slice (some ⟨b + 1 + 1 + 1 + 1 + 1, 0, none⟩) 1 1, .slice none 0 0, .slice (some ⟨b + 1 + 1 + 1 + 1 + 1 + 1, 0, none⟩) 1 1, .string ⟨#[99, 99, 32, 45, 111, 50, 32, 98, 46, 99, 32, 45, 111, 32, 98, 46, 111, 32]⟩, .bool true, .string ⟨#[116, 119, 111]⟩] 42))
  replace HC24 := Aside0.mk (Kd.C_alloc HC24.out (.cells #[.slice (some ⟨b + 1, 0, none⟩) 1 1, .slice (some ⟨b + 1 + 1, 0, none⟩) 1 1, .slice (some ⟨b + 1 + 1 + 1, 0, none⟩) 1 1, .slice none 0 0, .string ⟨#[99, 99, 32, 45, 111, 50, 32, 97, 46, 99, 32, 45, 111, 32, 97, 46, 111, 32, 45, 103]⟩, .bool true, .string ⟨#[116, 119, 111]⟩, .slice (some ⟨b + 1 + 1 + 1 + 1, 0, none⟩) 1 1, .slice (some ⟨b + 1 + 1 + 1 + 1 + 1, 0, none⟩) 1 1, .slice none 0 0, .slice (some ⟨b + 1 + 1 + 1 + 1 + 1 + 1, 0, none⟩) 1 1, .string ⟨#[99, 99, 32, 45, 111, 50, 32, 98, 46, 99, 32, 45, 111, 32, 98, 46, 111, 32]⟩, .bool true, .string ⟨#[116, 119, 111]⟩] 42))
  generalize u6.alloc (.cells #[.slice (some ⟨b + 1, 0, none⟩) 1 1, .slice (some ⟨b + 1 + 1, 0, none⟩) 1 1, .slice (some ⟨b + 1 + 1 + 1, 0, none⟩) 1 1, .slice none 0 0, .string ⟨#[99, 99, 32, 45, 111, 50, 32, 97, 46, 99, 32, 45, 111, 32, 97, 46, 111, 32, 45, 103]⟩, .bool true, .string ⟨#[116, 119, 111]⟩, .slice (some ⟨b + 1 + 1 + 1 + 1, 0, none⟩) 1 1, .slice (some ⟨b + 1 + 1 + 1 + 1 + 1, 0, none⟩) 1 1, .slice none 0 0, .slice (some ⟨b + 1 + 1 + 1 + 1 + 1 + 1, 0, none⟩) 1 1, .string ⟨#[99, 99, 32, 45, 111, 50, 32, 98, 46, 99, 32, 45, 111, 32, 98, 46, 111, 32]⟩, .bool true, .string ⟨#[116, 119, 111]⟩] 42) = u7 at k1 k2 k3 k4 k5 k6 k7 s7 HB4 BT4 HC04 HC14 HC24 ⊢
  have k8 : Aside0 ((u7.alloc (.cells #[.string ⟨#[116, 119, 111]⟩, .int .i64 2] 44)).heap[b + 1 + 1 + 1 + 1 + 1 + 1 + 1 + 1]? = some (.cells #[.string ⟨#[116, 119, 111]⟩, .int .i64 2] 44)) := ⟨by have := blk_new u7 (.cells #[.string ⟨#[116, 119, 111]⟩, .int .i64 2] 44); rwa [s7] at this⟩
  have s8 : (u7.alloc (.cells #[.string ⟨#[116, 119, 111]⟩, .int .i64 2] 44)).heap.size = b + 1 + 1 + 1 + 1 + 1 + 1 + 1 + 1 + 1 := by simp [s7]
  replace k1 := Aside0.mk (blk_alloc k1.out (.cells #[.string ⟨#[116, 119, 111]⟩, .int .i64 2] 44))
  replace k2 := Aside0.mk (blk_alloc k2.out (.cells #[.string ⟨#[116, 119, 111]⟩, .int .i64 2] 44))
  replace k3 := Aside0.mk (blk_alloc k3.out (.cells #[.string ⟨#[116, 119, 111]⟩, .int .i64 2] 44))
  replace k4 := Aside0.mk (blk_alloc k4.out (.cells #[.string ⟨#[116, 119, 111]⟩, .int .i64 2] 44))
  replace k5 := Aside0.mk (blk_alloc k5.out (.cells #[.string ⟨#[116, 119, 111]⟩, .int .i64 2] 44))
  replace k6 := Aside0.mk (blk_alloc k6.out (.cells #[.string ⟨#[116, 119, 111]⟩, .int .i64 2] 44))
  replace k7 := Aside0.mk (blk_alloc k7.out (.cells #[.string ⟨#[116, 119, 111]⟩, .int .i64 2] 44))
  replace HB4 := Aside0.mk (below_alloc HB4.out (.cells #[.string ⟨#[116, 119, 111]⟩, .int .i64 2] 44))
  replace BT4 := Aside0.mk (blk_alloc BT4.out (.cells #[.string ⟨#[116, 119, 111]⟩, .int .i64 2] 44))
  replace HC04 := Aside0.mk (Kd.C_alloc HC04.out (.cells #[.string ⟨#[116, 119, 111]⟩, .int .i64 2] 44))
  replace HC14 := Aside0.mk (Kd.C_alloc HC14.out (.cells #[.string ⟨#[116, 119, 111]⟩, .int .i64 2] 44))
  replace HC24 := Aside0.mk (Kd.C_alloc HC24.out (.cells #[.string ⟨#[116, 119, 111]⟩, .int .i64 2] 44))
  generalize u7.alloc (.cells #[.string ⟨#[116, 119, 111]⟩, .int .i64 2] 44) = u8 at k1 k2 k3 k4 k5 k6 k7 k8 s8 HB4 BT4 HC04 HC14 HC24 ⊢
  have k9 : Aside0 ((u8.alloc (.cells #[.string ⟨#[98, 46, 111]⟩] 9)).heap[b + 1 + 1 + 1 + 1 + 1 + 1 + 1 + 1 + 1]? = some (.cells #[.string ⟨#[98, 46, 111]⟩] 9)) := ⟨by have := blk_new u8 (.cells #[.string ⟨#[98, 46, 111]⟩] 9); rwa [s8] at this⟩
  have s9 : (u8.alloc (.cells #[.string ⟨#[98, 46, 111]⟩] 9)).heap.size = b + 1 + 1 + 1 + 1 + 1 + 1 + 1 + 1 + 1 + 1 := by simp [s8]
  replace k1 := Aside0.mk (blk_alloc k1.out (.cells #[.string ⟨#[98, 46, 111]⟩] 9))
  replace k2 := Aside0.mk (blk_alloc k2.out (.cells #[.string ⟨#[98, 46, 111]⟩] 9))
  replace k3 := Aside0.mk (blk_alloc k3.out (.cells #[.string ⟨#[98, 46, 111]⟩] 9))
  replace k4 := Aside0.mk (blk_alloc k4.out (.cells #[.string ⟨#[98, 46, 111]⟩] 9))
  replace k5 := Aside0.mk (blk_alloc k5.out (.cells #[.string ⟨#[98, 46, 111]⟩] 9))
  replace k6 := Aside0.mk (blk_alloc k6.out (.cells #[.string ⟨#[98, 46, 111]⟩] 9))
  replace k7 := Aside0.mk (blk_alloc k7.out (.cells #[.string ⟨#[98, 46, 111]⟩] 9))
  replace k8 := Aside0.mk (blk_alloc k8.out (.cells #[.string ⟨#[98, 46, 111]⟩] 9))
  replace HB4 := Aside0.mk (below_alloc HB4.out (.cells #[.string ⟨#[98, 46, 111]⟩] 9))
  replace BT4 := Aside0.mk (blk_alloc BT4.out (.cells #[.string ⟨#[98, 46, 111]⟩] 9))
  replace HC04 := Aside0.mk (Kd.C_alloc HC04.out (.cells #[.string ⟨#[98, 46, 111]⟩] 9))
  replace HC14 := Aside0.mk (Kd.C_alloc HC14.out (.cells #[.string ⟨#[98, 46, 111]⟩] 9))
  replace HC24 := Aside0.mk (Kd.C_alloc HC24.out (.cells #[.string ⟨#[98, 46, 111]⟩] 9))
  generalize u8.alloc (.cells #[.string ⟨#[98, 46, 111]⟩] 9) = u9 at k1 k2 k3 k4 k5 k6 k7 k8 k9 s9 HB4 BT4 HC04 HC14 HC24 ⊢
  have k10 : Aside0 ((u9.alloc (.cells #[.slice (some ⟨b + 1 + 1 + 1 + 1 + 1 + 1 + 1, 0, none⟩) 2 2, .slice (some ⟨b + 1 + 1 + 1 + 1 + 1 + 1 + 1 + 1, 0, none⟩) 1 1, .slice (some ⟨b + 1 + 1 + 1 + 1 + 1 + 1 + 1 + 1 + 1, 0, none⟩) 1 1] 26)).heap[b + 1 + 1 + 1 + 1 + 1 + 1 + 1 + 1 + 1 + 1]? = some (.cells #[.slice (some ⟨b + 1 + 1 + 1 + 1 + 1 + 1 + 1, 0, none⟩) 2 2, .slice (some ⟨b + 1 + 1 + 1 + 1 + 1 + 1 + 1 + 1, 0, none⟩) 1 1, .slice (some ⟨b + 1 + 1 + 1 + 1 + 1 + 1 + 1 + 1 + 1, 0, none⟩) 1 1] 26)) := ⟨by have := blk_new u9 (.cells #[.slice (some ⟨b + 1 + 1 + 1 + 1 + 1 + 1 + 1, 0, none⟩) 2 2, .slice (some ⟨b + 1 + 1 + 1 + 1 + 1 + 1 + 1 + 1, 0, none⟩) 1 1, .slice (some ⟨b + 1 + 1 + 1 + 1 + 1 + 1 + 1 + 1 + 1, 0, none⟩) 1 1] 26); rwa [s9] at this⟩
  have s10 : (u9.alloc (.cells #[.slice (some ⟨b + 1 + 1 + 1 + 1 + 1 + 1 + 1, 0, none⟩) 2 2, .slice (some ⟨b + 1 + 1 + 1 + 1 + 1 + 1 + 1 + 1, 0, none⟩) 1 1, .slice (some ⟨b + 1 + 1 + 1 + 1 + 1 + 1 + 1 + 1 + 1, 0, none⟩) 1 1] 26)).heap.size = b + 1 + 1 + 1 + 1 + 1 + 1 + 1 + 1 + 1 + 1 + 1 := by simp [s9]
  replace k1 := Aside0.mk (blk_alloc k1.out (.cells #[.slice (some ⟨b + 1 + 1 + 1 + 1 + 1 + 1 + 1, 0, none⟩) 2 2, .slice (some ⟨b + 1 + 1 + 1 + 1 + 1 + 1 + 1 + 1, 0, none⟩) 1 1, .slice (some ⟨b + 1 + 1 + 1 + 1 + 1 + 1 + 1 + 1 + 1, 0, none⟩) 1 1] 26))
  replace k2 := Aside0.mk (blk_alloc k2.out (.cells #[.slice (some ⟨b + 1 + 1 + 1 + 1 + 1 + 1 + 1, 0, none⟩) 2 2, .slice (some ⟨b + 1 + 1 + 1 + 1 + 1 + 1 + 1 + 1, 0, none⟩) 1 1, .slice (some ⟨b + 1 + 1 + 1 + 1 + 1 + 1 + 1 + 1 + 1, 0, none⟩) 1 1] 26))
  replace k3 := Aside0.mk (blk_alloc k3.out (.cells #[.slice (some ⟨b + 1 + 1 + 1 + 1 + 1 + 1 + 1, 0, none⟩) 2 2, .slice (some ⟨b + 1 + 1 + 1 + 1 + 1 + 1 + 1 + 1, 0, none⟩) 1 1, .slice (some ⟨b + 1 + 1 + 1 + 1 + 1 + 1 + 1 + 1 + 1, 0, none⟩) 1 1] 26))
  replace k4 := Aside0.mk (blk_alloc k4.out (.cells #[.slice (some ⟨b + 1 + 1 + 1 + 1 + 1 + 1 + 1, 0, none⟩) 2 2, .slice (some ⟨b + 1 + 1 + 1 + 1 + 1 + 1 + 1 + 1, 0, none⟩) 1 1, .slice (some ⟨b + 1 + 1 + 1 + 1 + 1 + 1 + 1 + 1 + 1, 0, none⟩) 1 1] 26))
  replace k5 := Aside0.mk (blk_alloc k5.out (.cells #[.slice (some ⟨b + 1 + 1 + 1 + 1 + 1 + 1 + 1, 0, none⟩) 2 2, .slice (some ⟨b + 1 + 1 + 1 + 1 + 1 + 1 + 1 + 1, 0, none⟩) 1 1, .slice (some ⟨b + 1 + 1 + 1 + 1 + 1 + 1 + 1 + 1 + 1, 0, none⟩) 1 1] 26))
  replace k6 := Aside0.mk (blk_alloc k6.out (.cells #[.slice (some ⟨b + 1 + 1 + 1 + 1 + 1 + 1 + 1, 0, none⟩) 2 2, .slice (some ⟨b + 1 + 1 + 1 + 1 + 1 + 1 + 1 + 1, 0, none⟩) 1 1, .slice (some ⟨b + 1 + 1 + 1 + 1 + 1 + 1 + 1 + 1 + 1, 0, none⟩) 1 1] 26))
  replace k7 := Aside0.mk (blk_alloc k7.out (.cells #[.slice (some ⟨b + 1 + 1 + 1 + 1 + 1 + 1 + 1, 0, none⟩) 2 2, .slice (some ⟨b + 1 + 1 + 1 + 1 + 1 + 1 + 1 + 1, 0, none⟩) 1 1, .slice (some ⟨b + 1 + 1 + 1 + 1 + 1 + 1 + 1 + 1 + 1, 0, none⟩) 1 1] 26))
  replace k8 := Aside0.mk (blk_alloc k8.out (.cells #[.slice (some ⟨b + 1 + 1 + 1 + 1 + 1 + 1 + 1, 0, none⟩) 2 2, .slice (some ⟨b + 1 + 1 + 1 + 1 + 1 + 1 + 1 + 1, 0, none⟩) 1 1, .slice (some ⟨b + 1 + 1 + 1 + 1 + 1 + 1 + 1 + 1 + 1, 0, none⟩) 1 1] 26))
  replace k9 := Aside0.mk (blk_alloc k9.out (.cells #[.slice (some ⟨b + 1 + 1 + 1 + 1 + 1 + 1 + 1, 0, none⟩) 2 2, .slice (some ⟨b + 1 + 1 + 1 + 1 + 1 + 1 + 1 + 1, 0, none⟩) 1 1, .slice (some ⟨b + 1 + 1 + 1 + 1 + 1 + 1 + 1 + 1 + 1, 0, none⟩) 1 1] 26))
  replace HB4 := Aside0.mk (below_alloc HB4.out (.cells #[.slice (some ⟨b + 1 + 1 + 1 + 1 + 1 + 1 + 1, 0, none⟩) 2 2, .slice (some ⟨b + 1 + 1 + 1 + 1 + 1 + 1 + 1 + 1, 0, none⟩) 1 1, .slice (some ⟨b + 1 + 1 + 1 + 1 + 1 + 1 + 1 + 1 + 1, 0, none⟩) 1 1] 26))
  replace BT4 := Aside0.mk (blk_alloc BT4.out (.cells #[.slice (some ⟨b + 1 + 1 + 1 + 1 + 1 + 1 + 1, 0, none⟩) 2 2, .slice (some ⟨b + 1 + 1 + 1 + 1 + 1 + 1 + 1 + 1, 0, none⟩) 1 1, .slice (some ⟨b + 1 + 1 + 1 + 1 + 1 + 1 + 1 + 1 + 1, 0, none⟩) 1 1] 26))
  replace HC04 := Aside0.mk (Kd.C_alloc HC04.out (.cells #[.slice (some ⟨b + 1 + 1 + 1 + 1 + 1 + 1 + 1, 0, none⟩) 2 2, .slice (some ⟨b + 1 + 1 + 1 + 1 + 1 + 1 + 1 + 1, 0, none⟩) 1 1, .slice (some ⟨b + 1 + 1 + 1 + 1 + 1 + 1 + 1 + 1 + 1, 0, none⟩) 1 1] 26))
  replace HC14 := Aside0.mk (Kd.C_alloc HC14.out (.cells #[.slice (some ⟨b + 1 + 1 + 1 + 1 + 1 + 1 + 1, 0, none⟩) 2 2, .slice (some ⟨b + 1 + 1 + 1 + 1 + 1 + 1 + 1 + 1, 0, none⟩) 1 1, .slice (some ⟨b + 1 + 1 + 1 + 1 + 1 + 1 + 1 + 1 + 1, 0, none⟩) 1 1] 26))
  replace HC24 := Aside0.mk (Kd.C_alloc HC24.out (.cells #[.slice (some ⟨b + 1 + 1 + 1 + 1 + 1 + 1 + 1, 0, none⟩) 2 2, .slice (some ⟨b + 1 + 1 + 1 + 1 + 1 + 1 + 1 + 1, 0, none⟩) 1 1, .slice (some ⟨b + 1 + 1 + 1 + 1 + 1 + 1 + 1 + 1 + 1, 0, none⟩) 1 1] 26))
  generalize u9.alloc (.cells #[.slice (some ⟨b + 1 + 1 + 1 + 1 + 1 + 1 + 1, 0, none⟩) 2 2, .slice (some ⟨b + 1 + 1 + 1 + 1 + 1 + 1 + 1 + 1, 0, none⟩) 1 1, .slice (some ⟨b + 1 + 1 + 1 + 1 + 1 + 1 + 1 + 1 + 1, 0, none⟩) 1 1] 26) = u10 at k1 k2 k3 k4 k5 k6 k7 k8 k9 k10 s10 HB4 BT4 HC04 HC14 HC24 ⊢
  have p1 : Kd.string.C u10 (some ⟨b + 1, 0, none⟩) 1 [⟨#[97, 46, 111]⟩] := C_one k1.out rfl rfl
  have p2 : Kd.string.C u10 (some ⟨b + 1 + 1, 0, none⟩) 1 [⟨#[97, 46, 99]⟩] := C_one k2.out rfl rfl
  have p3 : Kd.string.C u10 (some ⟨b + 1 + 1 + 1, 0, none⟩) 1 [⟨#[97, 46, 104]⟩] := C_one k3.out rfl rfl
  have p4 : Kd.string.C u10 (some ⟨b + 1 + 1 + 1 + 1, 0, none⟩) 1 [⟨#[98, 46, 111]⟩] := C_one k4.out rfl rfl
  have p5 : Kd.string.C u10 (some ⟨b + 1 + 1 + 1 + 1 + 1, 0, none⟩) 1 [⟨#[98, 46, 99]⟩] := C_one k5.out rfl rfl
  have p6 : Kd.string.C u10 (some ⟨b + 1 + 1 + 1 + 1 + 1 + 1, 0, none⟩) 1 [⟨#[97, 46, 111]⟩] := C_one k6.out rfl rfl
  have p0 : Kd.string.C u10 none 0 [] := ⟨rfl, by omega, fun h => absurd h (by decide)⟩
  have PE : Kd.C k42 u10 (some ⟨b + 1 + 1 + 1 + 1 + 1 + 1 + 1, 0, none⟩) wantE.length wantE := C_two k7.out (k42_mk u10 wantE[0] (A0 := some ⟨b + 1, 0, none⟩) (c0 := 1) (by decide) p1 (A1 := some ⟨b + 1 + 1, 0, none⟩) (c1 := 1) (by decide) p2 (A2 := some ⟨b + 1 + 1 + 1, 0, none⟩) (c2 := 1) (by decide) p3 (A3 := none) (c3 := 0) (by decide) p0) (k42_mk u10 wantE[1] (A0 := some ⟨b + 1 + 1 + 1 + 1, 0, none⟩) (c0 := 1) (by decide) p4 (A1 := some ⟨b + 1 + 1 + 1 + 1 + 1, 0, none⟩) (c1 := 1) (by decide) p5 (A2 := none) (c2 := 0) (by decide) p0 (A3 := some ⟨b + 1 + 1 + 1 + 1 + 1 + 1, 0, none⟩) (c3 := 1) (by decide) p6) rfl
  have PP : Kd.C k44 u10 (some ⟨b + 1 + 1 + 1 + 1 + 1 + 1 + 1 + 1, 0, none⟩) wantP.length wantP := C_one k8.out (k44_mk u10 wantP[0]) rfl
  have PD : Kd.C Kd.string u10 (some ⟨b + 1 + 1 + 1 + 1 + 1 + 1 + 1 + 1 + 1, 0, none⟩) wantD.length wantD := C_one k9.out rfl rfl
  have hsame : cruciblelaw0_SameGraph.f 100 wE wP wD wantE wantP wantD = some true := by rw [← HE.out, ← HP.out, ← HD.out]; exact same_want
  have HSG := Lib.hid (cruciblelaw0_SameGraph.calls 100 A0 c0 wE A1 c1 wP A2 c2 wD (some ⟨b + 1 + 1 + 1 + 1 + 1 + 1 + 1, 0, none⟩) 2 wantE (some ⟨b + 1 + 1 + 1 + 1 + 1 + 1 + 1 + 1, 0, none⟩) 1 wantP (some ⟨b + 1 + 1 + 1 + 1 + 1 + 1 + 1 + 1 + 1, 0, none⟩) 1 wantD true u10 HC04.out l0 HC14.out l1 HC24.out l2 PE (by decide) PP (by decide) PD (by decide) hsame)
  have z0 := blk_cell BT4.out 0
  have z1 := blk_cell BT4.out 1
  have z2 := blk_cell BT4.out 2
  have y0 := blk_cell k10.out 0
  have y1 := blk_cell k10.out 1
  have y2 := blk_cell k10.out 2
  clear p0 p1 p2 p3 p4 p5 p6 PE PP PD k1 k2 k3 k4 k5 k6 k7 k8 k9 k10 BT4 HC04 HC14 HC24 hsame
  go_wp2_with (first | (go_at_call 12; refine HSG.out.mono ?_; rintro x w5 ⟨rfl, hb5⟩; have HB5 := Aside0.mk (HB4.out.trans (hb5.mono HB4.out.size)); clear hb5) | (go_at_call 13; refine (cruciblelaw0_Num.calls _ _ _ rfl).mono ?_; rintro x w6 ⟨rfl, hd⟩; replace HB5 := Aside0.mk (HB5.out.trans (hd.below.mono HB5.out.size)); clear hd))
  go_ret
  exact ⟨rfl, HB5.out⟩
def cruciblelaw8_awake.f : Option (Bool) := some true
theorem cruciblelaw8_awake.calls (r : Bool) (w : World) (h : cruciblelaw8_awake.f = some r) :
    Calls Tryz.prog 15 #[] w fun e w' => e = .returned (.bool r) ∧ Below w.heap.size w w' := by
  obtain rfl := Option.some.inj h
  exact awake_calls w
end Go.Proofs.YtefheailchihaaaGreatDoor.Print

end
section
namespace Go.Proofs.YtefheailchihaaaGreatDoor.Print
open Go.RowKit Go.Proofs.YtefheailchihaaaGreatDoorW.PrintWords Go.Proofs.YtefheailchihaaaGreatDoorW.PrintLast Go.Proofs.YtefheailchihaaaGreatDoorW.PrintMore
attribute [local go_sem] max2_int min2_int max_two min_two max_three min_three max_four min_four   -- for this text's walks alone
set_option linter.unusedVariables false
set_option linter.unusedSimpArgs false

def cruciblelaw8_ManifestMay.f (k : Nat) (a0 : ByteArray) : Option (Bool) := (cruciblelaw8_awake.f).bind fun t165 => (if t165 = true then ((manifest_Parse.f a0).bind fun bt166 => ((cruciblelaw0_Num.f bt166.2.2.2).bind fun t177 => (if t177 = 0 then ((crucibleref1_GraphMay.f k bt166.1 bt166.2.1 bt166.2.2.1).bind fun t178 => (some t178)) else ((cruciblelaw0_SameGraph.f k bt166.1 bt166.2.1 bt166.2.2.1 ([] : List (S42)) ([] : List (S44)) ([] : List ByteArray)).bind fun t179 => (if t179 = true then ((cruciblelaw0_Num.f bt166.2.2.2).bind fun t180 => (if t180 = 800 then (some true) else ((cruciblelaw0_Num.f bt166.2.2.2).bind fun t181 => (some (t181 == 801))))) else (some false)))))) else (some false))
theorem cruciblelaw8_ManifestMay.mono : ∀ a0 k, LeO (cruciblelaw8_ManifestMay.f k a0) (cruciblelaw8_ManifestMay.f (k + 1) a0) := by
  intro a0 k
  unfold cruciblelaw8_ManifestMay.f
  repeat' first
      | (with_reducible exact cruciblelaw0_SameGraph.mono _ _ _ _ _ _ _)
      | (with_reducible exact crucibleref1_GraphMay.mono _ _ _ _)
      | (with_reducible exact LeO.refl _)
      | (with_reducible exact LeO.none _)
      | (with_reducible refine LeO.ite ?_ ?_)
      | (with_reducible refine LeO.bind ?_ (fun _ => ?_))
      | exact cruciblelaw0_SameGraph.mono _ _ _ _ _ _ _
      | exact crucibleref1_GraphMay.mono _ _ _ _
      | exact LeO.none _
      | refine LeO.ite ?_ ?_
      | refine LeO.bind ?_ (fun _ => ?_)
set_option maxHeartbeats 8000000 in
set_option maxRecDepth 100000 in
theorem cruciblelaw8_ManifestMay.calls (k : Nat) (a0 : ByteArray) (r : Bool) (w : World) (h : cruciblelaw8_ManifestMay.f k a0 = some r) (hrr : r = true := by rfl) :
    Calls Tryz.prog 8 #[.string a0] w fun e w' => e = .returned (.bool r) ∧ Below w.heap.size w w' := by
  have HRR := Aside0.mk hrr
  clear hrr
  have hu26 := Tryz.underlying26
  have HB := Aside0.mk (Below.refl w.heap.size w)
  have H : ((cruciblelaw8_awake.f).bind fun t165 => (if t165 = true then ((manifest_Parse.f a0).bind fun bt166 => ((cruciblelaw0_Num.f bt166.2.2.2).bind fun t177 => (if t177 = 0 then ((crucibleref1_GraphMay.f k bt166.1 bt166.2.1 bt166.2.2.1).bind fun t178 => (some t178)) else ((cruciblelaw0_SameGraph.f k bt166.1 bt166.2.1 bt166.2.2.1 ([] : List (S42)) ([] : List (S44)) ([] : List ByteArray)).bind fun t179 => (if t179 = true then ((cruciblelaw0_Num.f bt166.2.2.2).bind fun t180 => (if t180 = 800 then (some true) else ((cruciblelaw0_Num.f bt166.2.2.2).bind fun t181 => (some (t181 == 801))))) else (some false)))))) else (some false))) = some r := h
  clear h
  replace H := Option.bind_eq_some_iff.mp H
  obtain ⟨t165, A20, H⟩ := H
  replace H : (if t165 = true then ((manifest_Parse.f a0).bind fun bt166 => ((cruciblelaw0_Num.f bt166.2.2.2).bind fun t177 => (if t177 = 0 then ((crucibleref1_GraphMay.f k bt166.1 bt166.2.1 bt166.2.2.1).bind fun t178 => (some t178)) else ((cruciblelaw0_SameGraph.f k bt166.1 bt166.2.1 bt166.2.2.1 ([] : List (S42)) ([] : List (S44)) ([] : List ByteArray)).bind fun t179 => (if t179 = true then ((cruciblelaw0_Num.f bt166.2.2.2).bind fun t180 => (if t180 = 800 then (some true) else ((cruciblelaw0_Num.f bt166.2.2.2).bind fun t181 => (some (t181 == 801))))) else (some false)))))) else (some false)) = some r := H
  have A2 := Aside0.mk A20
  clear A20
  by_cases c3 : t165 = true
  · subst c3
    have H1 : ((manifest_Parse.f a0).bind fun bt166 => ((cruciblelaw0_Num.f bt166.2.2.2).bind fun t177 => (if t177 = 0 then ((crucibleref1_GraphMay.f k bt166.1 bt166.2.1 bt166.2.2.1).bind fun t178 => (some t178)) else ((cruciblelaw0_SameGraph.f k bt166.1 bt166.2.1 bt166.2.2.1 ([] : List (S42)) ([] : List (S44)) ([] : List ByteArray)).bind fun t179 => (if t179 = true then ((cruciblelaw0_Num.f bt166.2.2.2).bind fun t180 => (if t180 = 800 then (some true) else ((cruciblelaw0_Num.f bt166.2.2.2).bind fun t181 => (some (t181 == 801))))) else (some false)))))) = some r := by rw [if_pos rfl] at H; exact H
    clear H
    have H := H1
    clear H1
    replace H := Option.bind_eq_some_iff.mp H
    obtain ⟨⟨t166, t169, t172, t175⟩, A40, H⟩ := H
    replace H : ((cruciblelaw0_Num.f t175).bind fun t177 => (if t177 = 0 then ((crucibleref1_GraphMay.f k t166 t169 t172).bind fun t178 => (some t178)) else ((cruciblelaw0_SameGraph.f k t166 t169 t172 ([] : List (S42)) ([] : List (S44)) ([] : List ByteArray)).bind fun t179 => (if t179 = true then ((cruciblelaw0_Num.f t175).bind fun t180 => (if t180 = 800 then (some true) else ((cruciblelaw0_Num.f t175).bind fun t181 => (some (t181 == 801))))) else (some false))))) = some r := H
    have A4 := Aside0.mk A40
    clear A40
    replace H := Option.bind_eq_some_iff.mp H
    obtain ⟨t177, A50, H⟩ := H
    replace H : (if t177 = 0 then ((crucibleref1_GraphMay.f k t166 t169 t172).bind fun t178 => (some t178)) else ((cruciblelaw0_SameGraph.f k t166 t169 t172 ([] : List (S42)) ([] : List (S44)) ([] : List ByteArray)).bind fun t179 => (if t179 = true then ((cruciblelaw0_Num.f t175).bind fun t180 => (if t180 = 800 then (some true) else ((cruciblelaw0_Num.f t175).bind fun t181 => (some (t181 == 801))))) else (some false)))) = some r := H
    have A5 := Aside0.mk A50
    clear A50
    by_cases c6 : t177 = 0
    · rw [if_pos c6] at H
      have c6b0 : (t177 == 0) = true := beq_iff_eq.mpr c6
      have c6b1 : (t177 != 0) = false := bne_eq_false_iff_eq.mpr c6
      clear c6
      replace H := Option.bind_eq_some_iff.mp H
      obtain ⟨t178, A70, H⟩ := H
      replace H : (some t178) = some r := H
      have A7 := Aside0.mk A70
      clear A70
      obtain rfl := Option.some.inj H
      have hq := HRR.out
      subst hq
      go_enter Tryz.func8, Tryz.ntmps8
      go_wp2_with (first | ((with_reducible refine gate_callee (f := 15) rfl ?_); refine goesL_ (some 5) rfl rfl Tryz.func15 (by kernel_rfl) rfl #[] rfl (by (try simp only [List.map_toArray, List.map_cons, List.map_nil]); first | done | rfl | (simp only [List.length_drop, List.length_take]; rfl)) ?_; (with_reducible refine (cruciblelaw8_awake.calls  true _ A2.out).mono ?_); rintro e w8 ⟨rfl, hb⟩; refine ⟨_, rfl, ?_⟩; have n0_ := Aside0.mk (below_step (by repeat (first | (with_reducible first | exact HB.out | apply below_alloc | apply pw_below_drewN | apply below_drew1) | exact HB.out)) hb); clear HB; have HB := n0_; clear n0_; (try clear hb); (try clear hb2); (try clear hk); (try clear hi)) | ((with_reducible refine gate_callee (f := 10) rfl ?_); refine goesL_ (some 9) rfl rfl Tryz.func10 (by kernel_rfl) rfl #[.string a0] rfl (by (try simp only [List.map_toArray, List.map_cons, List.map_nil]); first | done | rfl | (simp only [List.length_drop, List.length_take]; rfl)) ?_; (with_reducible refine (manifest_Parse.calls a0 t166 t169 t172 t175 _ A4.out).mono ?_); rintro e w9 ⟨v167, v170, v173, rfl, ho0, ho1, ho2, hb⟩; refine ⟨_, rfl, ?_⟩; have n0_ := Aside0.mk (Kd.R_lower ho0 (below_size (by repeat (first | (with_reducible first | exact HB.out | apply below_alloc | apply pw_below_drewN | apply below_drew1) | exact HB.out)))); have n1_ := Aside0.mk (Kd.R_lower ho1 (below_size (by repeat (first | (with_reducible first | exact HB.out | apply below_alloc | apply pw_below_drewN | apply below_drew1) | exact HB.out)))); have n2_ := Aside0.mk (Kd.R_lower ho2 (below_size (by repeat (first | (with_reducible first | exact HB.out | apply below_alloc | apply pw_below_drewN | apply below_drew1) | exact HB.out)))); have n3_ := Aside0.mk (below_step (by repeat (first | (with_reducible first | exact HB.out | apply below_alloc | apply pw_below_drewN | apply below_drew1) | exact HB.out)) hb); clear HB; have HO168 := n0_; have HO171 := n1_; have HO174 := n2_; have HB := n3_; clear n0_ n1_ n2_ n3_; (try clear hb); (try clear hb2); (try clear hk); (try clear hi); (try clear ho0); (try clear ho1); (try clear ho2)) | ((with_reducible refine gate_dst (N := 3) rfl ?_); refine box_event ?hg (N := 3) ?hd (cs := #[.slice none 0 0, .slice none 0 0, .slice none 0 0]) (t := 26) ?hr ?_; (case hd => rfl); (case hg => rfl); (case hr => first | (go_simp; done) | (go_simp; rfl)); intro gb176 hg w10 hbox hb; have n0_ := Aside0.mk (Kd.R_below (by (with_reducible repeat (first | apply Kd.R_alloc | apply Kd.R_drewN | apply Kd.R_drew)); exact HO168.out) hb); have n1_ := Aside0.mk (Kd.R_below (by (with_reducible repeat (first | apply Kd.R_alloc | apply Kd.R_drewN | apply Kd.R_drew)); exact HO171.out) hb); have n2_ := Aside0.mk (Kd.R_below (by (with_reducible repeat (first | apply Kd.R_alloc | apply Kd.R_drewN | apply Kd.R_drew)); exact HO174.out) hb); have n3_ := Aside0.mk (below_step (by repeat (first | (with_reducible first | exact HB.out | apply below_alloc | apply pw_below_drewN | apply below_drew1) | exact HB.out)) hb); have n4_ := Aside0.mk (hbox); have n5_ := Aside0.mk ((by rw [hg]; exact (below_size (by repeat (first | (with_reducible first | exact HB.out | apply below_alloc | apply pw_below_drewN | apply below_drew1) | exact HB.out))) : w.heap.size ≤ gb176)); have n6_ := Aside0.mk ((by rw [hg]; exact (below_size (by repeat (first | (with_reducible first | exact HB.out | apply below_alloc | apply pw_below_drewN | apply below_drew1) | exact HB.out))) : w.heap.size ≤ gb176)); clear HO168; clear HO171; clear HO174; clear HB; have HO168 := n0_; have HO171 := n1_; have HO174 := n2_; have HB := n3_; have BK176 := n4_; have GW176 := n5_; have GE176 := n6_; clear n0_ n1_ n2_ n3_ n4_ n5_ n6_; clear hb hbox hg; obtain ⟨Ao11, co11, eo11⟩ := Kd.R_slice HO168.out; subst eo11; have hcz12_0 : w10.cell? ⟨gb176, 0, none⟩ = some (.slice none 0 0) := (blk_cell BK176.out 0).trans rfl; have hcz12_1 : w10.cell? ⟨gb176, 1, none⟩ = some (.slice none 0 0) := (blk_cell BK176.out 1).trans rfl; have hcz12_2 : w10.cell? ⟨gb176, 2, none⟩ = some (.slice none 0 0) := (blk_cell BK176.out 2).trans rfl; have hfz12_0 := blk_frozen BK176.out 0; have hfz12_1 := blk_frozen BK176.out 1; have hfz12_2 := blk_frozen BK176.out 2; obtain ⟨Ao13, co13, eo13⟩ := Kd.R_slice HO171.out; subst eo13; obtain ⟨Ao14, co14, eo14⟩ := Kd.R_slice HO174.out; subst eo14) | ((with_reducible refine gate_callee (f := 13) rfl ?_); refine goesL_ (some 13) rfl rfl Tryz.func13 (by kernel_rfl) rfl #[.int .i64 t175] rfl (by (try simp only [List.map_toArray, List.map_cons, List.map_nil]); first | done | rfl | (simp only [List.length_drop, List.length_take]; rfl)) ?_; (with_reducible refine (cruciblelaw0_Num.calls t175 t177 _ A5.out).mono ?_); rintro e w' ⟨rfl, ⟨nd, rfl⟩⟩; refine ⟨_, rfl, ?_⟩) | ((with_reducible refine gate_callee (f := 17) rfl ?_); refine goesL_ (some 29) rfl rfl Tryz.func17 (by kernel_rfl) rfl #[.agg #[.slice Ao11 t166.length co11, .slice Ao13 t169.length co13, .slice Ao14 t172.length co14]] rfl (by (try simp only [List.map_toArray, List.map_cons, List.map_nil]); first | done | rfl | (simp only [List.length_drop, List.length_take]; rfl)) ?_; (with_reducible refine (crucibleref1_GraphMay.calls k _ _ t166 _ _ t169 _ _ t172 true _ ?side1 ?side2 ?side3 ?side4 ?side5 ?side6 A7.out).mono ?_); (case side1 => refine (Kd.R_reads' (e := 42) (base := w.heap.size) (ok := fun k_ => some k_ ≠ (.slice Ao14 t172.length co14 : Value).ownBlock) (n := t166.length) (c := co11) ?_).2.2; exact (by (with_reducible repeat (first | apply Kd.R_alloc | apply Kd.R_drewN | apply Kd.R_drew)); exact (Kd.R_mono (Kd.R_far (p := ⟨gb176, 2, none⟩) (Kd.R_far (p := ⟨gb176, 1, none⟩) (Kd.R_far (p := ⟨gb176, 0, none⟩) (Kd.R_types HO168.out BK176.out (by decide)) (fun _ hk => hk.2) (.slice Ao11 t166.length co11)) (fun _ hk => hk.2) (.slice Ao13 t169.length co13)) (fun _ hk => hk.2) (.slice Ao14 t172.length co14)) (fun _ h_ => h_.1)))); (case side2 => exact (Kd.R_reads' HO168.out).2.1); (case side3 => refine (Kd.R_reads' (e := 44) (base := w.heap.size) (ok := fun k_ => True) (n := t169.length) (c := co13) ?_).2.2; exact (by (with_reducible repeat (first | apply Kd.R_alloc | apply Kd.R_drewN | apply Kd.R_drew)); exact (Kd.R_mono (Kd.R_far (p := ⟨gb176, 2, none⟩) (Kd.R_far (p := ⟨gb176, 1, none⟩) (Kd.R_far (p := ⟨gb176, 0, none⟩) (Kd.R_types HO171.out BK176.out (by decide)) (fun _ hk => hk.2) (.slice Ao11 t166.length co11)) (fun _ hk => hk.2) (.slice Ao13 t169.length co13)) (fun _ hk => hk.2) (.slice Ao14 t172.length co14)) (fun _ h_ => h_.1)))); (case side4 => exact (Kd.R_reads' HO171.out).2.1); (case side5 => refine (Kd.R_reads' (e := 9) (base := w.heap.size) (ok := fun k_ => True) (n := t172.length) (c := co14) ?_).2.2; exact (by (with_reducible repeat (first | apply Kd.R_alloc | apply Kd.R_drewN | apply Kd.R_drew)); exact (Kd.R_mono (Kd.R_far (p := ⟨gb176, 2, none⟩) (Kd.R_far (p := ⟨gb176, 1, none⟩) (Kd.R_far (p := ⟨gb176, 0, none⟩) (Kd.R_types HO174.out BK176.out (by decide)) (fun _ hk => hk.2) (.slice Ao11 t166.length co11)) (fun _ hk => hk.2) (.slice Ao13 t169.length co13)) (fun _ hk => hk.2) (.slice Ao14 t172.length co14)) (fun _ h_ => h_.1)))); (case side6 => exact (Kd.R_reads' HO174.out).2.1); rintro e w15 ⟨rfl, hb⟩; refine ⟨_, rfl, ?_⟩; have n0_ := Aside0.mk (Kd.R_below (by (with_reducible repeat (first | apply Kd.R_alloc | apply Kd.R_drewN | apply Kd.R_drew)); exact (Kd.R_mono (Kd.R_far (p := ⟨gb176, 2, none⟩) (Kd.R_far (p := ⟨gb176, 1, none⟩) (Kd.R_far (p := ⟨gb176, 0, none⟩) (Kd.R_types HO168.out BK176.out (by decide)) (fun _ hk => hk.2) (.slice Ao11 t166.length co11)) (fun _ hk => hk.2) (.slice Ao13 t169.length co13)) (fun _ hk => hk.2) (.slice Ao14 t172.length co14)) (fun _ h_ => h_.1))) hb); have n1_ := Aside0.mk (Kd.R_below (by (with_reducible repeat (first | apply Kd.R_alloc | apply Kd.R_drewN | apply Kd.R_drew)); exact (Kd.R_mono (Kd.R_far (p := ⟨gb176, 2, none⟩) (Kd.R_far (p := ⟨gb176, 1, none⟩) (Kd.R_far (p := ⟨gb176, 0, none⟩) (Kd.R_types HO171.out BK176.out (by decide)) (fun _ hk => hk.2) (.slice Ao11 t166.length co11)) (fun _ hk => hk.2) (.slice Ao13 t169.length co13)) (fun _ hk => hk.2) (.slice Ao14 t172.length co14)) (fun _ h_ => h_.1))) hb); have n2_ := Aside0.mk (Kd.R_below (by (with_reducible repeat (first | apply Kd.R_alloc | apply Kd.R_drewN | apply Kd.R_drew)); exact (Kd.R_mono (Kd.R_far (p := ⟨gb176, 2, none⟩) (Kd.R_far (p := ⟨gb176, 1, none⟩) (Kd.R_far (p := ⟨gb176, 0, none⟩) (Kd.R_types HO174.out BK176.out (by decide)) (fun _ hk => hk.2) (.slice Ao11 t166.length co11)) (fun _ hk => hk.2) (.slice Ao13 t169.length co13)) (fun _ hk => hk.2) (.slice Ao14 t172.length co14)) (fun _ h_ => h_.1))) hb); have n3_ := Aside0.mk (blk_below (g := gb176) (o := .cells #[.slice Ao11 t166.length co11, .slice Ao13 t169.length co13, .slice Ao14 t172.length co14] 26 (0, 0)) (by (with_reducible repeat (first | refine blk_drewN ?_ _ | refine blk_drew ?_ | refine blk_alloc ?_ _)); refine blk_put (cs := #[.slice Ao11 t166.length co11, .slice Ao13 t169.length co13, .slice none 0 0]) ?_ 2 _ rfl; (with_reducible repeat (first | refine blk_drewN ?_ _ | refine blk_drew ?_ | refine blk_alloc ?_ _)); refine blk_put (cs := #[.slice Ao11 t166.length co11, .slice none 0 0, .slice none 0 0]) ?_ 1 _ rfl; (with_reducible repeat (first | refine blk_drewN ?_ _ | refine blk_drew ?_ | refine blk_alloc ?_ _)); refine blk_put (cs := #[.slice none 0 0, .slice none 0 0, .slice none 0 0]) ?_ 0 _ rfl; (with_reducible repeat (first | refine blk_drewN ?_ _ | refine blk_drew ?_ | refine blk_alloc ?_ _)); exact BK176.out) hb); have n4_ := Aside0.mk (below_step (by repeat (first | (with_reducible first | exact HB.out | apply below_alloc | apply pw_below_drewN | apply below_drew1 | refine below_set ?_ GE176.out) | exact HB.out)) hb); clear HO168; clear HO171; clear HO174; clear BK176; clear HB; have HO168 := n0_; have HO171 := n1_; have HO174 := n2_; have BK176 := n3_; have HB := n4_; clear n0_ n1_ n2_ n3_ n4_; (try clear hb); (try clear hb2); (try clear hk); (try clear hi)))
      go_ret
      exact ⟨by first | rfl | (simp [errW_none, errW_some] <;> rfl) | (simp [*, errW_none, errW_some] <;> rfl), by repeat (first | (with_reducible first | exact HB.out | apply below_alloc | apply pw_below_drewN | apply below_drew1 | refine below_set ?_ GE176.out) | exact HB.out)⟩
    · rw [if_neg c6] at H
      have c6b0 : (t177 == 0) = false := beq_eq_false_iff_ne.mpr c6
      have c6b1 : (t177 != 0) = true := bne_iff_ne.mpr c6
      replace H := Option.bind_eq_some_iff.mp H
      obtain ⟨t179, A160, H⟩ := H
      replace H : (if t179 = true then ((cruciblelaw0_Num.f t175).bind fun t180 => (if t180 = 800 then (some true) else ((cruciblelaw0_Num.f t175).bind fun t181 => (some (t181 == 801))))) else (some false)) = some r := H
      have A16 := Aside0.mk A160
      clear A160
      by_cases c17 : t179 = true
      · subst c17
        have H1 : ((cruciblelaw0_Num.f t175).bind fun t180 => (if t180 = 800 then (some true) else ((cruciblelaw0_Num.f t175).bind fun t181 => (some (t181 == 801))))) = some r := by rw [if_pos rfl] at H; exact H
        clear H
        have H := H1
        clear H1
        replace H := Option.bind_eq_some_iff.mp H
        obtain ⟨t180, A180, H⟩ := H
        replace H : (if t180 = 800 then (some true) else ((cruciblelaw0_Num.f t175).bind fun t181 => (some (t181 == 801)))) = some r := H
        have A18 := Aside0.mk A180
        clear A180
        by_cases c19 : t180 = 800
        · rw [if_pos c19] at H
          have c19b0 : (t180 == 800) = true := beq_iff_eq.mpr c19
          have c19b1 : (t180 != 800) = false := bne_eq_false_iff_eq.mpr c19
          clear c19
          obtain rfl := Option.some.inj H
          go_enter Tryz.func8, Tryz.ntmps8
          go_wp2_with (first | ((with_reducible refine gate_callee (f := 15) rfl ?_); refine goesL_ (some 5) rfl rfl Tryz.func15 (by kernel_rfl) rfl #[] rfl (by (try simp only [List.map_toArray, List.map_cons, List.map_nil]); first | done | rfl | (simp only [List.length_drop, List.length_take]; rfl)) ?_; (with_reducible refine (cruciblelaw8_awake.calls  true _ A2.out).mono ?_); rintro e w20 ⟨rfl, hb⟩; refine ⟨_, rfl, ?_⟩; have n0_ := Aside0.mk (below_step (by repeat (first | (with_reducible first | exact HB.out | apply below_alloc | apply pw_below_drewN | apply below_drew1) | exact HB.out)) hb); clear HB; have HB := n0_; clear n0_; (try clear hb); (try clear hb2); (try clear hk); (try clear hi)) | ((with_reducible refine gate_callee (f := 10) rfl ?_); refine goesL_ (some 9) rfl rfl Tryz.func10 (by kernel_rfl) rfl #[.string a0] rfl (by (try simp only [List.map_toArray, List.map_cons, List.map_nil]); first | done | rfl | (simp only [List.length_drop, List.length_take]; rfl)) ?_; (with_reducible refine (manifest_Parse.calls a0 t166 t169 t172 t175 _ A4.out).mono ?_); rintro e w21 ⟨v167, v170, v173, rfl, ho0, ho1, ho2, hb⟩; refine ⟨_, rfl, ?_⟩; have n0_ := Aside0.mk (Kd.R_lower ho0 (below_size (by repeat (first | (with_reducible first | exact HB.out | apply below_alloc | apply pw_below_drewN | apply below_drew1) | exact HB.out)))); have n1_ := Aside0.mk (Kd.R_lower ho1 (below_size (by repeat (first | (with_reducible first | exact HB.out | apply below_alloc | apply pw_below_drewN | apply below_drew1) | exact HB.out)))); have n2_ := Aside0.mk (Kd.R_lower ho2 (below_size (by repeat (first | (with_reducible first | exact HB.out | apply below_alloc | apply pw_below_drewN | apply below_drew1) | exact HB.out)))); have n3_ := Aside0.mk (below_step (by repeat (first | (with_reducible first | exact HB.out | apply below_alloc | apply pw_below_drewN | apply below_drew1) | exact HB.out)) hb); clear HB; have HO168 := n0_; have HO171 := n1_; have HO174 := n2_; have HB := n3_; clear n0_ n1_ n2_ n3_; (try clear hb); (try clear hb2); (try clear hk); (try clear hi); (try clear ho0); (try clear ho1); (try clear ho2)) | ((with_reducible refine gate_dst (N := 3) rfl ?_); refine box_event ?hg (N := 3) ?hd (cs := #[.slice none 0 0, .slice none 0 0, .slice none 0 0]) (t := 26) ?hr ?_; (case hd => rfl); (case hg => rfl); (case hr => first | (go_simp; done) | (go_simp; rfl)); intro gb176 hg w22 hbox hb; have n0_ := Aside0.mk (Kd.R_below (by (with_reducible repeat (first | apply Kd.R_alloc | apply Kd.R_drewN | apply Kd.R_drew)); exact HO168.out) hb); have n1_ := Aside0.mk (Kd.R_below (by (with_reducible repeat (first | apply Kd.R_alloc | apply Kd.R_drewN | apply Kd.R_drew)); exact HO171.out) hb); have n2_ := Aside0.mk (Kd.R_below (by (with_reducible repeat (first | apply Kd.R_alloc | apply Kd.R_drewN | apply Kd.R_drew)); exact HO174.out) hb); have n3_ := Aside0.mk (below_step (by repeat (first | (with_reducible first | exact HB.out | apply below_alloc | apply pw_below_drewN | apply below_drew1) | exact HB.out)) hb); have n4_ := Aside0.mk (hbox); have n5_ := Aside0.mk ((by rw [hg]; exact (below_size (by repeat (first | (with_reducible first | exact HB.out | apply below_alloc | apply pw_below_drewN | apply below_drew1) | exact HB.out))) : w.heap.size ≤ gb176)); have n6_ := Aside0.mk ((by rw [hg]; exact (below_size (by repeat (first | (with_reducible first | exact HB.out | apply below_alloc | apply pw_below_drewN | apply below_drew1) | exact HB.out))) : w.heap.size ≤ gb176)); clear HO168; clear HO171; clear HO174; clear HB; have HO168 := n0_; have HO171 := n1_; have HO174 := n2_; have HB := n3_; have BK176 := n4_; have GW176 := n5_; have GE176 := n6_; clear n0_ n1_ n2_ n3_ n4_ n5_ n6_; clear hb hbox hg; obtain ⟨Ao23, co23, eo23⟩ := Kd.R_slice HO168.out; subst eo23; have hcz24_0 : w22.cell? ⟨gb176, 0, none⟩ = some (.slice none 0 0) := (blk_cell BK176.out 0).trans rfl; have hcz24_1 : w22.cell? ⟨gb176, 1, none⟩ = some (.slice none 0 0) := (blk_cell BK176.out 1).trans rfl; have hcz24_2 : w22.cell? ⟨gb176, 2, none⟩ = some (.slice none 0 0) := (blk_cell BK176.out 2).trans rfl; have hfz24_0 := blk_frozen BK176.out 0; have hfz24_1 := blk_frozen BK176.out 1; have hfz24_2 := blk_frozen BK176.out 2; obtain ⟨Ao25, co25, eo25⟩ := Kd.R_slice HO171.out; subst eo25; obtain ⟨Ao26, co26, eo26⟩ := Kd.R_slice HO174.out; subst eo26) | ((with_reducible refine gate_callee (f := 13) rfl ?_); refine goesL_ (some 13) rfl rfl Tryz.func13 (by kernel_rfl) rfl #[.int .i64 t175] rfl (by (try simp only [List.map_toArray, List.map_cons, List.map_nil]); first | done | rfl | (simp only [List.length_drop, List.length_take]; rfl)) ?_; (with_reducible refine (cruciblelaw0_Num.calls t175 t177 _ A5.out).mono ?_); rintro e w' ⟨rfl, ⟨nd, rfl⟩⟩; refine ⟨_, rfl, ?_⟩) | ((with_reducible refine gate_callee (f := 12) rfl ?_); refine goesL_ (some 17) rfl rfl Tryz.func12 (by kernel_rfl) rfl #[.agg #[.slice Ao23 t166.length co23, .slice Ao25 t169.length co25, .slice Ao26 t172.length co26], .agg #[.slice none 0 0, .slice none 0 0, .slice none 0 0]] rfl (by (try simp only [List.map_toArray, List.map_cons, List.map_nil]); first | done | rfl | (simp only [List.length_drop, List.length_take]; rfl)) ?_; (refine (cruciblelaw0_SameGraph.calls k _ _ t166 _ _ t169 _ _ t172 _ _ ([] : List (S42)) _ _ ([] : List (S44)) _ _ ([] : List ByteArray) true _ ?side1 ?side2 ?side3 ?side4 ?side5 ?side6 ?side7 ?side8 ?side9 ?side10 ?side11 ?side12 A16.out).mono ?_); (case side1 => refine (Kd.R_reads' (e := 42) (base := w.heap.size) (ok := fun k_ => some k_ ≠ (.slice Ao26 t172.length co26 : Value).ownBlock) (n := t166.length) (c := co23) ?_).2.2; exact (by (with_reducible repeat (first | apply Kd.R_alloc | apply Kd.R_drewN | apply Kd.R_drew)); exact (Kd.R_mono (Kd.R_far (p := ⟨gb176, 2, none⟩) (Kd.R_far (p := ⟨gb176, 1, none⟩) (Kd.R_far (p := ⟨gb176, 0, none⟩) (Kd.R_types HO168.out BK176.out (by decide)) (fun _ hk => hk.2) (.slice Ao23 t166.length co23)) (fun _ hk => hk.2) (.slice Ao25 t169.length co25)) (fun _ hk => hk.2) (.slice Ao26 t172.length co26)) (fun _ h_ => h_.1)))); (case side2 => exact (Kd.R_reads' HO168.out).2.1); (case side3 => refine (Kd.R_reads' (e := 44) (base := w.heap.size) (ok := fun k_ => True) (n := t169.length) (c := co25) ?_).2.2; exact (by (with_reducible repeat (first | apply Kd.R_alloc | apply Kd.R_drewN | apply Kd.R_drew)); exact (Kd.R_mono (Kd.R_far (p := ⟨gb176, 2, none⟩) (Kd.R_far (p := ⟨gb176, 1, none⟩) (Kd.R_far (p := ⟨gb176, 0, none⟩) (Kd.R_types HO171.out BK176.out (by decide)) (fun _ hk => hk.2) (.slice Ao23 t166.length co23)) (fun _ hk => hk.2) (.slice Ao25 t169.length co25)) (fun _ hk => hk.2) (.slice Ao26 t172.length co26)) (fun _ h_ => h_.1)))); (case side4 => exact (Kd.R_reads' HO171.out).2.1); (case side5 => refine (Kd.R_reads' (e := 9) (base := w.heap.size) (ok := fun k_ => True) (n := t172.length) (c := co26) ?_).2.2; exact (by (with_reducible repeat (first | apply Kd.R_alloc | apply Kd.R_drewN | apply Kd.R_drew)); exact (Kd.R_mono (Kd.R_far (p := ⟨gb176, 2, none⟩) (Kd.R_far (p := ⟨gb176, 1, none⟩) (Kd.R_far (p := ⟨gb176, 0, none⟩) (Kd.R_types HO174.out BK176.out (by decide)) (fun _ hk => hk.2) (.slice Ao23 t166.length co23)) (fun _ hk => hk.2) (.slice Ao25 t169.length co25)) (fun _ hk => hk.2) (.slice Ao26 t172.length co26)) (fun _ h_ => h_.1)))); (case side6 => exact (Kd.R_reads' HO174.out).2.1); (case side7 => exact Kd.C_nil _ _); (case side8 => exact Nat.le_refl _); (case side9 => exact Kd.C_nil _ _); (case side10 => exact Nat.le_refl _); (case side11 => exact Kd.C_nil _ _); (case side12 => exact Nat.le_refl _); rintro e w27 ⟨rfl, hb⟩; refine ⟨_, rfl, ?_⟩; have n0_ := Aside0.mk (Kd.R_below (by (with_reducible repeat (first | apply Kd.R_alloc | apply Kd.R_drewN | apply Kd.R_drew)); exact (Kd.R_mono (Kd.R_far (p := ⟨gb176, 2, none⟩) (Kd.R_far (p := ⟨gb176, 1, none⟩) (Kd.R_far (p := ⟨gb176, 0, none⟩) (Kd.R_types HO168.out BK176.out (by decide)) (fun _ hk => hk.2) (.slice Ao23 t166.length co23)) (fun _ hk => hk.2) (.slice Ao25 t169.length co25)) (fun _ hk => hk.2) (.slice Ao26 t172.length co26)) (fun _ h_ => h_.1))) hb); have n1_ := Aside0.mk (Kd.R_below (by (with_reducible repeat (first | apply Kd.R_alloc | apply Kd.R_drewN | apply Kd.R_drew)); exact (Kd.R_mono (Kd.R_far (p := ⟨gb176, 2, none⟩) (Kd.R_far (p := ⟨gb176, 1, none⟩) (Kd.R_far (p := ⟨gb176, 0, none⟩) (Kd.R_types HO171.out BK176.out (by decide)) (fun _ hk => hk.2) (.slice Ao23 t166.length co23)) (fun _ hk => hk.2) (.slice Ao25 t169.length co25)) (fun _ hk => hk.2) (.slice Ao26 t172.length co26)) (fun _ h_ => h_.1))) hb); have n2_ := Aside0.mk (Kd.R_below (by (with_reducible repeat (first | apply Kd.R_alloc | apply Kd.R_drewN | apply Kd.R_drew)); exact (Kd.R_mono (Kd.R_far (p := ⟨gb176, 2, none⟩) (Kd.R_far (p := ⟨gb176, 1, none⟩) (Kd.R_far (p := ⟨gb176, 0, none⟩) (Kd.R_types HO174.out BK176.out (by decide)) (fun _ hk => hk.2) (.slice Ao23 t166.length co23)) (fun _ hk => hk.2) (.slice Ao25 t169.length co25)) (fun _ hk => hk.2) (.slice Ao26 t172.length co26)) (fun _ h_ => h_.1))) hb); have n3_ := Aside0.mk (blk_below (g := gb176) (o := .cells #[.slice Ao23 t166.length co23, .slice Ao25 t169.length co25, .slice Ao26 t172.length co26] 26 (0, 0)) (by (with_reducible repeat (first | refine blk_drewN ?_ _ | refine blk_drew ?_ | refine blk_alloc ?_ _)); refine blk_put (cs := #[.slice Ao23 t166.length co23, .slice Ao25 t169.length co25, .slice none 0 0]) ?_ 2 _ rfl; (with_reducible repeat (first | refine blk_drewN ?_ _ | refine blk_drew ?_ | refine blk_alloc ?_ _)); refine blk_put (cs := #[.slice Ao23 t166.length co23, .slice none 0 0, .slice none 0 0]) ?_ 1 _ rfl; (with_reducible repeat (first | refine blk_drewN ?_ _ | refine blk_drew ?_ | refine blk_alloc ?_ _)); refine blk_put (cs := #[.slice none 0 0, .slice none 0 0, .slice none 0 0]) ?_ 0 _ rfl; (with_reducible repeat (first | refine blk_drewN ?_ _ | refine blk_drew ?_ | refine blk_alloc ?_ _)); exact BK176.out) hb); have n4_ := Aside0.mk (below_step (by repeat (first | (with_reducible first | exact HB.out | apply below_alloc | apply pw_below_drewN | apply below_drew1 | refine below_set ?_ GE176.out) | exact HB.out)) hb); clear HO168; clear HO171; clear HO174; clear BK176; clear HB; have HO168 := n0_; have HO171 := n1_; have HO174 := n2_; have BK176 := n3_; have HB := n4_; clear n0_ n1_ n2_ n3_ n4_; (try clear hb); (try clear hb2); (try clear hk); (try clear hi)) | (go_at_call 13; (with_reducible refine (cruciblelaw0_Num.calls t175 t180 _ A18.out).mono ?_); rintro e w' ⟨rfl, ⟨nd, rfl⟩⟩))
          go_ret
          exact ⟨by first | rfl | (simp [errW_none, errW_some] <;> rfl) | (simp [*, errW_none, errW_some] <;> rfl), by repeat (first | (with_reducible first | exact HB.out | apply below_alloc | apply pw_below_drewN | apply below_drew1 | refine below_set ?_ GE176.out) | exact HB.out)⟩
        · rw [if_neg c19] at H
          have c19b0 : (t180 == 800) = false := beq_eq_false_iff_ne.mpr c19
          have c19b1 : (t180 != 800) = true := bne_iff_ne.mpr c19
          replace H := Option.bind_eq_some_iff.mp H
          obtain ⟨t181, A280, H⟩ := H
          replace H : (some (t181 == 801)) = some r := H
          have A28 := Aside0.mk A280
          clear A280
          obtain rfl := Option.some.inj H
          go_enter Tryz.func8, Tryz.ntmps8
          go_wp2_with (first | ((with_reducible refine gate_callee (f := 15) rfl ?_); refine goesL_ (some 5) rfl rfl Tryz.func15 (by kernel_rfl) rfl #[] rfl (by (try simp only [List.map_toArray, List.map_cons, List.map_nil]); first | done | rfl | (simp only [List.length_drop, List.length_take]; rfl)) ?_; (with_reducible refine (cruciblelaw8_awake.calls  true _ A2.out).mono ?_); rintro e w29 ⟨rfl, hb⟩; refine ⟨_, rfl, ?_⟩; have n0_ := Aside0.mk (below_step (by repeat (first | (with_reducible first | exact HB.out | apply below_alloc | apply pw_below_drewN | apply below_drew1) | exact HB.out)) hb); clear HB; have HB := n0_; clear n0_; (try clear hb); (try clear hb2); (try clear hk); (try clear hi)) | ((with_reducible refine gate_callee (f := 10) rfl ?_); refine goesL_ (some 9) rfl rfl Tryz.func10 (by kernel_rfl) rfl #[.string a0] rfl (by (try simp only [List.map_toArray, List.map_cons, List.map_nil]); first | done | rfl | (simp only [List.length_drop, List.length_take]; rfl)) ?_; (with_reducible refine (manifest_Parse.calls a0 t166 t169 t172 t175 _ A4.out).mono ?_); rintro e w30 ⟨v167, v170, v173, rfl, ho0, ho1, ho2, hb⟩; refine ⟨_, rfl, ?_⟩; have n0_ := Aside0.mk (Kd.R_lower ho0 (below_size (by repeat (first | (with_reducible first | exact HB.out | apply below_alloc | apply pw_below_drewN | apply below_drew1) | exact HB.out)))); have n1_ := Aside0.mk (Kd.R_lower ho1 (below_size (by repeat (first | (with_reducible first | exact HB.out | apply below_alloc | apply pw_below_drewN | apply below_drew1) | exact HB.out)))); have n2_ := Aside0.mk (Kd.R_lower ho2 (below_size (by repeat (first | (with_reducible first | exact HB.out | apply below_alloc | apply pw_below_drewN | apply below_drew1) | exact HB.out)))); have n3_ := Aside0.mk (below_step (by repeat (first | (with_reducible first | exact HB.out | apply below_alloc | apply pw_below_drewN | apply below_drew1) | exact HB.out)) hb); clear HB; have HO168 := n0_; have HO171 := n1_; have HO174 := n2_; have HB := n3_; clear n0_ n1_ n2_ n3_; (try clear hb); (try clear hb2); (try clear hk); (try clear hi); (try clear ho0); (try clear ho1); (try clear ho2)) | ((with_reducible refine gate_dst (N := 3) rfl ?_); refine box_event ?hg (N := 3) ?hd (cs := #[.slice none 0 0, .slice none 0 0, .slice none 0 0]) (t := 26) ?hr ?_; (case hd => rfl); (case hg => rfl); (case hr => first | (go_simp; done) | (go_simp; rfl)); intro gb176 hg w31 hbox hb; have n0_ := Aside0.mk (Kd.R_below (by (with_reducible repeat (first | apply Kd.R_alloc | apply Kd.R_drewN | apply Kd.R_drew)); exact HO168.out) hb); have n1_ := Aside0.mk (Kd.R_below (by (with_reducible repeat (first | apply Kd.R_alloc | apply Kd.R_drewN | apply Kd.R_drew)); exact HO171.out) hb); have n2_ := Aside0.mk (Kd.R_below (by (with_reducible repeat (first | apply Kd.R_alloc | apply Kd.R_drewN | apply Kd.R_drew)); exact HO174.out) hb); have n3_ := Aside0.mk (below_step (by repeat (first | (with_reducible first | exact HB.out | apply below_alloc | apply pw_below_drewN | apply below_drew1) | exact HB.out)) hb); have n4_ := Aside0.mk (hbox); have n5_ := Aside0.mk ((by rw [hg]; exact (below_size (by repeat (first | (with_reducible first | exact HB.out | apply below_alloc | apply pw_below_drewN | apply below_drew1) | exact HB.out))) : w.heap.size ≤ gb176)); have n6_ := Aside0.mk ((by rw [hg]; exact (below_size (by repeat (first | (with_reducible first | exact HB.out | apply below_alloc | apply pw_below_drewN | apply below_drew1) | exact HB.out))) : w.heap.size ≤ gb176)); clear HO168; clear HO171; clear HO174; clear HB; have HO168 := n0_; have HO171 := n1_; have HO174 := n2_; have HB := n3_; have BK176 := n4_; have GW176 := n5_; have GE176 := n6_; clear n0_ n1_ n2_ n3_ n4_ n5_ n6_; clear hb hbox hg; obtain ⟨Ao32, co32, eo32⟩ := Kd.R_slice HO168.out; subst eo32; have hcz33_0 : w31.cell? ⟨gb176, 0, none⟩ = some (.slice none 0 0) := (blk_cell BK176.out 0).trans rfl; have hcz33_1 : w31.cell? ⟨gb176, 1, none⟩ = some (.slice none 0 0) := (blk_cell BK176.out 1).trans rfl; have hcz33_2 : w31.cell? ⟨gb176, 2, none⟩ = some (.slice none 0 0) := (blk_cell BK176.out 2).trans rfl; have hfz33_0 := blk_frozen BK176.out 0; have hfz33_1 := blk_frozen BK176.out 1; have hfz33_2 := blk_frozen BK176.out 2; obtain ⟨Ao34, co34, eo34⟩ := Kd.R_slice HO171.out; subst eo34; obtain ⟨Ao35, co35, eo35⟩ := Kd.R_slice HO174.out; subst eo35) | ((with_reducible refine gate_callee (f := 13) rfl ?_); refine goesL_ (some 13) rfl rfl Tryz.func13 (by kernel_rfl) rfl #[.int .i64 t175] rfl (by (try simp only [List.map_toArray, List.map_cons, List.map_nil]); first | done | rfl | (simp only [List.length_drop, List.length_take]; rfl)) ?_; (with_reducible refine (cruciblelaw0_Num.calls t175 t177 _ A5.out).mono ?_); rintro e w' ⟨rfl, ⟨nd, rfl⟩⟩; refine ⟨_, rfl, ?_⟩) | ((with_reducible refine gate_callee (f := 12) rfl ?_); refine goesL_ (some 17) rfl rfl Tryz.func12 (by kernel_rfl) rfl #[.agg #[.slice Ao32 t166.length co32, .slice Ao34 t169.length co34, .slice Ao35 t172.length co35], .agg #[.slice none 0 0, .slice none 0 0, .slice none 0 0]] rfl (by (try simp only [List.map_toArray, List.map_cons, List.map_nil]); first | done | rfl | (simp only [List.length_drop, List.length_take]; rfl)) ?_; (refine (cruciblelaw0_SameGraph.calls k _ _ t166 _ _ t169 _ _ t172 _ _ ([] : List (S42)) _ _ ([] : List (S44)) _ _ ([] : List ByteArray) true _ ?side1 ?side2 ?side3 ?side4 ?side5 ?side6 ?side7 ?side8 ?side9 ?side10 ?side11 ?side12 A16.out).mono ?_); (case side1 => refine (Kd.R_reads' (e := 42) (base := w.heap.size) (ok := fun k_ => some k_ ≠ (.slice Ao35 t172.length co35 : Value).ownBlock) (n := t166.length) (c := co32) ?_).2.2; exact (by (with_reducible repeat (first | apply Kd.R_alloc | apply Kd.R_drewN | apply Kd.R_drew)); exact (Kd.R_mono (Kd.R_far (p := ⟨gb176, 2, none⟩) (Kd.R_far (p := ⟨gb176, 1, none⟩) (Kd.R_far (p := ⟨gb176, 0, none⟩) (Kd.R_types HO168.out BK176.out (by decide)) (fun _ hk => hk.2) (.slice Ao32 t166.length co32)) (fun _ hk => hk.2) (.slice Ao34 t169.length co34)) (fun _ hk => hk.2) (.slice Ao35 t172.length co35)) (fun _ h_ => h_.1)))); (case side2 => exact (Kd.R_reads' HO168.out).2.1); (case side3 => refine (Kd.R_reads' (e := 44) (base := w.heap.size) (ok := fun k_ => True) (n := t169.length) (c := co34) ?_).2.2; exact (by (with_reducible repeat (first | apply Kd.R_alloc | apply Kd.R_drewN | apply Kd.R_drew)); exact (Kd.R_mono (Kd.R_far (p := ⟨gb176, 2, none⟩) (Kd.R_far (p := ⟨gb176, 1, none⟩) (Kd.R_far (p := ⟨gb176, 0, none⟩) (Kd.R_types HO171.out BK176.out (by decide)) (fun _ hk => hk.2) (.slice Ao32 t166.length co32)) (fun _ hk => hk.2) (.slice Ao34 t169.length co34)) (fun _ hk => hk.2) (.slice Ao35 t172.length co35)) (fun _ h_ => h_.1)))); (case side4 => exact (Kd.R_reads' HO171.out).2.1); (case side5 => refine (Kd.R_reads' (e := 9) (base := w.heap.size) (ok := fun k_ => True) (n := t172.length) (c := co35) ?_).2.2; exact (by (with_reducible repeat (first | apply Kd.R_alloc | apply Kd.R_drewN | apply Kd.R_drew)); exact (Kd.R_mono (Kd.R_far (p := ⟨gb176, 2, none⟩) (Kd.R_far (p := ⟨gb176, 1, none⟩) (Kd.R_far (p := ⟨gb176, 0, none⟩) (Kd.R_types HO174.out BK176.out (by decide)) (fun _ hk => hk.2) (.slice Ao32 t166.length co32)) (fun _ hk => hk.2) (.slice Ao34 t169.length co34)) (fun _ hk => hk.2) (.slice Ao35 t172.length co35)) (fun _ h_ => h_.1)))); (case side6 => exact (Kd.R_reads' HO174.out).2.1); (case side7 => exact Kd.C_nil _ _); (case side8 => exact Nat.le_refl _); (case side9 => exact Kd.C_nil _ _); (case side10 => exact Nat.le_refl _); (case side11 => exact Kd.C_nil _ _); (case side12 => exact Nat.le_refl _); rintro e w36 ⟨rfl, hb⟩; refine ⟨_, rfl, ?_⟩; have n0_ := Aside0.mk (Kd.R_below (by (with_reducible repeat (first | apply Kd.R_alloc | apply Kd.R_drewN | apply Kd.R_drew)); exact (Kd.R_mono (Kd.R_far (p := ⟨gb176, 2, none⟩) (Kd.R_far (p := ⟨gb176, 1, none⟩) (Kd.R_far (p := ⟨gb176, 0, none⟩) (Kd.R_types HO168.out BK176.out (by decide)) (fun _ hk => hk.2) (.slice Ao32 t166.length co32)) (fun _ hk => hk.2) (.slice Ao34 t169.length co34)) (fun _ hk => hk.2) (.slice Ao35 t172.length co35)) (fun _ h_ => h_.1))) hb); have n1_ := Aside0.mk (Kd.R_below (by (with_reducible repeat (first | apply Kd.R_alloc | apply Kd.R_drewN | apply Kd.R_drew)); exact (Kd.R_mono (Kd.R_far (p := ⟨gb176, 2, none⟩) (Kd.R_far (p := ⟨gb176, 1, none⟩) (Kd.R_far (p := ⟨gb176, 0, none⟩) (Kd.R_types HO171.out BK176.out (by decide)) (fun _ hk => hk.2) (.slice Ao32 t166.length co32)) (fun _ hk => hk.2) (.slice Ao34 t169.length co34)) (fun _ hk => hk.2) (.slice Ao35 t172.length co35)) (fun _ h_ => h_.1))) hb); have n2_ := Aside0.mk (Kd.R_below (by (with_reducible repeat (first | apply Kd.R_alloc | apply Kd.R_drewN | apply Kd.R_drew)); exact (Kd.R_mono (Kd.R_far (p := ⟨gb176, 2, none⟩) (Kd.R_far (p := ⟨gb176, 1, none⟩) (Kd.R_far (p := ⟨gb176, 0, none⟩) (Kd.R_types HO174.out BK176.out (by decide)) (fun _ hk => hk.2) (.slice Ao32 t166.length co32)) (fun _ hk => hk.2) (.slice Ao34 t169.length co34)) (fun _ hk => hk.2) (.slice Ao35 t172.length co35)) (fun _ h_ => h_.1))) hb); have n3_ := Aside0.mk (blk_below (g := gb176) (o := .cells #[.slice Ao32 t166.length co32, .slice Ao34 t169.length co34, .slice Ao35 t172.length co35] 26 (0, 0)) (by (with_reducible repeat (first | refine blk_drewN ?_ _ | refine blk_drew ?_ | refine blk_alloc ?_ _)); refine blk_put (cs := #[.slice Ao32 t166.length co32, .slice Ao34 t169.length co34, .slice none 0 0]) ?_ 2 _ rfl; (with_reducible repeat (first | refine blk_drewN ?_ _ | refine blk_drew ?_ | refine blk_alloc ?_ _)); refine blk_put (cs := #[.slice Ao32 t166.length co32, .slice none 0 0, .slice none 0 0]) ?_ 1 _ rfl; (with_reducible repeat (first | refine blk_drewN ?_ _ | refine blk_drew ?_ | refine blk_alloc ?_ _)); refine blk_put (cs := #[.slice none 0 0, .slice none 0 0, .slice none 0 0]) ?_ 0 _ rfl; (with_reducible repeat (first | refine blk_drewN ?_ _ | refine blk_drew ?_ | refine blk_alloc ?_ _)); exact BK176.out) hb); have n4_ := Aside0.mk (below_step (by repeat (first | (with_reducible first | exact HB.out | apply below_alloc | apply pw_below_drewN | apply below_drew1 | refine below_set ?_ GE176.out) | exact HB.out)) hb); clear HO168; clear HO171; clear HO174; clear BK176; clear HB; have HO168 := n0_; have HO171 := n1_; have HO174 := n2_; have BK176 := n3_; have HB := n4_; clear n0_ n1_ n2_ n3_ n4_; (try clear hb); (try clear hb2); (try clear hk); (try clear hi)) | (go_at_call 13; (with_reducible refine (cruciblelaw0_Num.calls t175 t180 _ A18.out).mono ?_); rintro e w' ⟨rfl, ⟨nd, rfl⟩⟩) | (go_at_call 13; (with_reducible refine (cruciblelaw0_Num.calls t175 t181 _ A28.out).mono ?_); rintro e w' ⟨rfl, ⟨nd, rfl⟩⟩))
          go_ret
          exact ⟨by first | rfl | (rw [Option.some.inj (A18.out.symm.trans A28.out)]; rfl) | (simp [errW_none, errW_some] <;> rfl) | (simp [*, errW_none, errW_some] <;> rfl), by repeat (first | (with_reducible first | exact HB.out | apply below_alloc | apply pw_below_drewN | apply below_drew1 | refine below_set ?_ GE176.out) | exact HB.out)⟩
      · replace c17 := Bool.eq_false_iff.mpr c17
        subst c17
        have H1 : (some false) = some r := by rw [if_neg (show ¬ (false = true) by decide)] at H; exact H
        clear H
        have H := H1
        clear H1
        obtain rfl := Option.some.inj H
        exact absurd HRR.out (by decide)
  · replace c3 := Bool.eq_false_iff.mpr c3
    subst c3
    have H1 : (some false) = some r := by rw [if_neg (show ¬ (false = true) by decide)] at H; exact H
    clear H
    have H := H1
    clear H1
    obtain rfl := Option.some.inj H
    exact absurd HRR.out (by decide)
/-- THE ONE PURE STATEMENT of cruciblelaw8_ManifestMay: yours. -/
def cruciblelaw8_ManifestMay.Pure : Prop := ∀ (a0 : ByteArray), a0.size ≤ 140737488351232 → ∃ k, cruciblelaw8_ManifestMay.f k a0 = some true
theorem cruciblelaw8_ManifestMay.walk (P : cruciblelaw8_ManifestMay.Pure) (a0 : ByteArray) (w : World) (w0 : a0.size ≤ 140737488351232) :
    Calls Tryz.prog 8 #[.string a0] w fun e w' => e = .returned (.bool true) ∧ Below w.heap.size w w' := by
  obtain ⟨k, h⟩ := P a0 w0
  refine (cruciblelaw8_ManifestMay.calls k a0 true w h).mono ?_
  rintro e w' ⟨rfl, hd⟩
  exact ⟨rfl, hd⟩

end Go.Proofs.YtefheailchihaaaGreatDoor.Print

end
section
namespace Go.Proofs.YtefheailchihaaaGreatDoor.Print
open Go.RowKit Go.Lib Go.Shelf Go.Proofs.YtefheailchihaaaGreatDoorW.PrintWords Go.Proofs.YtefheailchihaaaGreatDoorW.PrintLast Go.Proofs.YtefheailchihaaaGreatDoorW.PrintMore
set_option linter.unusedVariables false

theorem wrapM (i : Nat) (h : i ≤ 4611686018427387904) : wrap64 ((i : Int) + 1) = ((i + 1 : Nat) : Int) := by unfold wrap64; omega
theorem extract_mk (s : ByteArray) (a b : Nat) : s.extract a b = ⟨((s.data.toList.drop a).take (b - a)).toArray⟩ := ba_ext (by rw [Lib.extract_data])
theorem refSplit47_go (s : ByteArray) (hn : s.size ≤ 1048576) : ∀ (d i j k : Nat) (out : List ByteArray), i + d = s.size → j ≤ i → out.length ≤ i → d + 1 < k →
    crucibleref1_split.l0 k s 47 out (j : Int) (i : Int) = some (out ++ (splitC 47 ((s.data.toList.drop j).take (i - j)) (s.data.toList.drop i)).map fun r => ⟨r.toArray⟩)
  | _, _, _, 0, _, _, _, _, h => absurd h (by omega)
  | _, _, _, 1, _, _, _, _, h => absurd h (by omega)
  | 0, i, j, k + 2, out, h, hj, ho, _ => by
    have hi : i = s.size := by omega
    have e1 : crucibleref1_split.l0 (k + 2) s 47 out (j : Int) (i : Int) = crucibleref1_split.l0 (k + 1) s 47 (out ++ [s.extract j i]) ((i + 1 : Nat) : Int) ((i + 1 : Nat) : Int) := by
      conv => lhs; unfold crucibleref1_split.l0
      rw [if_pos (by omega), if_pos (by omega), if_pos (by omega), if_pos (by omega), if_pos (by omega), wrapM i (by omega)]
      rfl
    rw [e1]
    unfold crucibleref1_split.l0
    rw [if_neg (by omega), drop_end s i (by omega), extract_mk]
    rfl
  | d + 1, i, j, k + 2, out, h, hj, ho, hk => by
    have hi : i < s.size := by omega
    have hb := bt_natD s i hi
    have hl := Lib.size_eq s
    rw [drop_cons s i hi]
    by_cases hc : s[i] = 47
    · have e1 : crucibleref1_split.l0 (k + 2) s 47 out (j : Int) (i : Int) = crucibleref1_split.l0 (k + 1) s 47 (out ++ [s.extract j i]) ((i + 1 : Nat) : Int) ((i + 1 : Nat) : Int) := by
        conv => lhs; unfold crucibleref1_split.l0
        rw [if_pos (by omega), if_neg (by omega), if_pos (by omega), if_pos (by omega), if_pos (by rw [hb, hc]; rfl), if_pos (by omega), if_pos (by omega), if_pos (by omega), wrapM i (by omega)]
        rfl
      have e2 : splitC 47 ((s.data.toList.drop j).take (i - j)) (s[i] :: s.data.toList.drop (i + 1)) = ((s.data.toList.drop j).take (i - j)) :: splitC 47 [] (s.data.toList.drop (i + 1)) := by
        show (if s[i] = 47 then _ else _) = _
        rw [if_pos hc]
      rw [e1, refSplit47_go s hn d (i + 1) (i + 1) (k + 1) _ (by omega) (Nat.le_refl _) (by rw [List.length_append, List.length_singleton]; omega) (by omega), e2, Nat.sub_self, List.take_zero, extract_mk, List.map_cons, List.append_assoc]
      rfl
    · have hne : ¬ bt s (i : Int) = 47 := by
        rw [hb]
        intro e
        exact hc ((byte_eq s[i] 47).1 e)
      have e1 : crucibleref1_split.l0 (k + 2) s 47 out (j : Int) (i : Int) = crucibleref1_split.l0 (k + 1) s 47 out (j : Int) ((i + 1 : Nat) : Int) := by
        conv => lhs; unfold crucibleref1_split.l0
        rw [if_pos (by omega), if_neg (by omega), if_pos (by omega), if_pos (by omega), if_neg hne, wrapM i (by omega)]
      have e2 : splitC 47 ((s.data.toList.drop j).take (i - j)) (s[i] :: s.data.toList.drop (i + 1)) = splitC 47 ((s.data.toList.drop j).take (i - j) ++ [s[i]]) (s.data.toList.drop (i + 1)) := by
        show (if s[i] = 47 then _ else _) = _
        rw [if_neg hc]
      have e3 : (s.data.toList.drop j).take (i + 1 - j) = (s.data.toList.drop j).take (i - j) ++ [s[i]] := by
        have h1 : i + 1 - j = (i - j) + 1 := by omega
        have h2 : i - j < (s.data.toList.drop j).length := by rw [List.length_drop]; omega
        rw [h1, List.take_succ_eq_append_getElem h2, List.getElem_drop]
        congr 2
        simp only [Nat.add_sub_cancel' hj]
        rfl
      rw [e1, refSplit47_go s hn d (i + 1) j (k + 1) out (by omega) (by omega) (by omega) (by omega), e2, e3]
theorem refSplit47 (s : ByteArray) (hn : s.size ≤ 1048576) (k : Nat) (hk : s.size + 1 < k) : crucibleref1_split.f k s 47 = some (splitB 47 s.data.toList) := by
  unfold crucibleref1_split.f
  have := refSplit47_go s hn s.size 0 0 k [] (by omega) (Nat.le_refl _) (Nat.le_refl _) (by omega)
  rw [show (0 : Int) = ((0 : Nat) : Int) from rfl, this]
  rfl
theorem refJoin_go (xs : List ByteArray) (sep : ByteArray) (hxs : ∀ x ∈ xs, x.size ≤ 1048576) (hl : xs.length ≤ 1048577) (hs : sep.size ≤ 16) : ∀ (d i k : Nat) (acc : ByteArray), i + d = xs.length → 1 ≤ i → acc.size ≤ 1048592 * i → d < k →
    crucibleref1_Join.l0 k xs sep acc (i : Int) = some ⟨(acc.data.toList ++ Lib.joinTail sep.data.toList ((xs.drop i).map (·.data.toList))).toArray⟩
  | _, _, 0, _, _, _, _, h => absurd h (by omega)
  | 0, i, k + 1, acc, h, h1, ha, hk => by
    unfold crucibleref1_Join.l0
    rw [if_neg (by omega), List.drop_of_length_le (by omega)]
    simp [Lib.joinTail]
  | d + 1, i, k + 1, acc, h, h1, ha, hk => by
    have hi : i < xs.length := by omega
    have hx := hxs xs[i] (List.getElem_mem hi)
    have hr := rdOf_at xs i hi
    have hz : ((acc ++ sep) ++ xs[i]).size = acc.size + sep.size + xs[i].size := by rw [ByteArray.size_append, ByteArray.size_append]
    conv => lhs; unfold crucibleref1_Join.l0
    rw [if_pos (by omega), if_pos (by omega), if_pos (by omega), if_pos (by omega), hr, if_pos (by rw [ByteArray.size_append]; omega), wrapM i (by omega), refJoin_go xs sep hxs hl hs d (i + 1) k _ (by omega) (by omega) (by rw [hz]; omega) (by omega), List.drop_eq_getElem_cons hi]
    simp only [Lib.joinTail, List.map_cons, List.flatten_cons, ByteArray.data_append, Array.toList_append, List.append_assoc]
theorem refJoin (xs : List ByteArray) (sep : ByteArray) (hxs : ∀ x ∈ xs, x.size ≤ 1048576) (hl : xs.length ≤ 1048577) (hs : sep.size ≤ 16) (k : Nat) (hk : xs.length < k) : crucibleref1_Join.f k xs sep = some (joinB xs sep) := by
  unfold crucibleref1_Join.f
  obtain ⟨k, rfl⟩ : ∃ m, k = m + 1 := ⟨k - 1, by omega⟩
  cases xs with
  | nil => rfl
  | cons x l =>
    have hx := hxs x List.mem_cons_self
    have hr : rdOf ByteArray.empty (x :: l) 0 = x := rfl
    rw [List.length_cons] at hl hk
    conv => lhs; unfold crucibleref1_Join.l0
    have h0 : (⟨#[]⟩ : ByteArray) ++ x = x := ba_ext (by rw [ByteArray.data_append, Array.toList_append]; rfl)
    rw [if_pos (by rw [List.length_cons]; omega), if_neg (by omega), if_pos (by omega), hr, if_pos (show (⟨#[]⟩ : ByteArray).size + x.size ≤ 9223372036854775807 by show 0 + x.size ≤ _; omega), h0, show wrap64 ((0 : Int) + 1) = ((1 : Nat) : Int) by unfold wrap64; omega, refJoin_go (x :: l) sep hxs (by rw [List.length_cons]; omega) hs l.length 1 k x (by rw [List.length_cons]; omega) (Nat.le_refl _) (by omega) (by omega)]
    unfold joinB
    rw [List.map_cons, Lib.join_cons]
    rfl
/-- What is kept, told. -/
def cleanAns : Option (List ByteArray) → ByteArray × Int
  | none => (⟨#[]⟩, 200)
  | some kept => if kept.length = 0 then (⟨#[]⟩, 200) else (joinB kept ⟨#[47]⟩, 0)
theorem cleanB_eq (s : ByteArray) : cleanB s = if nameMay s = true ∧ bt s 0 ≠ 47 then cleanAns (cleanGo [] (splitB 47 s.data.toList)) else (⟨#[]⟩, 200) := by
  unfold cleanB cleanAns
  split
  · cases cleanGo [] (splitB 47 s.data.toList) <;> rfl
  · rfl
theorem refClean_go (ps : List ByteArray) (hps : ∀ x ∈ ps, x.size ≤ 1048576) (hl : ps.length ≤ 1048577) : ∀ (d i k : Nat) (kept : List ByteArray), i + d = ps.length → kept.length ≤ i → (∀ x ∈ kept, x.size ≤ 1048576) → 2 * d + ps.length + 1 < k →
    crucibleref1_CleanPath.l0 k ps kept (i : Int) = some (cleanAns (cleanGo kept (ps.drop i)))
  | _, _, 0, _, _, _, _, h => absurd h (by omega)
  | _, _, 1, _, _, _, _, h => absurd h (by omega)
  | 0, i, k + 2, kept, h, hk, hx, hf => by
    conv => lhs; unfold crucibleref1_CleanPath.l0
    rw [if_neg (by omega), List.drop_of_length_le (by omega)]
    show _ = some (if kept.length = 0 then _ else _)
    by_cases h0 : kept.length = 0
    · rw [if_pos (by omega), if_pos h0]
    · rw [if_neg (by omega), if_neg h0, refJoin kept _ hx (by omega) (by decide) (k + 1) (by omega)]
      rfl
  | d + 1, i, k + 2, kept, h, hk, hx, hf => by
    have hi : i < ps.length := by omega
    have hr := rdOf_at ps i hi
    have hpi := hps ps[i] (List.getElem_mem hi)
    have e0 : ∀ b, b = (ps[i].toList == ([] : List UInt8) || ps[i].toList == [46]) → crucibleref1_CleanPath.l0 (k + 2) ps kept (i : Int) = crucibleref1_CleanPath.j2 (k + 1) ps kept (i : Int) ps[i] b := by
      intro b hb
      conv => lhs; unfold crucibleref1_CleanPath.l0
      rw [if_pos (by omega), if_pos (by omega), hr]
      by_cases h0 : ps[i].toList = []
      · rw [if_pos h0, hb, h0]; rfl
      · rw [if_neg h0, hb, beq_false_of_ne h0, Bool.false_or]
    rw [e0 _ rfl, List.drop_eq_getElem_cons hi]
    by_cases h1 : ps[i].toList = [] ∨ ps[i].toList = [46]
    · have hb : (ps[i].toList == ([] : List UInt8) || ps[i].toList == [46]) = true := by
        rcases h1 with h1 | h1 <;> rw [h1] <;> rfl
      rw [hb]
      have e1 : cleanGo kept (ps[i] :: ps.drop (i + 1)) = cleanGo kept (ps.drop (i + 1)) := by
        conv => lhs; unfold cleanGo
        rw [if_pos h1]
      rw [e1]
      conv => lhs; unfold crucibleref1_CleanPath.j2
      rw [if_pos rfl, wrapM i (by omega)]
      exact refClean_go ps hps hl d (i + 1) k kept (by omega) (by omega) hx (by omega)
    · have hb : (ps[i].toList == ([] : List UInt8) || ps[i].toList == [46]) = false := by
        rw [Bool.or_eq_false_iff]
        exact ⟨beq_false_of_ne fun e => h1 (.inl e), beq_false_of_ne fun e => h1 (.inr e)⟩
      rw [hb]
      by_cases h2 : ps[i].toList = [46, 46]
      · by_cases h3 : kept.length = 0
        · have e1 : cleanGo kept (ps[i] :: ps.drop (i + 1)) = none := by
            conv => lhs; unfold cleanGo
            rw [if_neg h1, if_neg (fun hn => hn h2), if_pos h3]
          rw [e1]
          conv => lhs; unfold crucibleref1_CleanPath.j2
          rw [if_neg (by decide), if_pos h2, if_pos (by omega)]
          rfl
        · have e1 : cleanGo kept (ps[i] :: ps.drop (i + 1)) = cleanGo (kept.take (kept.length - 1)) (ps.drop (i + 1)) := by
            conv => lhs; unfold cleanGo
            rw [if_neg h1, if_neg (fun hn => hn h2), if_neg h3]
          have hw : wrap64 ((kept.length : Int) - 1) = ((kept.length - 1 : Nat) : Int) := by unfold wrap64; omega
          rw [e1]
          conv => lhs; unfold crucibleref1_CleanPath.j2
          rw [if_neg (by decide), if_pos h2, if_neg (by omega), hw, if_pos (by omega), if_pos (by omega), wrapM i (by omega), Int.toNat_natCast]
          exact refClean_go ps hps hl d (i + 1) k _ (by omega) (by rw [List.length_take]; omega) (fun x hx' => hx x (List.mem_of_mem_take hx')) (by omega)
      · have e1 : cleanGo kept (ps[i] :: ps.drop (i + 1)) = cleanGo (kept ++ [ps[i]]) (ps.drop (i + 1)) := by
          conv => lhs; unfold cleanGo
          rw [if_neg h1, if_pos h2]
        rw [e1]
        conv => lhs; unfold crucibleref1_CleanPath.j2
        rw [if_neg (by decide), if_neg h2, if_pos (by omega), if_pos (by omega), if_pos (by omega), wrapM i (by omega), hr]
        exact refClean_go ps hps hl d (i + 1) k _ (by omega) (by rw [List.length_append, List.length_singleton]; omega) (fun x hx' => by
          rcases List.mem_append.1 hx' with h5 | h5
          · exact hx x h5
          · rw [List.mem_singleton.1 h5]; exact hpi) (by omega)
theorem nameMay_size {s : ByteArray} (h : nameMay s = true) : 1 ≤ s.size ∧ s.size ≤ 16 := by
  unfold nameMay at h
  simp only [Bool.and_eq_true, decide_eq_true_eq] at h
  exact ⟨h.1, h.2.1⟩
theorem refClean (s : ByteArray) (hn : s.size ≤ 1048576) (k : Nat) (hk : 4 * s.size + 40 ≤ k) : crucibleref1_CleanPath.f k s = some (cleanB s) := by
  unfold crucibleref1_CleanPath.f
  rw [refNameMay s (by omega) k (by omega), Option.bind_some, cleanB_eq]
  obtain ⟨k, rfl⟩ : ∃ m, k = m + 1 := ⟨k - 1, by omega⟩
  by_cases h1 : nameMay s = true
  · have h2 := nameMay_size h1
    rw [if_pos h1, if_pos (by omega)]
    by_cases h3 : bt s 0 = 47
    · rw [if_neg (fun h => h.2 h3), show (bt s 0 == 47) = true by rw [h3]; rfl]
      rfl
    · rw [if_pos ⟨h1, h3⟩, beq_false_of_ne h3]
      show (crucibleref1_split.f k s 47).bind _ = _
      have hc : s.data.toList.count 47 ≤ s.data.toList.length := List.count_le_length
      have hl := Lib.size_eq s
      have hlen := splitB_len 47 s.data.toList
      rw [refSplit47 s hn k (by omega), Option.bind_some]
      have := refClean_go (splitB 47 s.data.toList) (fun x hx => by have := splitB_size 47 s.data.toList x hx; omega) (by omega) (splitB 47 s.data.toList).length 0 k [] (by omega) (Nat.le_refl _) (fun x hx => by simp at hx) (by omega)
      rw [show (0 : Int) = ((0 : Nat) : Int) from rfl, this, List.drop_zero]
  · rw [if_neg h1, if_neg (fun h => h1 h.1)]
    rfl

def goodP (x : ByteArray) : Prop := x.toList ≠ [] ∧ x.toList ≠ [46] ∧ x.toList ≠ [46, 46] ∧ ∀ d ∈ x.data.toList, d ≠ 47
theorem cleanGo_keep : ∀ (l kept : List ByteArray), (∀ x ∈ l, goodP x) → cleanGo kept l = some (kept ++ l)
  | [], kept, _ => by rw [List.append_nil]; rfl
  | p :: l, kept, h => by
    obtain ⟨h1, h2, h3, _⟩ := h p List.mem_cons_self
    unfold cleanGo
    rw [if_neg (fun hh => hh.elim h1 h2), if_pos h3, cleanGo_keep l _ (fun x hx => h x (List.mem_cons_of_mem _ hx)), List.append_assoc]
    rfl
def wide (l : List ByteArray) : Nat := Lib.lens (l.map (·.data.toList)) + l.length
theorem wide_cons (x : ByteArray) (l : List ByteArray) : wide (x :: l) = x.size + 1 + wide l := by
  unfold wide Lib.lens
  rw [List.map_cons, List.map_cons, List.sum_cons, List.length_cons, Lib.size_eq]
  omega
theorem wide_app (a b : List ByteArray) : wide (a ++ b) = wide a + wide b := by
  unfold wide Lib.lens
  simp only [List.map_append, List.sum_append, List.length_append]
  omega
theorem wide_take (l : List ByteArray) (n : Nat) : wide (l.take n) ≤ wide l := by
  have h := wide_app (l.take n) (l.drop n)
  rw [List.take_append_drop] at h
  omega
theorem cleanGo_good : ∀ (l kept r : List ByteArray), cleanGo kept l = some r → (∀ x ∈ kept, goodP x) → (∀ x ∈ l, ∀ d ∈ x.data.toList, d ≠ 47) → (∀ x ∈ r, goodP x) ∧ wide r ≤ wide kept + wide l
  | [], kept, r, h, hk, _ => by
    simp only [cleanGo, Option.some.injEq] at h
    subst h
    exact ⟨hk, Nat.le_add_right _ _⟩
  | p :: l, kept, r, h, hk, hl => by
    have hl' : ∀ x ∈ l, ∀ d ∈ x.data.toList, d ≠ 47 := fun x hx => hl x (List.mem_cons_of_mem _ hx)
    unfold cleanGo at h
    rw [wide_cons]
    split at h
    · obtain ⟨h1, h2⟩ := cleanGo_good l kept r h hk hl'
      exact ⟨h1, by omega⟩
    rename_i hn
    split at h
    · rename_i hd
      obtain ⟨h1, h2⟩ := cleanGo_good l _ r h (fun x hx => by
        rcases List.mem_append.1 hx with h5 | h5
        · exact hk x h5
        · rw [List.mem_singleton.1 h5]
          exact ⟨fun e => hn (.inl e), fun e => hn (.inr e), hd, hl p List.mem_cons_self⟩) hl'
      rw [wide_app, wide_cons] at h2
      exact ⟨h1, by have : wide ([] : List ByteArray) = 0 := rfl; omega⟩
    split at h
    · cases h
    · obtain ⟨h1, h2⟩ := cleanGo_good l _ r h (fun x hx => hk x (List.mem_of_mem_take hx)) hl'
      have := wide_take kept (kept.length - 1)
      exact ⟨h1, by omega⟩
theorem splitC_wide (c : UInt8) (l : List UInt8) : ∀ cur, wide ((splitC c cur l).map fun r => ⟨r.toArray⟩) = cur.length + l.length + 1 := by
  induction l with
  | nil =>
    intro cur
    show wide [⟨cur.toArray⟩] = _
    rw [wide_cons]
    show cur.toArray.size + 1 + 0 = _
    simp
  | cons d l ih =>
    intro cur
    show wide ((if d = c then cur :: splitC c [] l else splitC c (cur ++ [d]) l).map _) = _
    rw [List.length_cons]
    split
    · rw [List.map_cons, wide_cons, ih]
      show cur.toArray.size + 1 + _ = _
      simp only [List.size_toArray, List.length_nil]
      omega
    · rw [ih, List.length_append, List.length_singleton]
      omega
theorem splitC_no (c : UInt8) (l : List UInt8) : ∀ cur, (∀ d ∈ cur, d ≠ c) → ∀ r ∈ splitC c cur l, ∀ d ∈ r, d ≠ c := by
  induction l with
  | nil => intro cur h r hr; rw [List.mem_singleton.1 hr]; exact h
  | cons e l ih =>
    intro cur h r hr
    have hr' : r ∈ (if e = c then cur :: splitC c [] l else splitC c (cur ++ [e]) l) := hr
    split at hr'
    · rcases List.mem_cons.1 hr' with rfl | h5
      · exact h
      · exact ih [] (by simp) r h5
    · rename_i he
      refine ih _ (fun d hd => ?_) r hr'
      rcases List.mem_append.1 hd with h5 | h5
      · exact h d h5
      · rw [List.mem_singleton.1 h5]; exact he
theorem splitC_mem (c : UInt8) (l : List UInt8) : ∀ cur, ∀ r ∈ splitC c cur l, ∀ d ∈ r, d ∈ cur ∨ d ∈ l := by
  induction l with
  | nil => intro cur r hr d hd; rw [List.mem_singleton.1 hr] at hd; exact .inl hd
  | cons e l ih =>
    intro cur r hr d hd
    have hr' : r ∈ (if e = c then cur :: splitC c [] l else splitC c (cur ++ [e]) l) := hr
    split at hr'
    · rcases List.mem_cons.1 hr' with rfl | h5
      · exact .inl hd
      · rcases ih [] r h5 d hd with h6 | h6
        · simp at h6
        · exact .inr (List.mem_cons_of_mem _ h6)
    · rcases ih _ r hr' d hd with h6 | h6
      · rcases List.mem_append.1 h6 with h7 | h7
        · exact .inl h7
        · rw [List.mem_singleton.1 h7]; exact .inr List.mem_cons_self
      · exact .inr (List.mem_cons_of_mem _ h6)
theorem split_join (c : UInt8) : ∀ (r : List (List UInt8)) (x : List UInt8), (∀ d ∈ x, d ≠ c) → (∀ y ∈ r, ∀ d ∈ y, d ≠ c) → splitC c [] (x ++ Lib.joinTail [c] r) = x :: r
  | [], x, hx, _ => by
    have := splitC_none c x hx []
    rw [List.nil_append] at this
    rw [show Lib.joinTail [c] [] = [] from rfl, List.append_nil]
    exact this
  | y :: r, x, hx, hr => by
    have e : Lib.joinTail [c] (y :: r) = c :: (y ++ Lib.joinTail [c] r) := by simp [Lib.joinTail]
    rw [e, splitC_app c x _ hx, split_join c r y (hr y List.mem_cons_self) (fun z hz => hr z (List.mem_cons_of_mem _ hz)), List.nil_append]
theorem tail_wide (r : List ByteArray) (c : UInt8) : (Lib.joinTail [c] (r.map (·.data.toList))).length = wide r := by
  induction r with
  | nil => rfl
  | cons x r ih =>
    rw [wide_cons, List.map_cons, show Lib.joinTail [c] (x.data.toList :: r.map (·.data.toList)) = c :: (x.data.toList ++ Lib.joinTail [c] (r.map (·.data.toList))) by simp [Lib.joinTail], List.length_cons, List.length_append, ih, Lib.size_eq]
    omega
theorem tail_mem (r : List ByteArray) (c d : UInt8) (h : d ∈ Lib.joinTail [c] (r.map (·.data.toList))) : d = c ∨ ∃ x ∈ r, d ∈ x.data.toList := by
  induction r with
  | nil => simp [Lib.joinTail] at h
  | cons x r ih =>
    rw [List.map_cons, show Lib.joinTail [c] (x.data.toList :: r.map (·.data.toList)) = c :: (x.data.toList ++ Lib.joinTail [c] (r.map (·.data.toList))) by simp [Lib.joinTail]] at h
    rcases List.mem_cons.1 h with rfl | h
    · exact .inl rfl
    rcases List.mem_append.1 h with h | h
    · exact .inr ⟨x, List.mem_cons_self, h⟩
    · rcases ih h with h | ⟨y, hy, hd⟩
      · exact .inl h
      · exact .inr ⟨y, List.mem_cons_of_mem _ hy, hd⟩
theorem clean_again {s t : ByteArray} (h : cleanB s = (t, 0)) : cleanB t = (t, 0) := by
  rw [cleanB_eq] at h
  by_cases hm : nameMay s = true ∧ bt s 0 ≠ 47
  · rw [if_pos hm] at h
    cases hg : cleanGo [] (splitB 47 s.data.toList) with
    | none => rw [hg] at h; exact absurd (Prod.mk.inj h).2 (by decide)
    | some kept =>
      rw [hg] at h
      have h' : (if kept.length = 0 then ((⟨#[]⟩ : ByteArray), (200 : Int)) else (joinB kept ⟨#[47]⟩, 0)) = (t, 0) := h
      by_cases h0 : kept.length = 0
      · rw [if_pos h0] at h'; exact absurd (Prod.mk.inj h').2 (by decide)
      · rw [if_neg h0] at h'
        have ht : joinB kept ⟨#[47]⟩ = t := (Prod.mk.inj h').1
        obtain ⟨hgood, hw⟩ := cleanGo_good _ [] kept hg (by simp) (fun x hx d hd => by
          unfold splitB at hx
          obtain ⟨r, hr, rfl⟩ := List.mem_map.1 hx
          exact splitC_no 47 s.data.toList [] (by simp) r hr d hd)
        have hmem := (cleanGo_mem _ [] kept hg).1
        have hsw : wide (splitB 47 s.data.toList) = s.data.toList.length + 1 := by
          have := splitC_wide 47 s.data.toList []
          rw [List.length_nil, Nat.zero_add] at this
          exact this
        have hsz := nameMay_size hm.1
        have hle := Lib.size_eq s
        cases kept with
        | nil => exact absurd rfl h0
        | cons x r =>
          have hx := hgood x List.mem_cons_self
          have htl : t.data.toList = x.data.toList ++ Lib.joinTail [47] (r.map (·.data.toList)) := by
            rw [← ht]
            unfold joinB
            rw [List.map_cons, Lib.join_cons]
          have hxd : ∃ b l, x.data.toList = b :: l := by
            cases hh : x.data.toList with
            | nil => exact absurd (size_nil (by rw [Lib.size_eq, hh]; simp)) hx.1
            | cons b l => exact ⟨b, l, rfl⟩
          obtain ⟨b, l, hbl⟩ := hxd
          have htn := Lib.size_eq t
          rw [wide_cons] at hw
          have htw : t.size + 1 = x.size + 1 + wide r := by
            rw [htn, htl, List.length_append, tail_wide, ← Lib.size_eq]; omega
          have hwn : wide ([] : List ByteArray) = 0 := rfl
          have hx1 : 1 ≤ x.size := by rw [Lib.size_eq, hbl]; simp
          have hall : (s.data.toList.all fun b => oneB b.toNat) = true := by
            have := hm.1
            unfold nameMay at this
            simp only [Bool.and_eq_true] at this
            exact this.2.2
          have hpart : ∀ y ∈ x :: r, ∀ d ∈ y.data.toList, oneB d.toNat = true := by
            intro y hy d hd
            rcases hmem y hy with h5 | h5
            · simp at h5
            · unfold splitB at h5
              obtain ⟨q, hq, rfl⟩ := List.mem_map.1 h5
              rcases splitC_mem 47 s.data.toList [] q hq d hd with h6 | h6
              · simp at h6
              · exact List.all_eq_true.1 hall d h6
          have htm : nameMay t = true := by
            unfold nameMay
            simp only [Bool.and_eq_true, decide_eq_true_eq]
            refine ⟨by omega, by omega, ?_⟩
            rw [List.all_eq_true]
            intro d hd
            rw [htl] at hd
            rcases List.mem_append.1 hd with h5 | h5
            · exact hpart x List.mem_cons_self d h5
            · rcases tail_mem r 47 d h5 with rfl | ⟨y, hy, hd'⟩
              · decide
              · exact hpart y (List.mem_cons_of_mem _ hy) d hd'
          have hb0 : bt t 0 ≠ 47 := by
            have h1 : 0 < t.size := by omega
            rw [show (0 : Int) = ((0 : Nat) : Int) from rfl, bt_natD t 0 h1]
            intro e
            have e2 : t[0] = 47 := (byte_eq t[0] 47).1 e
            have e3 : t.data.toList = t[0] :: t.data.toList.drop 1 := by
              have := drop_cons t 0 h1
              rw [List.drop_zero] at this
              exact this
            rw [htl, hbl, List.cons_append] at e3
            have e4 : b = t[0] := (List.cons.inj e3).1
            exact hx.2.2.2 b (by rw [hbl]; exact List.mem_cons_self) (e4.trans e2)
          have hsp : splitB 47 t.data.toList = x :: r := by
            unfold splitB
            rw [htl, split_join 47 _ _ hx.2.2.2 (fun y hy d hd => by
              obtain ⟨z, hz, rfl⟩ := List.mem_map.1 hy
              exact (hgood z (List.mem_cons_of_mem _ hz)).2.2.2 d hd), List.map_cons, List.map_map]
            have : ((fun r : List UInt8 => (⟨r.toArray⟩ : ByteArray)) ∘ fun y : ByteArray => y.data.toList) = id := rfl
            rw [this, List.map_id]
          rw [cleanB_eq, if_pos ⟨htm, hb0⟩, hsp, cleanGo_keep (x :: r) [] hgood, List.nil_append]
          show (if (x :: r).length = 0 then ((⟨#[]⟩ : ByteArray), (200 : Int)) else (joinB (x :: r) ⟨#[47]⟩, 0)) = _
          rw [if_neg (by simp), ht]
  · rw [if_neg hm] at h
    exact absurd (Prod.mk.inj h).2 (by decide)
/-- A path that is clean. -/
def PathOk (x : ByteArray) : Prop := cleanB x = (x, 0)
theorem pathOk_size {x : ByteArray} (h : PathOk x) : x.size ≤ 16 := by
  unfold PathOk at h
  rw [cleanB_eq] at h
  by_cases hm : nameMay x = true ∧ bt x 0 ≠ 47
  · exact (nameMay_size hm.1).2
  · rw [if_neg hm] at h
    exact absurd (Prod.mk.inj h).2 (by decide)
theorem refPathMay {x : ByteArray} (h : PathOk x) (k : Nat) (hk : 200 ≤ k) : crucibleref1_PathMay.f k x = some true := by
  have hs := pathOk_size h
  unfold crucibleref1_PathMay.f
  rw [refClean x (by omega) k (by omega), h, Option.bind_some]
  simp
theorem refPaths_go (l : List ByteArray) (hl : ∀ x ∈ l, PathOk x) (hn : l.length ≤ 8) : ∀ (d i k : Nat), i + d = l.length → 200 + d < k → crucibleref1_PathsMay.l0 k l (i : Int) = some true
  | _, _, 0, _, h => absurd h (by omega)
  | 0, i, k + 1, h, _ => by
    unfold crucibleref1_PathsMay.l0
    rw [if_neg (by omega), decide_eq_true (by omega)]
  | d + 1, i, k + 1, h, hk => by
    have hi : i < l.length := by omega
    conv => lhs; unfold crucibleref1_PathsMay.l0
    rw [if_pos (by omega), if_pos (by omega), rdOf_at l i hi, refPathMay (hl _ (List.getElem_mem hi)) k (by omega), Option.bind_some, if_pos rfl, wrapM i (by omega)]
    exact refPaths_go l hl hn d (i + 1) k (by omega) (by omega)
theorem refPathsMay (l : List ByteArray) (hl : ∀ x ∈ l, PathOk x) (hn : l.length ≤ 8) (k : Nat) (hk : 220 ≤ k) : crucibleref1_PathsMay.f k l = some true := by
  unfold crucibleref1_PathsMay.f
  exact refPaths_go l hl hn l.length 0 k (by omega) (by omega)
end Go.Proofs.YtefheailchihaaaGreatDoor.Print

end
section
namespace Go.Proofs.YtefheailchihaaaGreatDoor.Print
open Go.RowKit Go.Lib Go.Shelf Go.Proofs.YtefheailchihaaaGreatDoorW.PrintWords Go.Proofs.YtefheailchihaaaGreatDoorW.PrintLast Go.Proofs.YtefheailchihaaaGreatDoorW.PrintMore
set_option linter.unusedVariables false
set_option linter.unusedSimpArgs false

theorem plain_sub {s t : ByteArray} (h : plainL s.data.toList = true) (hs : ∀ b ∈ t.data.toList, b ∈ s.data.toList) : plainL t.data.toList = true := by
  unfold plainL at *
  rw [List.all_eq_true] at *
  exact fun b hb => h b (hs b hb)
theorem plain_ext {s : ByteArray} (a b : Nat) (h : plainL s.data.toList = true) : plainL (s.extract a b).data.toList = true :=
  plain_sub h (fun c hc => by rw [Lib.extract_data] at hc; exact List.mem_of_mem_drop (List.mem_of_mem_take hc))
theorem plain_app2 {s t : ByteArray} (h1 : plainL s.data.toList = true) (h2 : plainL t.data.toList = true) : plainL (s ++ t).data.toList = true := by
  unfold plainL at *
  rw [ByteArray.data_append, Array.toList_append, List.all_append, h1, h2]
  rfl
def PlainPs (out : List S162) : Prop := ∀ x ∈ out, plainL x.f1.data.toList = true
theorem plainPs_app {a : List S162} {x : S162} (h : PlainPs a) (hx : plainL x.f1.data.toList = true) : PlainPs (a ++ [x]) := fun y hy => by
  rcases List.mem_append.1 hy with h5 | h5
  · exact h y h5
  · rw [List.mem_singleton.1 h5]; exact hx
theorem addText_plain {out : List S162} {t : ByteArray} (h : PlainPs out) (ht : plainL t.data.toList = true) : PlainPs (addText out t) := by
  unfold addText
  split
  · rename_i hc
    intro y hy
    rcases List.mem_or_eq_of_mem_set hy with h5 | rfl
    · exact h y h5
    · exact plain_app2 (h _ (rd57_mem out (out.length - 1) (by omega))) ht
  · exact plainPs_app h ht
theorem plain_byte {r : ByteArray} (h : plainL r.data.toList = true) (i : Nat) (hi : i < r.size) : plainL (⟨#[r[i]]⟩ : ByteArray).data.toList = true :=
  plain_sub h (fun b hb => by
    have h1 : b = r[i] := by simpa using hb
    rw [h1]
    have h2 := drop_cons r i hi
    exact List.mem_of_mem_drop (by rw [h2]; exact List.mem_cons_self))
theorem brace_plain {q : ByteArray} (h : plainL q.data.toList = true) : plainL (braceOf q).data.toList = true := by
  unfold braceOf
  split
  · exact plain_ext _ _ h
  · exact h
theorem refGo_plain : ∀ (k : Nat) (r : ByteArray) (out : List S162), plainL r.data.toList = true → PlainPs out → PlainPs (refGo k r out).1
  | 0, r, out, _, h => h
  | k + 1, r, out, hr, h => by
    have hn : PlainPs [] := fun x hx => by simp at hx
    unfold refGo
    split
    · split
      · exact refGo_plain k _ _ (plain_ext _ _ hr) (addText_plain h (plain_byte hr 0 (by omega)))
      · split
        · split
          · exact refGo_plain k _ _ (plain_ext _ _ hr) (addText_plain h (plain_byte hr 1 (by omega)))
          · split
            · exact refGo_plain k _ _ (plain_ext _ _ hr) (plainPs_app h (plain_ext _ _ (brace_plain (plain_ext _ _ hr))))
            · exact hn
        · exact hn
    · exact h
theorem plainL_ofB {s : ByteArray} {m : Int} (h : plainB s m = true) : plainL s.data.toList = true := by
  unfold plainB at h
  simp only [Bool.and_eq_true, decide_eq_true_eq] at h
  exact h.1
theorem cutOf_plain (s : ByteArray) : PlainPs (cutOf s).1 := by
  rw [cutOf_eq]
  unfold refOf
  split
  · rename_i h
    exact refGo_plain _ _ _ (plainL_ofB h) (fun x hx => by simp at hx)
  · exact fun x hx => by simp at hx
theorem get_plain {l : List S174} (h : scopeMay l = true) (s : ByteArray) : plainL (scopeGet l s).data.toList = true := by
  unfold scopeGet
  split
  · rename_i h0
    have hlt := findS_lt l s
    obtain ⟨k, hk⟩ : ∃ k : Nat, findS l s = k := ⟨(findS l s).toNat, by omega⟩
    rw [hk] at hlt ⊢
    exact plainL_ofB (((may_iff l).1 h).1 k (by omega)).2.1
  · rfl
theorem evalOf_plain {s : ByteArray} {l1 l2 : List S174} (h : (evalOf s l1 l2).2 = 0) : plainB (evalOf s l1 l2).1 256 = true := by
  have hsz := evalOf_size s l1 l2
  have hp : plainL (evalOf s l1 l2).1.data.toList = true := by
    unfold evalOf at h ⊢
    split
    · rename_i hc
      split
      · show plainL (evalOut l1 l2 (cutOf s).1) = true
        unfold plainL evalOut
        rw [List.all_flatMap, List.all_eq_true]
        intro p hp
        have hpp := cutOf_plain s p hp
        show plainL (pieceVal l1 l2 p).data.toList = true
        unfold pieceVal orB
        split
        · split
          · exact get_plain hc.2.1 _
          · exact get_plain hc.2.2 _
        · exact hpp
      · rfl
    · rfl
  unfold plainB
  rw [hp, Bool.true_and, decide_eq_true_eq]
  omega

def poolNames (ps : List S44) : List (List UInt8) := ps.map (·.f0.toList)
def PoolIn (ps : List S44) (s : ByteArray) : Prop := s.toList = [] ∨ s.toList ∈ poolNames ps
def Paths (l : List ByteArray) : Prop := (∀ x ∈ l, PathOk x) ∧ l.length ≤ 8
structure EdgeOk (ps : List S44) (e : S42) : Prop where
  outs : 0 < e.f0.length
  p0 : Paths e.f0
  p1 : Paths e.f1
  p2 : Paths e.f2
  p3 : Paths e.f3
  plain : plainB e.f4 256 = true
  some' : 1 ≤ e.f4.size
  pool : PoolIn ps e.f6
def OpenOk (p : Pst) : Opn → Prop
  | .none => True
  | .rule => True
  | .pool => 0 < p.pools.length
  | .build outs ins imp ord r own => 0 < outs.length ∧ Paths outs ∧ Paths ins ∧ Paths imp ∧ Paths ord ∧ PoolIn p.pools r.f2 ∧ p.edges.length < 16
def posPools (p : Pst) : Opn → List S44
  | .pool => p.pools.dropLast
  | _ => p.pools
structure GM (p : Pst) (o : Opn) : Prop where
  names : ∀ x ∈ p.pools, nameMay x.f0 = true
  uniq : (poolNames p.pools).Nodup
  deep : ∀ x ∈ p.pools, 0 ≤ x.f1 ∧ x.f1 ≤ 8
  pos : ∀ x ∈ posPools p o, 1 ≤ x.f1
  plen : p.pools.length ≤ 4
  rules : ∀ r ∈ p.rules, PoolIn p.pools r.f2
  edges : ∀ e ∈ p.edges, EdgeOk p.pools e
  elen : p.edges.length ≤ 16
  defs : Paths p.defs
  opn : OpenOk p o
theorem gm0 : GM pst0 .none := ⟨fun x hx => by simp [pst0] at hx, List.nodup_nil, fun x hx => by simp [pst0] at hx, fun x hx => by simp [posPools, pst0] at hx, Nat.zero_le _, fun x hx => by simp [pst0] at hx, fun x hx => by simp [pst0] at hx, Nat.zero_le _, ⟨fun x hx => by simp [pst0] at hx, Nat.zero_le _⟩, trivial⟩
theorem cleanErr_zero : ∀ (xs : List ByteArray) (e : Int), cleanErr e xs = 0 → e = 0 ∧ ∀ x ∈ xs, (cleanB x).2 = 0
  | [], e, h => ⟨h, fun x hx => by simp at hx⟩
  | x :: xs, e, h => by
    have h1 : cleanErr (tookE e (cleanB x).2) xs = 0 := h
    obtain ⟨h2, h3⟩ := cleanErr_zero xs _ h1
    obtain ⟨h4, h5⟩ := tookE_zero h2
    exact ⟨h4, fun y hy => by
      rcases List.mem_cons.1 hy with rfl | hy
      · exact h5
      · exact h3 y hy⟩
theorem paths_clean {xs : List ByteArray} (h : ∀ x ∈ xs, (cleanB x).2 = 0) (hl : xs.length ≤ 8) : Paths (cleanOut xs) := by
  refine ⟨fun y hy => ?_, by unfold cleanOut; rw [List.length_map]; exact hl⟩
  unfold cleanOut at hy
  obtain ⟨x, hx, rfl⟩ := List.mem_map.1 hy
  exact clean_again (s := x) (Prod.ext rfl (h x hx))
theorem last_split {α : Type} (l : List α) (d : α) (h : 0 < l.length) : l = l.dropLast ++ [l.getD (l.length - 1) d] := by
  have hne : l ≠ [] := fun e => by rw [e] at h; simp at h
  have h1 := List.dropLast_concat_getLast hne
  rw [List.getLast_eq_getElem] at h1
  rw [List.getD_eq_getElem?_getD, List.getElem?_eq_getElem (by omega)]
  exact h1.symm
theorem gm_over {p : Pst} {o : Opn} (h : GM p o) (he : overE p o 0 = 0) : GM (overP p o) .none := by
  obtain ⟨h1, h2, h3, h4, h5, h6, h7, h8, h9, h10⟩ := h
  cases o with
  | none => exact ⟨h1, h2, h3, h4, h5, h6, h7, h8, h9, trivial⟩
  | rule => exact ⟨h1, h2, h3, h4, h5, h6, h7, h8, h9, trivial⟩
  | pool =>
    have hp : 0 < (lastP p.pools).f1 := by
      have := (needE_zero (show needE 0 (decide (0 < (lastP p.pools).f1)) = 0 from he)).2
      simpa using this
    refine ⟨h1, h2, h3, fun x hx => ?_, h5, h6, h7, h8, h9, trivial⟩
    have hx' : x ∈ p.pools := hx
    rw [last_split p.pools z44 h10] at hx'
    rcases List.mem_append.1 hx' with h11 | h11
    · exact h4 x h11
    · rw [List.mem_singleton.1 h11]; exact hp
  | build outs ins imp ord r own =>
    obtain ⟨i0, i1, i2, i3, i4, i5, i6⟩ := h10
    obtain ⟨a1, a2⟩ := needE_zero (show finE p.outer outs ins r own 0 = 0 from he)
    obtain ⟨a3, a4⟩ := tookE_zero a1
    have hpl := evalOf_plain (show (evalOf r.f1 (finS2 outs ins own) p.outer).2 = 0 from a4)
    have hne : 1 ≤ (finC p.outer outs ins r own).1.size := by
      by_cases hc : 1 ≤ (finC p.outer outs ins r own).1.size
      · exact hc
      · rw [size_nil hc] at a2
        exact absurd a2 (by decide)
    refine ⟨h1, h2, h3, h4, h5, h6, fun e hx => ?_, ?_, h9, trivial⟩
    · have hx' : e ∈ p.edges ++ [⟨outs, ins, imp, ord, (finC p.outer outs ins r own).1, r.f3, r.f2⟩] := hx
      rcases List.mem_append.1 hx' with h11 | h11
      · exact h7 e h11
      · rw [List.mem_singleton.1 h11]
        exact ⟨i0, i1, i2, i3, i4, hpl, hne, i5⟩
    · show (p.edges ++ [_]).length ≤ 16
      rw [List.length_append, List.length_singleton]
      omega
theorem byte_depth : ∀ n : Fin 256, (!(Op.bytesLess [UInt8.ofNat n.val] [49]) && (Op.bytesLess [UInt8.ofNat n.val] [56] || ([UInt8.ofNat n.val] == [56]))) = true → 1 ≤ IntKind.i64.wrap (IntKind.u8.wrap (((UInt8.ofNat n.val).toNat : Int) - 48)) ∧ IntKind.i64.wrap (IntKind.u8.wrap (((UInt8.ofNat n.val).toNat : Int) - 48)) ≤ 8 := by decide +kernel
theorem depth_ok {x : S44} {key value : ByteArray} (h : poolD1 x key value = true) : 1 ≤ IntKind.i64.wrap (IntKind.u8.wrap (bt value 0 - 48)) ∧ IntKind.i64.wrap (IntKind.u8.wrap (bt value 0 - 48)) ≤ 8 := by
  unfold poolD1 at h
  simp only [Bool.and_eq_true] at h
  obtain ⟨⟨⟨⟨_, _⟩, h1⟩, h2⟩, h3⟩ := h
  have hs : value.size = 1 := by
    have : ((value.size : Int) == 1) = true := h1
    have := eq_of_beq this
    omega
  have hb := bt_natD value 0 (by omega)
  have hl : value.toList = [value[0]] := by
    have h4 := drop_cons value 0 (by omega)
    rw [List.drop_zero, drop_end value 1 (by omega)] at h4
    have h5 : value.toList = value.data.toList := by rw [Lib.toList_data]
    rw [h5, h4]
  rw [show (0 : Int) = ((0 : Nat) : Int) from rfl, hb]
  have hn : value[0].toNat < 256 := value[0].toNat_lt
  have he : UInt8.ofNat value[0].toNat = value[0] := UInt8.ofNat_toNat
  have := byte_depth ⟨value[0].toNat, hn⟩
  simp only [he] at this
  refine this ?_
  rw [hl] at h2 h3
  rw [Bool.and_eq_true]
  exact ⟨h2, h3⟩
theorem names_set (ps : List S44) (d : Int) (h : 0 < ps.length) : poolNames (ps.set (ps.length - 1) { lastP ps with f1 := d }) = poolNames ps := by
  unfold poolNames
  rw [List.map_set]
  have hl : ps.length - 1 < (ps.map (·.f0.toList)).length := by rw [List.length_map]; omega
  have : ({ lastP ps with f1 := d } : S44).f0.toList = (ps.map (·.f0.toList))[ps.length - 1] := by
    rw [List.getElem_map]
    show (lastP ps).f0.toList = _
    unfold lastP
    rw [List.getD_eq_getElem?_getD, List.getElem?_eq_getElem (by omega)]
    rfl
  rw [this, List.set_getElem_self]
theorem poolIn_eq {ps qs : List S44} (h : poolNames qs = poolNames ps) {s : ByteArray} (hs : PoolIn ps s) : PoolIn qs s := by
  unfold PoolIn at *
  rw [h]
  exact hs
theorem edgeOk_eq {ps qs : List S44} (h : ∀ s, PoolIn ps s → PoolIn qs s) {e : S42} (he : EdgeOk ps e) : EdgeOk qs e := ⟨he.outs, he.p0, he.p1, he.p2, he.p3, he.plain, he.some', h _ he.pool⟩
theorem idx_pool {ps : List S44} {s : ByteArray} (h : 0 ≤ idxP (fun x : S44 => x.f0.toList == s.toList) ps) : s.toList ∈ poolNames ps := by
  rcases idxP_cases (fun x : S44 => x.f0.toList == s.toList) ps with ⟨h1, _⟩ | ⟨j, hj, h1, h2, _⟩
  · omega
  · unfold poolNames
    rw [← eq_of_beq h2]
    exact List.mem_map.2 ⟨ps[j], List.getElem_mem hj, rfl⟩
theorem idx_none {ps : List S44} {s : ByteArray} (h : idxP (fun x : S44 => x.f0.toList == s.toList) ps < 0) : s.toList ∉ poolNames ps := by
  rcases idxP_cases (fun x : S44 => x.f0.toList == s.toList) ps with ⟨h1, h2⟩ | ⟨j, hj, h1, _⟩
  · intro hm
    unfold poolNames at hm
    obtain ⟨x, hx, he⟩ := List.mem_map.1 hm
    have := h2 x hx
    rw [he] at this
    simp at this
  · omega
theorem lastR_pool {p : Pst} (h : ∀ r ∈ p.rules, PoolIn p.pools r.f2) : PoolIn p.pools (lastR p.rules).f2 := by
  unfold lastR
  rw [List.getD_eq_getElem?_getD]
  cases hx : p.rules[p.rules.length - 1]? with
  | none => exact .inl (size_nil (s := ⟨#[]⟩) (by decide))
  | some x => exact h x (List.mem_of_getElem? hx)
theorem gm_deep {p : Pst} {o : Opn} {k v : ByteArray} (h : GM p o) (he : (deepR p o k v).2.2 = 0) : GM (deepR p o k v).1 (deepR p o k v).2.1 := by
  obtain ⟨h1, h2, h3, h4, h5, h6, h7, h8, h9, h10⟩ := h
  cases o with
  | none => exact ⟨h1, h2, h3, h4, h5, h6, h7, h8, h9, trivial⟩
  | rule =>
    refine ⟨h1, h2, h3, h4, h5, fun r hr => ?_, h7, h8, h9, trivial⟩
    have hr' : r ∈ p.rules.set (p.rules.length - 1) (ruleD1 p.pools (lastR p.rules) k v).1 := hr
    have hok := (needE_zero (show needE 0 (ruleD1 p.pools (lastR p.rules) k v).2 = 0 from he)).2
    rcases List.mem_or_eq_of_mem_set hr' with h11 | rfl
    · exact h6 r h11
    · have hl := lastR_pool h6
      show PoolIn p.pools (ruleD1 p.pools (lastR p.rules) k v).1.f2
      unfold ruleD1 at hok ⊢
      split
      · exact hl
      rename_i q1
      rw [if_neg q1] at hok
      split
      · exact hl
      rename_i q2
      rw [if_neg q2] at hok
      split
      · rename_i q3
        rw [if_pos q3] at hok
        have hok' : ((!(lastR p.rules).f4) && decide (0 ≤ idxP (fun x : S44 => x.f0.toList == v.toList) p.pools)) = true := hok
        rw [Bool.and_eq_true, decide_eq_true_eq] at hok'
        exact .inr (idx_pool hok'.2)
      · exact hl
  | pool =>
    have hE : poolDE p 0 k v = 0 := he
    have hok := (needE_zero (show needE 0 (poolD1 (lastP p.pools) k v) = 0 from hE)).2
    have hd := depth_ok hok
    show GM (poolD p 0 k v) .pool
    unfold poolD
    rw [if_pos hE]
    generalize IntKind.i64.wrap (IntKind.u8.wrap (bt v 0 - 48)) = D at hd
    have hnm := names_set p.pools D h10
    have hlen : (p.pools.set (p.pools.length - 1) { lastP p.pools with f1 := D }).length = p.pools.length := List.length_set
    have hlast : lastP p.pools ∈ p.pools := by
      unfold lastP
      rw [List.getD_eq_getElem?_getD, List.getElem?_eq_getElem (show p.pools.length - 1 < p.pools.length by have : 0 < p.pools.length := h10; omega)]
      exact List.getElem_mem _
    refine ⟨fun x hx => ?_, ?_, fun x hx => ?_, fun x hx => ?_, ?_, fun r hr => poolIn_eq hnm (h6 r hr), fun e hx => edgeOk_eq (fun s hs => poolIn_eq hnm hs) (h7 e hx), h8, h9, ?_⟩
    · rcases List.mem_or_eq_of_mem_set hx with h11 | rfl
      · exact h1 x h11
      · show nameMay (lastP p.pools).f0 = true
        exact h1 _ hlast
    · show (poolNames (p.pools.set (p.pools.length - 1) { lastP p.pools with f1 := D })).Nodup
      rw [hnm]; exact h2
    · rcases List.mem_or_eq_of_mem_set hx with h11 | rfl
      · exact h3 x h11
      · exact ⟨by have := hd.1; show 0 ≤ D; omega, hd.2⟩
    · have hx' : x ∈ (p.pools.set (p.pools.length - 1) { lastP p.pools with f1 := D }).dropLast := hx
      have hds : (p.pools.set (p.pools.length - 1) { lastP p.pools with f1 := D }).dropLast = p.pools.dropLast := by
        rw [List.dropLast_eq_take, List.dropLast_eq_take, hlen, List.take_set_of_le (Nat.le_refl _)]
      rw [hds] at hx'
      exact h4 x hx'
    · show (p.pools.set _ _).length ≤ 4
      rw [hlen]; exact h5
    · show 0 < (p.pools.set _ _).length
      rw [hlen]; exact h10
  | build outs ins imp ord r own =>
    exact ⟨h1, h2, h3, h4, h5, h6, h7, h8, h9, h10⟩
theorem one_ok {rest : ByteArray} (h : (oneW 0 rest).2 = 0) : nameMay (oneW 0 rest).1 = true := by
  have h' : needE 0 (oneOk (wordsOf rest)) = 0 := h
  unfold oneW
  rw [if_pos h']
  have hk := (needE_zero h').2
  unfold oneOk at hk
  unfold oneName
  split at hk
  · exact hk
  · exact absurd hk (by decide)
theorem build_lens {s : ByteArray} (h : (buildR s).2.2.2.2.2 = 0) : 0 < (buildR s).1.length ∧ (buildR s).1.length ≤ 8 ∧ (buildR s).2.2.1.length ≤ 8 ∧ (buildR s).2.2.2.1.length ≤ 8 ∧ (buildR s).2.2.2.2.1.length ≤ 8 := by
  have hp : ∀ ws sgn, (partB ws sgn).2.2 = false → (partB ws sgn).1.length ≤ 8 := by
    intro ws sgn hq
    unfold partB at hq ⊢
    split
    · rename_i hs
      rw [if_pos hs] at hq
      have hq' : (decide (nNames (ws.drop 1) < 1) || decide (8 < nNames (ws.drop 1))) = false := hq
      rw [Bool.or_eq_false_iff, decide_eq_false_iff_not, decide_eq_false_iff_not] at hq'
      show ((ws.drop 1).take (nNames (ws.drop 1))).length ≤ 8
      rw [List.length_take]
      omega
    · exact Nat.zero_le _
  cases hb : buildB s with
  | none => rw [show buildR s = ([], ⟨#[]⟩, [], [], [], 700) by unfold buildR; rw [hb]] at h; exact absurd h (by decide)
  | some t =>
    obtain ⟨a, b, c, d, e⟩ := t
    rw [show buildR s = (a, b, c, d, e, 0) by unfold buildR; rw [hb]]
    unfold buildB at hb
    simp only at hb
    split at hb
    · simp at hb
    rename_i q1
    split at hb
    · simp at hb
    split at hb
    · simp at hb
    split at hb
    · simp at hb
    split at hb
    · simp at hb
    rename_i q5
    simp only [Option.some.injEq, Prod.mk.injEq] at hb
    obtain ⟨rfl, rfl, rfl, rfl, rfl⟩ := hb
    simp only [Bool.or_eq_true, decide_eq_true_eq, not_or] at q1 q5
    have hle := nNames_le (wordsOf s)
    refine ⟨by rw [List.length_take]; omega, by rw [List.length_take]; omega, by rw [List.length_take]; omega, hp _ _ (by simpa using q5.1.1.2), hp _ _ (by simpa using q5.1.2)⟩
theorem gm_flat {p : Pst} {t : ByteArray} (h : GM p .none) (he : (flatR p t).2.2 = 0) : GM (flatR p t).1 (flatR p t).2.1 := by
  obtain ⟨h1, h2, h3, h4, h5, h6, h7, h8, h9, _⟩ := h
  unfold flatR at he ⊢
  simp only at he ⊢
  generalize cutC 32 t = c at *
  split at he
  · rename_i hk
    rw [if_pos hk]
    refine ⟨h1, h2, h3, h4, h5, fun r hr => ?_, h7, h8, h9, trivial⟩
    have hr' : r ∈ p.rules ++ [⟨(oneW 0 c.2.1).1, ⟨#[]⟩, ⟨#[]⟩, false, false⟩] := hr
    rcases List.mem_append.1 hr' with h11 | h11
    · exact h6 r h11
    · rw [List.mem_singleton.1 h11]; exact .inl (size_nil (s := ⟨#[]⟩) (by decide))
  rename_i k1
  rw [if_neg k1]
  split at he
  · rename_i hk
    rw [if_pos hk]
    have hr : poolE p 0 c.2.1 = 0 := he
    obtain ⟨a1, a2⟩ := roomE_zero hr
    obtain ⟨a3, a4⟩ := needE_zero a1
    simp only [decide_eq_true_eq] at a2 a4
    have hnm := one_ok a3
    have hno := idx_none a4
    generalize (oneW 0 c.2.1).1 = nm at hnm hno
    have hin : ∀ s, PoolIn p.pools s → PoolIn (p.pools ++ [⟨nm, 0⟩]) s := fun s hs => hs.imp id (fun q => by unfold poolNames at *; rw [List.map_append]; exact List.mem_append_left _ q)
    refine ⟨fun x hx => ?_, ?_, fun x hx => ?_, fun x hx => ?_, ?_, fun r hr => hin _ (h6 r hr), fun e hx => edgeOk_eq hin (h7 e hx), h8, h9, ?_⟩
    · rcases List.mem_append.1 (show x ∈ p.pools ++ [⟨nm, 0⟩] from hx) with h11 | h11
      · exact h1 x h11
      · rw [List.mem_singleton.1 h11]; exact hnm
    · show (poolNames (p.pools ++ [⟨nm, 0⟩])).Nodup
      unfold poolNames
      rw [List.map_append, List.nodup_append]
      refine ⟨h2, by simp, fun a ha b hb => ?_⟩
      have hb' : b = nm.toList := by simpa using hb
      rw [hb']
      exact fun e => hno (e ▸ ha)
    · rcases List.mem_append.1 (show x ∈ p.pools ++ [⟨nm, 0⟩] from hx) with h11 | h11
      · exact h3 x h11
      · rw [List.mem_singleton.1 h11]; exact ⟨Int.le_refl 0, (by decide : (0 : Int) ≤ 8)⟩
    · have hx' : x ∈ (p.pools ++ [(⟨nm, 0⟩ : S44)]).dropLast := hx
      rw [List.dropLast_concat] at hx'
      exact h4 x hx'
    · show (p.pools ++ [_]).length ≤ 4
      rw [List.length_append, List.length_singleton]
      omega
    · show 0 < (p.pools ++ [_]).length
      rw [List.length_append, List.length_singleton]
      omega
  rename_i k2
  rw [if_neg k2]
  split at he
  · rename_i hk
    rw [if_pos hk]
    have hr : buildE2 p (buildR c.2.1) (buildE1 p 0 (buildR c.2.1)) = 0 := he
    show GM p (buildO2 p (buildR c.2.1) (buildE1 p 0 (buildR c.2.1)))
    unfold buildE2 at hr
    unfold buildO2
    split at hr
    · rename_i h0
      rw [if_pos h0]
      obtain ⟨a1, a2⟩ := roomE_zero hr
      simp only [decide_eq_true_eq] at a2
      obtain ⟨b1, b2⟩ := needE_zero h0
      simp only [decide_eq_true_eq] at b2
      obtain ⟨l0, l1, l2, l3, l4⟩ := build_lens (tookE_zero b1).2
      obtain ⟨c1, c2⟩ := cleanErr_zero _ _ a1
      obtain ⟨c3, c4⟩ := cleanErr_zero _ _ c1
      obtain ⟨c5, c6⟩ := cleanErr_zero _ _ c3
      obtain ⟨c7, c8⟩ := cleanErr_zero _ _ c5
      exact ⟨h1, h2, h3, h4, h5, h6, h7, h8, h9, by unfold cleanOut; rw [List.length_map]; exact l0, paths_clean c8 l1, paths_clean c6 l2, paths_clean c4 l3, paths_clean c2 l4, h6 _ (idx_mem p _ b2), by omega⟩
    · rename_i h0
      exact absurd hr h0
  rename_i k3
  rw [if_neg k3]
  split at he
  · rename_i hk
    rw [if_pos hk]
    have hr : defE p 0 c.2.1 = 0 := he
    obtain ⟨a1, a2⟩ := roomE_zero hr
    simp only [decide_eq_true_eq] at a2
    obtain ⟨c1, c2⟩ := cleanErr_zero _ _ a1
    have hl : (wordsOf c.2.1).length ≤ 8 := by
      rw [List.length_append] at a2
      unfold cleanOut at a2
      rw [List.length_map] at a2
      omega
    refine ⟨h1, h2, h3, h4, h5, h6, h7, h8, ⟨fun x hx => ?_, ?_⟩, trivial⟩
    · rcases List.mem_append.1 (show x ∈ p.defs ++ cleanOut (wordsOf c.2.1) from hx) with h11 | h11
      · exact h9.1 x h11
      · exact (paths_clean c2 hl).1 x h11
    · show (p.defs ++ cleanOut (wordsOf c.2.1)).length ≤ 8
      omega
  rename_i k4
  rw [if_neg k4]
  unfold bindFlat at he ⊢
  split at he
  · rename_i h0
    rw [if_pos h0]
    exact ⟨h1, h2, h3, h4, h5, h6, h7, h8, h9, trivial⟩
  · rename_i h0
    exact absurd he h0
theorem gm_line {p : Pst} {o : Opn} {d : Bool} {t : ByteArray} (h : GM p o) (he : (lineR p o d t).2.2 = 0) : GM (lineR p o d t).1 (lineR p o d t).2.1 := by
  unfold lineR at he ⊢
  split at he
  · rename_i hd
    rw [if_pos hd]
    unfold lineDeep at he ⊢
    split at he
    · rename_i h0
      rw [if_pos h0]
      exact gm_deep h he
    · rename_i h0
      exact absurd he h0
  · rename_i hd
    rw [if_neg hd]
    split at he
    · rename_i h0
      rw [if_pos h0]
      exact gm_flat (gm_over h h0) he
    · rename_i h0
      exact absurd he h0
theorem gm_go : ∀ (l : List S59) (p : Pst) (o : Opn), GM p o → (parseGo l p o).2.2 = 0 → GM (parseGo l p o).1 (parseGo l p o).2.1
  | [], p, o, h, _ => h
  | x :: l, p, o, h, he => by
    have e1 : parseGo (x :: l) p o = if (lineR p o x.f0 x.f1).2.2 = 0 then parseGo l (lineR p o x.f0 x.f1).1 (lineR p o x.f0 x.f1).2.1 else lineR p o x.f0 x.f1 := rfl
    rw [e1] at he ⊢
    by_cases h0 : (lineR p o x.f0 x.f1).2.2 = 0
    · rw [if_pos h0] at he ⊢
      exact gm_go l _ _ (gm_line h h0) he
    · rw [if_neg h0] at he
      exact absurd he h0
/-- What is parsed: a graph that may be. -/
theorem gm_parse {s : ByteArray} (h : (parseB s).2.2.2 = 0) : ∃ p, GM p .none ∧ parseB s = (p.edges, p.pools, p.defs, 0) := by
  unfold parseB at h ⊢
  split at h
  · rename_i h0
    rw [if_pos h0]
    unfold parseEnd at h ⊢
    split at h
    · rename_i h1
      rw [if_pos h1]
      split at h
      · rename_i h2
        rw [if_pos h2]
        exact ⟨_, gm_over (gm_go _ _ _ gm0 h1) h2, rfl⟩
      · rename_i h2
        exact absurd h h2
    · rename_i h1
      exact absurd h h1
  · exact absurd h (by decide)
end Go.Proofs.YtefheailchihaaaGreatDoor.Print

end
section
namespace Go.Proofs.YtefheailchihaaaGreatDoor.Print
open Go.RowKit Go.Lib Go.Shelf Go.Proofs.YtefheailchihaaaGreatDoorW.PrintWords Go.Proofs.YtefheailchihaaaGreatDoorW.PrintLast Go.Proofs.YtefheailchihaaaGreatDoorW.PrintMore
set_option linter.unusedVariables false

theorem refPlain1_go (s : ByteArray) (hn : s.size ≤ 256) (h1 : 1 ≤ s.size) (hp : plainL s.data.toList = true) : ∀ (d i k : Nat), i + d = s.size → d < k → crucibleref1_Plain.l0 k s 1 256 (i : Int) = some true
  | _, _, 0, _, h => absurd h (by omega)
  | 0, i, k + 1, h, _ => by
    unfold crucibleref1_Plain.l0
    rw [if_neg (by omega), if_pos (by omega), decide_eq_true (by omega)]
  | d + 1, i, k + 1, h, hk => by
    have hi : i < s.size := by omega
    have hb : (32 : Int) ≤ s[i].toNat ∧ (s[i].toNat : Int) ≤ 126 := by
      unfold plainL at hp
      rw [List.all_eq_true] at hp
      have := hp s[i] (List.mem_of_mem_drop (by rw [drop_cons s i hi]; exact List.mem_cons_self))
      simpa using this
    conv => lhs; unfold crucibleref1_Plain.l0
    rw [if_pos (by omega), if_pos (by omega), bt_natD s i hi, if_neg (by omega), if_neg (by omega), wrapM i (by omega)]
    exact refPlain1_go s hn h1 hp d (i + 1) k (by omega) (by omega)
theorem refEdgeMay {ps : List S44} {e : S42} (h : EdgeOk ps e) (hps : ∀ x ∈ ps, nameMay x.f0 = true) (k : Nat) (hk : 300 ≤ k) : crucibleref1_EdgeMay.f k e.f0 e.f1 e.f2 e.f3 e.f4 e.f5 e.f6 = some true := by
  obtain ⟨h0, h1, h2, h3, h4, h5, h6, h7⟩ := h
  have hsz : (e.f4.size : Int) ≤ 256 := by
    unfold plainB at h5
    simp only [Bool.and_eq_true, decide_eq_true_eq] at h5
    exact h5.2
  have hpl := refPlain1_go e.f4 (by omega) h6 (plainL_ofB h5) e.f4.size 0 k (by omega) (by omega)
  have hpf : crucibleref1_Plain.f k e.f4 1 256 = some true := hpl
  unfold crucibleref1_EdgeMay.f
  rw [if_pos (by omega), refPathsMay e.f0 h1.1 h1.2 k (by omega), refPathsMay e.f1 h2.1 h2.2 k (by omega), refPathsMay e.f2 h3.1 h3.2 k (by omega), refPathsMay e.f3 h4.1 h4.2 k (by omega), hpf]
  simp only [Option.bind_some, if_true]
  rcases h7 with h7 | h7
  · rw [if_pos h7]
  · by_cases h8 : e.f6.toList = []
    · rw [if_pos h8]
    · have hm : nameMay e.f6 = true := by
        unfold poolNames at h7
        obtain ⟨x, hx, he⟩ := List.mem_map.1 h7
        have : x.f0 = e.f6 := ba_ext (by rw [← Lib.toList_data, ← Lib.toList_data]; exact he)
        rw [← this]
        exact hps x hx
      have := nameMay_size hm
      rw [if_neg h8, refNameMay e.f6 (by omega) k (by omega), hm]
      rfl
theorem rd_T44_at (l : List S44) (i : Nat) (h : i < l.length) : rd_T44 l (i : Int) = l[i] := by simp [rd_T44, List.getD_eq_getElem?_getD, h]
theorem rd_T42_atM (l : List S42) (i : Nat) (h : i < l.length) : rd_T42 l (i : Int) = l[i] := by simp [rd_T42, List.getD_eq_getElem?_getD, h]
theorem refPoolAt_go (ps : List S44) (nm : ByteArray) (hl : ps.length ≤ 1000) : ∀ (d i k : Nat), i + d = ps.length → d < k → crucibleref1_poolAt.l0 k ps nm (i : Int) = some (firstFrom (fun x : S44 => x.f0.toList == nm.toList) (ps.drop i) i)
  | _, _, 0, _, h => absurd h (by omega)
  | 0, i, k + 1, h, _ => by
    unfold crucibleref1_poolAt.l0
    rw [if_neg (by omega), List.drop_of_length_le (by omega)]
    rfl
  | d + 1, i, k + 1, h, hk => by
    have hi : i < ps.length := by omega
    conv => lhs; unfold crucibleref1_poolAt.l0
    rw [if_pos (by omega), if_pos (by omega), rd_T44_at ps i hi, firstFrom_drop _ ps i hi, wrapM i (by omega)]
    by_cases hc : ps[i].f0.toList = nm.toList
    · rw [if_pos hc, if_pos (beq_iff_eq.2 hc)]
    · rw [if_neg hc, if_neg (fun e => hc (beq_iff_eq.1 e))]
      exact refPoolAt_go ps nm hl d (i + 1) k (by omega) (by omega)
theorem refPoolAt (ps : List S44) (nm : ByteArray) (hl : ps.length ≤ 1000) (k : Nat) (hk : ps.length < k) : crucibleref1_poolAt.f k ps nm = some (idxP (fun x : S44 => x.f0.toList == nm.toList) ps) := by
  unfold crucibleref1_poolAt.f
  exact refPoolAt_go ps nm hl ps.length 0 k (by omega) hk
theorem pool_self (ps : List S44) (hu : (poolNames ps).Nodup) (i : Nat) (hi : i < ps.length) : idxP (fun x : S44 => x.f0.toList == ps[i].f0.toList) ps = (i : Int) := by
  rcases idxP_cases (fun x : S44 => x.f0.toList == ps[i].f0.toList) ps with ⟨_, h2⟩ | ⟨j, hj, h1, h2, _⟩
  · have := h2 ps[i] (List.getElem_mem hi)
    simp at this
  · rw [h1]
    have h3 : ps[j].f0.toList = ps[i].f0.toList := eq_of_beq h2
    have h4 : (poolNames ps)[j]'(by unfold poolNames; rw [List.length_map]; exact hj) = (poolNames ps)[i]'(by unfold poolNames; rw [List.length_map]; exact hi) := by
      unfold poolNames
      rw [List.getElem_map, List.getElem_map]
      exact h3
    have hp := List.pairwise_iff_getElem.1 hu
    have h5 : j = i := by
      rcases Nat.lt_trichotomy j i with h6 | h6 | h6
      · exact absurd h4 (hp j i _ _ h6)
      · exact h6
      · exact absurd h4.symm (hp i j _ _ h6)
    rw [h5]
theorem pool_some {ps : List S44} {s : ByteArray} (h : s.toList ∈ poolNames ps) : ¬ idxP (fun x : S44 => x.f0.toList == s.toList) ps < 0 := fun e => idx_none e h
theorem gm_l1 {p : Pst} (h : GM p .none) : ∀ (d i k : Nat), i + d = p.edges.length → 400 + d < k → crucibleref1_GraphMay.l1 k (i : Int) p.edges p.pools p.defs = some true
  | _, _, 0, _, h => absurd h (by omega)
  | 0, i, k + 1, hi, hk => by
    have := h.plen
    have := h.elen
    unfold crucibleref1_GraphMay.l1
    rw [if_neg (by omega), if_pos (by omega), if_pos (by omega), refPathsMay p.defs h.defs.1 h.defs.2 k (by omega)]
    rfl
  | d + 1, i, k + 1, hd, hk => by
    have hi : i < p.edges.length := by omega
    have hen := h.elen
    have hpn := h.plen
    have he := h.edges _ (List.getElem_mem hi)
    conv => lhs; unfold crucibleref1_GraphMay.l1
    rw [if_pos (by omega), if_pos (by omega), rd_T42_atM p.edges i hi, refEdgeMay he h.names k (by omega), Option.bind_some, if_pos rfl, wrapM i (by omega)]
    by_cases h8 : p.edges[i].f6.toList = []
    · rw [if_pos h8]
      exact gm_l1 h d (i + 1) k (by omega) (by omega)
    · rw [if_neg h8, refPoolAt p.pools _ (by omega) k (by omega), Option.bind_some, if_neg (pool_some (he.pool.resolve_left h8))]
      exact gm_l1 h d (i + 1) k (by omega) (by omega)
theorem gm_l0 {p : Pst} (h : GM p .none) : ∀ (d i k : Nat), i + d = p.pools.length → 500 + d < k → crucibleref1_GraphMay.l0 k (i : Int) p.edges p.pools p.defs = some true
  | _, _, 0, _, h => absurd h (by omega)
  | 0, i, k + 1, hi, hk => by
    have := h.elen
    unfold crucibleref1_GraphMay.l0
    rw [if_neg (by omega)]
    exact gm_l1 h p.edges.length 0 k (by omega) (by omega)
  | d + 1, i, k + 1, hd, hk => by
    have hi : i < p.pools.length := by omega
    have hpn := h.plen
    have hm := List.getElem_mem hi
    have h1 := h.names _ hm
    have h2 := h.deep _ hm
    have h3 := h.pos _ (show p.pools[i] ∈ posPools p .none from hm)
    have h4 := nameMay_size h1
    conv => lhs; unfold crucibleref1_GraphMay.l0
    rw [if_pos (by omega), if_pos (by omega), rd_T44_at p.pools i hi, refNameMay _ (by omega) k (by omega), h1, Option.bind_some, if_pos rfl, if_neg (by omega), if_neg (by omega), refPoolAt p.pools _ (by omega) k (by omega), pool_self p.pools h.uniq i hi, Option.bind_some, if_pos rfl, wrapM i (by omega)]
    exact gm_l0 h d (i + 1) k (by omega) (by omega)
/-- The errors that a parse tells. -/
def E3 (e : Int) : Prop := e = 0 ∨ e = 800 ∨ e = 801
theorem e3_need {e : Int} (h : E3 e) (b : Bool) : E3 (needE e b) := by
  unfold needE
  split
  · exact .inr (.inl rfl)
  · exact h
theorem e3_room {e : Int} (h : E3 e) (b : Bool) : E3 (roomE e b) := by
  unfold roomE
  split
  · exact .inr (.inr rfl)
  · exact h
theorem e3_took {e : Int} (h : E3 e) (c : Int) : E3 (tookE e c) := e3_need (e3_room h _) _
theorem e3_clean : ∀ (xs : List ByteArray) (e : Int), E3 e → E3 (cleanErr e xs)
  | [], e, h => h
  | x :: xs, e, h => e3_clean xs _ (e3_took h _)
theorem e3_zero : E3 0 := .inl rfl
theorem e3_over (p : Pst) (o : Opn) : E3 (overE p o 0) := by
  cases o with
  | none => exact e3_zero
  | rule => exact e3_need e3_zero _
  | pool => exact e3_need e3_zero _
  | build outs ins imp ord r own => exact e3_need (e3_took (e3_took (e3_took e3_zero _) _) _) _
theorem e3_deep (p : Pst) (o : Opn) (k v : ByteArray) : E3 (deepR p o k v).2.2 := by
  cases o with
  | none => exact e3_zero
  | rule => exact e3_need e3_zero _
  | pool => exact e3_need e3_zero _
  | build outs ins imp ord r own => exact e3_took (e3_took e3_zero _) _
theorem e3_one (s : ByteArray) : E3 (oneW 0 s).2 := e3_need e3_zero _
theorem e3_build (p : Pst) (s : ByteArray) : E3 (buildE p 0 s) := by
  have h1 : E3 (buildE1 p 0 (buildR s)) := e3_need (e3_took e3_zero _) _
  unfold buildE buildE2
  split
  · exact e3_room (e3_clean _ _ (e3_clean _ _ (e3_clean _ _ (e3_clean _ _ h1)))) _
  · exact h1
theorem e3_flat (p : Pst) (t : ByteArray) : E3 (flatR p t).2.2 := by
  unfold flatR
  simp only
  split
  · exact e3_room (e3_need (e3_one _) _) _
  split
  · exact e3_room (e3_need (e3_one _) _) _
  split
  · exact e3_build p _
  split
  · exact e3_room (e3_clean _ _ (e3_need e3_zero _)) _
  · unfold bindFlat
    split
    · exact e3_took (e3_took e3_zero _) _
    · exact e3_need e3_zero _
theorem e3_line (p : Pst) (o : Opn) (d : Bool) (t : ByteArray) : E3 (lineR p o d t).2.2 := by
  unfold lineR
  split
  · unfold lineDeep
    split
    · exact e3_deep _ _ _ _
    · exact e3_need (e3_need e3_zero _) _
  · split
    · exact e3_flat _ _
    · exact e3_over _ _
theorem e3_go : ∀ (l : List S59) (p : Pst) (o : Opn), E3 (parseGo l p o).2.2
  | [], p, o => e3_zero
  | x :: l, p, o => by
    have e1 : parseGo (x :: l) p o = if (lineR p o x.f0 x.f1).2.2 = 0 then parseGo l (lineR p o x.f0 x.f1).1 (lineR p o x.f0 x.f1).2.1 else lineR p o x.f0 x.f1 := rfl
    rw [e1]
    split
    · exact e3_go l _ _
    · exact e3_line _ _ _ _
theorem parse_errs (s : ByteArray) : (parseB s).2.2.2 = 0 ∨ (parseB s = ([], [], [], 800) ∨ parseB s = ([], [], [], 801)) := by
  have key : ∀ e : Int, E3 e → ¬ e = 0 → (([], [], [], e) : List S42 × List S44 × List ByteArray × Int) = ([], [], [], 800) ∨ (([], [], [], e) : List S42 × List S44 × List ByteArray × Int) = ([], [], [], 801) := by
    rintro e (h | h | h) h0
    · exact absurd h h0
    · rw [h]; exact .inl rfl
    · rw [h]; exact .inr rfl
  unfold parseB
  split
  · unfold parseEnd
    split
    · split
      · exact .inl rfl
      · rename_i h
        exact .inr (key _ (e3_over _ _) h)
    · rename_i h
      exact .inr (key _ (e3_go _ _ _) h)
  · exact .inr (.inl rfl)
theorem pure_ManifestMay : cruciblelaw8_ManifestMay.Pure := fun s hs => by
  refine ⟨600, ?_⟩
  have ha : cruciblelaw8_awake.f = some true := rfl
  have hp : manifest_Parse.f s = some (parseB s) := by unfold manifest_Parse.f; rw [if_pos (by omega)]
  unfold cruciblelaw8_ManifestMay.f
  rw [ha, hp]
  simp only [Option.bind_some]
  rw [if_pos trivial]
  rcases parse_errs s with h | h | h
  · obtain ⟨p, hg, he⟩ := gm_parse h
    have hen := hg.elen
    have hpn := hg.plen
    rw [he]
    show ((cruciblelaw0_Num.f 0).bind _) = _
    rw [show cruciblelaw0_Num.f 0 = some 0 by kernel_rfl, Option.bind_some, if_pos rfl]
    have := gm_l0 hg p.pools.length 0 600 (by omega) (by omega)
    rw [show crucibleref1_GraphMay.f 600 p.edges p.pools p.defs = some true from this]
    rfl
  · rw [h]; decide +kernel
  · rw [h]; decide +kernel
end Go.Proofs.YtefheailchihaaaGreatDoor.Print
namespace Go.Proofs.YtefheailchihaaaGreatDoor.Print
open Go.RowKit
theorem ManifestMay_walk (w : World) (a0 : ByteArray) (h0 : a0.size ≤ 140737488351232) : Calls Tryz.prog 8 #[.string a0] w fun e w' => e = .returned (.bool true) ∧ Below w.heap.size w w' := cruciblelaw8_ManifestMay.walk pure_ManifestMay a0 w h0
end Go.Proofs.YtefheailchihaaaGreatDoor.Print

end
