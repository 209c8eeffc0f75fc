/- YtefheailchihaaaGreatDoorSf11: out of this seat's texts (wip/tools/shake.py), what is needed alone. -/
import Derived.Laws.Cover1
import Derived.Test.YtefheailchihaaaGreatDoorSf10
section
namespace Go.Proofs.YtefheailchihaaaGreatDoor.Print
open Go.RowKit Go.Lib Go.Shelf Go.Proofs.YtefheailchihaaaGreatDoorW.PrintWords Go.Proofs.YtefheailchihaaaGreatDoorW.PrintLast Go.Proofs.YtefheailchihaaaGreatDoorW.PrintMore
set_option linter.unusedVariables false
set_option linter.unusedSimpArgs false
attribute [local go_sem ↓] Go.wp_at_zero Go.wp_at_succ

/-- A list's last pool. -/
def lastP (l : List S44) : S44 := l.getD (l.length - 1) z44
def cells44 (x : S44) : List Value := [.string x.f0, .int .i64 x.f1]
theorem pool_last {w : World} {base g c : Nat} {ok : Nat → Prop} {xs : List S44} (h : Kd.R k44 44 w base ok (.slice (some ⟨g, 0, none⟩) xs.length c) xs) (hn : 1 ≤ xs.length) :
    (∀ j u, (cells44 (lastP xs))[j]? = some u → w.cell? ⟨g, (xs.length - 1) * 2 + j, none⟩ = some u) ∧ (∀ j, w.frozen? ⟨g, (xs.length - 1) * 2 + j, none⟩ = false) ∧
    (∀ j u x', j < 2 → (cells44 (lastP xs)).set j u = cells44 x' → Kd.R k44 44 (w.setCell ⟨g, (xs.length - 1) * 2 + j, none⟩ u) base ok (.slice (some ⟨g, 0, none⟩) xs.length c) (xs.set (xs.length - 1) x')) := by
  obtain ⟨cs, hcl, hM, hcc, hfr⟩ := Kd.R_elem h z44 ((xs.length - 1 : Nat) : Int) (by omega) (by omega)
  have hx : xs.getD ((xs.length - 1 : Nat) : Int).toNat z44 = lastP xs := by rw [Int.toNat_natCast]; rfl
  rw [hx] at hM
  obtain rfl := k44_openM hM
  refine ⟨fun j u hj => by have := hcc j u hj; rwa [Int.toNat_natCast] at this, fun j => by have := hfr j; rwa [Int.toNat_natCast] at this, fun j u x' hj hset => ?_⟩
  have hseg := (Kd.R_seg h ((xs.length - 1 : Nat) : Int) (by omega) (by omega) (seg := [u]) (j := j) hcl hcc (show j + 1 ≤ 2 from hj) (x' := x') (okp := fun _ => False) ?_ (fun k hk => hk.elim)).1
  · rw [Int.toNat_natCast] at hseg
    exact hseg
  · have he : [Value.string (lastP xs).f0, .int .i64 (lastP xs).f1].take j ++ [u] ++ [Value.string (lastP xs).f0, .int .i64 (lastP xs).f1].drop (j + [u].length) = cells44 x' := by
      rw [← hset]
      show List.take j (cells44 (lastP xs)) ++ [u] ++ List.drop (j + 1) (cells44 (lastP xs)) = _
      rw [List.set_eq_take_append_cons_drop, if_pos (show j < (cells44 (lastP xs)).length from hj), List.append_assoc]
      rfl
    rw [he]
    exact k44_mkM _ _ _ _
theorem Rows_pools {w w1 : World} {base : Nat} {p : Pst} {vE vP vP' vD vO vR : Value} {S : Nat → Prop} {L : List S44} (h : Rows w base p vE vP vD vO vR) (h5 : Kd.R k44 44 w1 base (fun _ => True) vP' L) (hk : Kept w w1 S) (hS : ∀ k, S k → ∃ cells, w.heap[k]? = some (.cells cells 44 (0, 0))) : Rows w1 base { p with pools := L } vE vP' vD vO vR := by
  obtain ⟨h1, h2, h3, h4, h6⟩ := h
  have ap : ∀ {l : List Nat}, 44 ∉ l → ∀ k, S k → ∃ cells q, w.heap[k]? = some (.cells cells q (0, 0)) ∧ q ∉ l := fun hl k hk => by
    obtain ⟨cs, hc⟩ := hS k hk
    exact ⟨cs, 44, hc, hl⟩
  exact ⟨R_types h1 hk (ap (by decide)), h5, R_types h3 hk (ap (by decide)), R_types h4 hk (ap (by decide)), R_types h6 hk (ap (by decide))⟩
theorem lastP_self (l : List S44) (hn : 1 ≤ l.length) : l.set (l.length - 1) (lastP l) = l := by
  unfold lastP
  rw [List.getD_eq_getElem?_getD, List.getElem?_eq_getElem (by omega)]
  exact List.set_getElem_self (by omega)
theorem pool_done {w : World} {base B Bp Br g c : Nat} {p : Pst} {vE vD vO vR fd fo : Value} {e : Int} {r : S44} (hbB : base ≤ B) (h : Pb w B vE (.slice (some ⟨g, 0, none⟩) p.pools.length c) vD vO vR fd fo e) (hR : Rows w base { p with pools := p.pools.set (p.pools.length - 1) r } vE (.slice (some ⟨g, 0, none⟩) p.pools.length c) vD vO vR)
    (bp : w.heap[Bp]? = some (.cells #[.pointer (some ⟨B, 0, none⟩)] 52 (0, 0))) (br : w.heap[Br]? = some (.cells #[.pointer (some ⟨g, (p.pools.length - 1) * 2, none⟩)] 118 (0, 0)))
    (hfd : fd = .func (.func 83) #[] #[.pointer (some ⟨Bp, 0, none⟩), .pointer (some ⟨Br, 0, none⟩)]) (hfo : fo = .func (.func 84) #[] #[.pointer (some ⟨Bp, 0, none⟩), .pointer (some ⟨Br, 0, none⟩)]) (hn : 1 ≤ p.pools.length) :
    Mst w base B { p with pools := p.pools.set (p.pools.length - 1) r } .pool e := by
  have hl : (p.pools.set (p.pools.length - 1) r).length = p.pools.length := List.length_set
  refine ⟨vE, _, vD, vO, vR, fd, fo, hbB, h, hR, Bp, Br, g, c, hfd, hfo, bp, ?_, ?_, ?_⟩
  · show _ = some (Obj.cells #[Value.pointer (some ⟨g, ((p.pools.set (p.pools.length - 1) r).length - 1) * 2, none⟩)] 118 (0, 0))
    rw [hl]
    exact br
  · show _ = Value.slice _ (p.pools.set (p.pools.length - 1) r).length _
    rw [hl]
  · show 0 < (p.pools.set (p.pools.length - 1) r).length
    rw [hl]
    exact hn
/-- May a pool's variable be that? -/
def poolD1 (x : S44) (key value : ByteArray) : Bool :=
  (key.toList == [100, 101, 112, 116, 104]) && (x.f1 == 0) && ((value.size : Int) == 1) && !(Op.bytesLess value.toList [49]) && (Op.bytesLess value.toList [56] || value.toList == [56])
def poolDE (p : Pst) (e : Int) (key value : ByteArray) : Int := needE e (poolD1 (lastP p.pools) key value)
def poolD (p : Pst) (e : Int) (key value : ByteArray) : Pst := if poolDE p e key value = 0 then { p with pools := p.pools.set (p.pools.length - 1) { lastP p.pools with f1 := IntKind.i64.wrap (IntKind.u8.wrap (bt value 0 - 48)) } } else p
theorem needE_false (e : Int) : ¬ needE e false = 0 := by
  unfold needE
  split
  · decide
  · rename_i h
    exact fun h0 => h ⟨rfl, h0⟩

set_option maxHeartbeats 4000000 in
set_option maxRecDepth 100000 in
theorem deep83_calls (base B Bp Br g c : Nat) (p : Pst) (vE vD vO vR fd fo : Value) (e : Int) (key value : ByteArray) (w : World) (hbB : base ≤ B) (hbg : base ≤ g) (h : Pb w B vE (.slice (some ⟨g, 0, none⟩) p.pools.length c) vD vO vR fd fo e) (hR : Rows w base p vE (.slice (some ⟨g, 0, none⟩) p.pools.length c) vD vO vR) (hn : 1 ≤ p.pools.length)
    (bp : w.heap[Bp]? = some (.cells #[.pointer (some ⟨B, 0, none⟩)] 52 (0, 0))) (br : w.heap[Br]? = some (.cells #[.pointer (some ⟨g, (p.pools.length - 1) * 2, none⟩)] 118 (0, 0)))
    (hfd : fd = .func (.func 83) #[] #[.pointer (some ⟨Bp, 0, none⟩), .pointer (some ⟨Br, 0, none⟩)]) (hfo : fo = .func (.func 84) #[] #[.pointer (some ⟨Bp, 0, none⟩), .pointer (some ⟨Br, 0, none⟩)]) :
    Calls Tryz.prog 83 #[.string key, .string value, .pointer (some ⟨Bp, 0, none⟩), .pointer (some ⟨Br, 0, none⟩)] w fun x w' => x = .returned (.tuple #[]) ∧ Mst w' base B (poolD p e key value) .pool (poolDE p e key value) ∧ Below base w w' := by
  have hBpB : ¬ Bp = B := fun q => heap_ne bp h (by decide) q
  have hBrB : ¬ Br = B := fun q => heap_ne br h (by decide) q
  have hBpg : ¬ Bp = g := by
    obtain ⟨cs, hg⟩ := R_own_type hR.2.1 (k := g) rfl
    exact fun q => heap_ne bp hg (by decide) q
  have hBrg : ¬ Br = g := by
    obtain ⟨cs, hg⟩ := R_own_type hR.2.1 (k := g) rfl
    exact fun q => heap_ne br hg (by decide) q
  have hBg : ¬ B = g := by
    obtain ⟨cs, hg⟩ := R_own_type hR.2.1 (k := g) rfl
    exact fun q => heap_ne h hg (by decide) q
  have hbw : base ≤ w.heap.size := Nat.le_trans hbB (Nat.le_of_lt (blk_lt h))
  have HRW := Aside0.mk hR
  have HPW := Aside0.mk h
  have BPW := Aside0.mk bp
  have BRW := Aside0.mk br
  have HFD := Aside0.mk hfd
  have HFO := Aside0.mk hfo
  obtain ⟨lc, lf, _⟩ := pool_last hR.2.1 hn
  have z0 : w.cell? ⟨Bp, 0, none⟩ = some (.pointer (some ⟨B, 0, none⟩)) := blk_cell bp 0
  have z1 : w.cell? ⟨Br, 0, none⟩ = some (.pointer (some ⟨g, (p.pools.length - 1) * 2, none⟩)) := blk_cell br 0
  have c1 := lc 1 _ rfl
  have hEQ : poolDE p e key value = needE e (poolD1 (lastP p.pools) key value) := rfl
  have hPQ : poolD p e key value = if poolDE p e key value = 0 then { p with pools := p.pools.set (p.pools.length - 1) { lastP p.pools with f1 := IntKind.i64.wrap (IntKind.u8.wrap (bt value 0 - 48)) } } else p := rfl
  unfold poolD1 at hEQ
  have HEQ := Aside0.mk hEQ
  have HPQ := Aside0.mk hPQ
  obtain ⟨E', hE'⟩ : ∃ E', poolDE p e key value = E' := ⟨_, rfl⟩
  obtain ⟨P', hP'⟩ : ∃ P', poolD p e key value = P' := ⟨_, rfl⟩
  rw [hE'] at HEQ HPQ ⊢
  rw [hP'] at HPQ ⊢
  clear h hR bp br hfd hfo lc lf hEQ hPQ hE' hP'
  obtain ⟨r, hr⟩ : ∃ r, lastP p.pools = r := ⟨_, rfl⟩
  rw [hr] at c1 HEQ HPQ
  have HRR := Aside0.mk hr
  clear hr
  obtain ⟨o, ho⟩ : ∃ o, (p.pools.length - 1) * 2 = o := ⟨_, rfl⟩
  have HOO := Aside0.mk ho
  rw [ho] at z1 c1
  clear ho
  go_enter Tryz.func83, Tryz.ntmps83
  go_upto_region 0 with (fail)
  cases t0 : (key.toList == [100, 101, 112, 116, 104]) with
  | false =>
    refine start_ (n := 24) (S := fun w' => w'.cell? ⟨Bp, 0, none⟩ = some (.pointer (some ⟨B, 0, none⟩)) ∧ w'.cell? ⟨Br, 0, none⟩ = some (.pointer (some ⟨g, o, none⟩)) ∧ w'.cell? ⟨g, o + 1, none⟩ = some (.int .i64 r.f1)) (ds := [23]) #[false, false, false, false, false, false, false, false, false, false, false, false, false, false, false, false, false, false, false, false, false, false, false, false] (by kernel_rfl) rfl rfl ⟨z0, z1, c1⟩ (fun hHeld => ?_)
    have HPd := Aside0.mk (pb_below HPW.out (Below.refl _ _).drew)
    have HRd := Aside0.mk (Rows_below HRW.out (Below.refl _ _).drew)
    have BPd := Aside0.mk (blk_below BPW.out (Below.refl _ _).drew)
    have BRd := Aside0.mk (blk_below BRW.out (Below.refl _ _).drew)
    have HBd := Aside0.mk ((Below.refl base w).drew)
    generalize w.drew = wd at HPd HRd BPd BRd HBd hHeld ⊢
    refine pure_ (i := 1) (N := some 7) (v := ?_) (a' := ?_) #[false, true, false, false, false, false, false, false, false, false, false, false, false, false, false, false, false, false, false, false, false, false, false, false] rfl rfl (by kernel_rfl) (fun _ _ _ h => h) (Or.inl ⟨by rfl, ?_⟩) ?_ ?_
    rotate_left
    · intro w'
      go_simp
      with_reducible rfl
    rotate_left
    · simp only [Act.put, List.setIfInBounds_toArray, List.set_cons_zero, List.set_cons_succ, i64_w, i32_w]
      rfl
    refine pure_ (i := 2) (N := some 8) (v := ?_) (a' := ?_) #[false, true, true, false, false, false, false, false, false, false, false, false, false, false, false, false, false, false, false, false, false, false, false, false] rfl rfl (by kernel_rfl) (fun _ _ _ h => h) (Or.inl ⟨by rfl, ?_⟩) ?_ ?_
    rotate_left
    · intro w'
      go_simp
      with_reducible rfl
    rotate_left
    · simp only [Act.put, List.setIfInBounds_toArray, List.set_cons_zero, List.set_cons_succ, i64_w, i32_w]
      rfl
    refine pure_ (i := 3) (N := some 9) (v := ?_) (a' := ?_) #[false, true, true, true, false, false, false, false, false, false, false, false, false, false, false, false, false, false, false, false, false, false, false, false] rfl rfl (by kernel_rfl) (fun _ _ _ h => h) (Or.inl ⟨by rfl, ?_⟩) ?_ ?_
    rotate_left
    · intro w'
      go_simp
      with_reducible rfl
    rotate_left
    · simp only [Act.put, List.setIfInBounds_toArray, List.set_cons_zero, List.set_cons_succ, i64_w, i32_w]
      rfl
    refine pure_ (i := 4) (N := some 10) (v := undef) (a' := ?_) #[false, true, true, true, true, false, false, false, false, false, false, false, false, false, false, false, false, false, false, false, false, false, false, false] rfl rfl (by kernel_rfl) (fun _ _ _ h => h) (Or.inr ⟨by rfl, rfl⟩) ?_ ?_
    rotate_left
    · simp only [Act.put, List.setIfInBounds_toArray, List.set_cons_zero, List.set_cons_succ, i64_w, i32_w]
      rfl
    refine pure_ (i := 5) (N := some 11) (v := undef) (a' := ?_) #[false, true, true, true, true, true, false, false, false, false, false, false, false, false, false, false, false, false, false, false, false, false, false, false] rfl rfl (by kernel_rfl) (fun _ _ _ h => h) (Or.inr ⟨by rfl, rfl⟩) ?_ ?_
    rotate_left
    · simp only [Act.put, List.setIfInBounds_toArray, List.set_cons_zero, List.set_cons_succ, i64_w, i32_w]
      rfl
    refine pure_ (i := 6) (N := some 12) (v := undef) (a' := ?_) #[false, true, true, true, true, true, true, false, false, false, false, false, false, false, false, false, false, false, false, false, false, false, false, false] rfl rfl (by kernel_rfl) (fun _ _ _ h => h) (Or.inr ⟨by rfl, rfl⟩) ?_ ?_
    rotate_left
    · simp only [Act.put, List.setIfInBounds_toArray, List.set_cons_zero, List.set_cons_succ, i64_w, i32_w]
      rfl
    refine pure_ (i := 7) (N := some 13) (v := undef) (a' := ?_) #[false, true, true, true, true, true, true, true, false, false, false, false, false, false, false, false, false, false, false, false, false, false, false, false] rfl rfl (by kernel_rfl) (fun _ _ _ h => h) (Or.inr ⟨by rfl, rfl⟩) ?_ ?_
    rotate_left
    · simp only [Act.put, List.setIfInBounds_toArray, List.set_cons_zero, List.set_cons_succ, i64_w, i32_w]
      rfl
    refine pure_ (i := 8) (N := some 14) (v := undef) (a' := ?_) #[false, true, true, true, true, true, true, true, true, false, false, false, false, false, false, false, false, false, false, false, false, false, false, false] rfl rfl (by kernel_rfl) (fun _ _ _ h => h) (Or.inr ⟨by rfl, rfl⟩) ?_ ?_
    rotate_left
    · simp only [Act.put, List.setIfInBounds_toArray, List.set_cons_zero, List.set_cons_succ, i64_w, i32_w]
      rfl
    refine pure_ (i := 9) (N := some 15) (v := ?_) (a' := ?_) #[false, true, true, true, true, true, true, true, true, true, false, false, false, false, false, false, false, false, false, false, false, false, false, false] rfl rfl (by kernel_rfl) (fun _ _ _ h => h) (Or.inl ⟨by rfl, ?_⟩) ?_ ?_
    rotate_left
    · intro w'
      go_simp
      with_reducible rfl
    rotate_left
    · simp only [Act.put, List.setIfInBounds_toArray, List.set_cons_zero, List.set_cons_succ, i64_w, i32_w]
      rfl
    refine pure_ (i := 10) (N := some 16) (v := ?_) (a' := ?_) #[false, true, true, true, true, true, true, true, true, true, true, false, false, false, false, false, false, false, false, false, false, false, false, false] rfl rfl (by kernel_rfl) (fun _ _ _ h => h) (Or.inl ⟨by rfl, ?_⟩) ?_ ?_
    rotate_left
    · intro w'
      go_simp
      with_reducible rfl
    rotate_left
    · simp only [Act.put, List.setIfInBounds_toArray, List.set_cons_zero, List.set_cons_succ, i64_w, i32_w]
      rfl
    refine pure_ (i := 11) (N := some 17) (v := undef) (a' := ?_) #[false, true, true, true, true, true, true, true, true, true, true, true, false, false, false, false, false, false, false, false, false, false, false, false] rfl rfl (by kernel_rfl) (fun _ _ _ h => h) (Or.inr ⟨by rfl, rfl⟩) ?_ ?_
    rotate_left
    · simp only [Act.put, List.setIfInBounds_toArray, List.set_cons_zero, List.set_cons_succ, i64_w, i32_w]
      rfl
    refine pure_ (i := 12) (N := some 18) (v := undef) (a' := ?_) #[false, true, true, true, true, true, true, true, true, true, true, true, true, false, false, false, false, false, false, false, false, false, false, false] rfl rfl (by kernel_rfl) (fun _ _ _ h => h) (Or.inr ⟨by rfl, rfl⟩) ?_ ?_
    rotate_left
    · simp only [Act.put, List.setIfInBounds_toArray, List.set_cons_zero, List.set_cons_succ, i64_w, i32_w]
      rfl
    refine pure_ (i := 13) (N := some 19) (v := undef) (a' := ?_) #[false, true, true, true, true, true, true, true, true, true, true, true, true, true, false, false, false, false, false, false, false, false, false, false] rfl rfl (by kernel_rfl) (fun _ _ _ h => h) (Or.inr ⟨by rfl, rfl⟩) ?_ ?_
    rotate_left
    · simp only [Act.put, List.setIfInBounds_toArray, List.set_cons_zero, List.set_cons_succ, i64_w, i32_w]
      rfl
    refine pure_ (i := 14) (N := some 20) (v := ?_) (a' := ?_) #[false, true, true, true, true, true, true, true, true, true, true, true, true, true, true, false, false, false, false, false, false, false, false, false] rfl rfl (by kernel_rfl) (fun _ _ _ h => h) (Or.inl ⟨by rfl, ?_⟩) ?_ ?_
    rotate_left
    · intro w'
      go_simp
      with_reducible rfl
    rotate_left
    · simp only [Act.put, List.setIfInBounds_toArray, List.set_cons_zero, List.set_cons_succ, i64_w, i32_w]
      rfl
    refine pure_ (i := 15) (N := some 21) (v := ?_) (a' := ?_) #[false, true, true, true, true, true, true, true, true, true, true, true, true, true, true, true, false, false, false, false, false, false, false, false] rfl rfl (by kernel_rfl) (fun _ _ _ h => h) (Or.inl ⟨by rfl, ?_⟩) ?_ ?_
    rotate_left
    · intro w'
      go_simp
      with_reducible rfl
    rotate_left
    · simp only [Act.put, List.setIfInBounds_toArray, List.set_cons_zero, List.set_cons_succ, i64_w, i32_w]
      rfl
    refine pure_ (i := 16) (N := some 22) (v := undef) (a' := ?_) #[false, true, true, true, true, true, true, true, true, true, true, true, true, true, true, true, true, false, false, false, false, false, false, false] rfl rfl (by kernel_rfl) (fun _ _ _ h => h) (Or.inr ⟨by rfl, rfl⟩) ?_ ?_
    rotate_left
    · simp only [Act.put, List.setIfInBounds_toArray, List.set_cons_zero, List.set_cons_succ, i64_w, i32_w]
      rfl
    refine pure_ (i := 17) (N := some 23) (v := undef) (a' := ?_) #[false, true, true, true, true, true, true, true, true, true, true, true, true, true, true, true, true, true, false, false, false, false, false, false] rfl rfl (by kernel_rfl) (fun _ _ _ h => h) (Or.inr ⟨by rfl, rfl⟩) ?_ ?_
    rotate_left
    · simp only [Act.put, List.setIfInBounds_toArray, List.set_cons_zero, List.set_cons_succ, i64_w, i32_w]
      rfl
    refine pure_ (i := 18) (N := some 24) (v := ?_) (a' := ?_) #[false, true, true, true, true, true, true, true, true, true, true, true, true, true, true, true, true, true, true, false, false, false, false, false] rfl rfl (by kernel_rfl) (fun _ _ _ h => h) (Or.inl ⟨by rfl, ?_⟩) ?_ ?_
    rotate_left
    · intro w'
      go_simp
      with_reducible rfl
    rotate_left
    · simp only [Act.put, List.setIfInBounds_toArray, List.set_cons_zero, List.set_cons_succ, i64_w, i32_w]
      rfl
    refine pure_ (i := 19) (N := some 25) (v := ?_) (a' := ?_) #[false, true, true, true, true, true, true, true, true, true, true, true, true, true, true, true, true, true, true, true, false, false, false, false] rfl rfl (by kernel_rfl) (fun _ _ _ h => h) (Or.inl ⟨by rfl, ?_⟩) ?_ ?_
    rotate_left
    · intro w'
      go_simp
      with_reducible rfl
    rotate_left
    · simp only [Act.put, List.setIfInBounds_toArray, List.set_cons_zero, List.set_cons_succ, i64_w, i32_w]
      rfl
    refine pure_ (i := 20) (N := some 26) (v := undef) (a' := ?_) #[false, true, true, true, true, true, true, true, true, true, true, true, true, true, true, true, true, true, true, true, true, false, false, false] rfl rfl (by kernel_rfl) (fun _ _ _ h => h) (Or.inr ⟨by rfl, rfl⟩) ?_ ?_
    rotate_left
    · simp only [Act.put, List.setIfInBounds_toArray, List.set_cons_zero, List.set_cons_succ, i64_w, i32_w]
      rfl
    refine pure_ (i := 21) (N := some 27) (v := undef) (a' := ?_) #[false, true, true, true, true, true, true, true, true, true, true, true, true, true, true, true, true, true, true, true, true, true, false, false] rfl rfl (by kernel_rfl) (fun _ _ _ h => h) (Or.inr ⟨by rfl, rfl⟩) ?_ ?_
    rotate_left
    · simp only [Act.put, List.setIfInBounds_toArray, List.set_cons_zero, List.set_cons_succ, i64_w, i32_w]
      rfl
    refine pure_ (i := 22) (N := some 28) (v := ?_) (a' := ?_) #[false, true, true, true, true, true, true, true, true, true, true, true, true, true, true, true, true, true, true, true, true, true, true, false] rfl rfl (by kernel_rfl) (fun _ _ _ h => h) (Or.inl ⟨by rfl, ?_⟩) ?_ ?_
    rotate_left
    · intro w'
      go_simp
      with_reducible rfl
    rotate_left
    · simp only [Act.put, List.setIfInBounds_toArray, List.set_cons_zero, List.set_cons_succ, i64_w, i32_w]
      rfl
    refine take_ (i := 0) (N := some 6) (v := ?_) (a' := ?_) #[true, true, true, true, true, true, true, true, true, true, true, true, true, true, true, true, true, true, true, true, true, true, true, false] rfl rfl (by kernel_rfl) (fun _ _ _ h => h) (Or.inl ⟨by rfl, ?_⟩) hHeld ?_ ?_
    rotate_left
    · rintro w' ⟨s0, s1, s2⟩
      go_simp
      with_reducible rfl
    rotate_left
    · simp only [Act.put, List.setIfInBounds_toArray, List.set_cons_zero, List.set_cons_succ, i64_w, i32_w]
      rfl
    refine last_ (i := 23) (N := some 29) #[true, true, true, true, true, true, true, true, true, true, true, true, true, true, true, true, true, true, true, true, true, true, true, true] rfl rfl (by kernel_rfl) (by decide) (fun K hK => ?_)
    refine goes_ Tryz.func40 (by kernel_rfl) rfl #[.pointer (some ⟨B, 0, none⟩), .bool false] (by rfl) rfl rfl (by simp only [List.map_toArray, List.map_cons, List.map_nil]; rfl) ?_
    with_reducible refine (need_calls B vE (.slice (some ⟨g, 0, none⟩) p.pools.length c) vD vO vR fd fo e false _ HPd.out).mono ?_
    rintro x w3 ⟨rfl, hp, hk, hb⟩
    refine ⟨_, rfl, ?_⟩
    have HP3 := Aside0.mk hp
    have HR3 := Aside0.mk (Rows_kept HRd.out hk (apart_one HPd.out (by decide)))
    have BP3 := Aside0.mk (blk_kept BPd.out hk hBpB)
    have BR3 := Aside0.mk (blk_kept BRd.out hk hBrB)
    have HB3 := Aside0.mk (HBd.out.trans (hb base hbB))
    clear hp hk hb HPd HRd BPd BRd HBd
    refine hK.out _ _ ?_
    clear hK K
    refine norm_ (a' := ?_) ?_ ?_
    rotate_left
    · show Act.put _ (some 29) _ = _
      simp only [Act.put, List.setIfInBounds_toArray, List.set_cons_zero, List.set_cons_succ, i64_w, i32_w]
      rfl
    refine done_ (by kernel_rfl) ?_
    have h0 := needE_false e
    have c5 : w3.cell? ⟨B, 7, none⟩ = some (.int .i64 (needE e false)) := blk_cell HP3.out 7
    have y0 : w3.cell? ⟨Bp, 0, none⟩ = some (.pointer (some ⟨B, 0, none⟩)) := blk_cell BP3.out 0
    have hE : needE e false = E' := by rw [HEQ.out]; simp [*]
    have HE := Aside0.mk hE
    clear hE
    obtain ⟨q, hq⟩ : ∃ q, needE e false = q := ⟨_, rfl⟩
    rw [hq] at HP3 HE h0 c5
    clear hq
    have h0b : (q == 0) = false := beq_eq_false_iff_ne.2 h0
    go_wp2_with fail
    go_end0
    refine ⟨rfl, ?_, HB3.out⟩
    have hP : { p with pools := p.pools.set (p.pools.length - 1) (lastP p.pools) } = P' := by rw [HPQ.out, if_neg (by rw [← HE.out]; exact h0), lastP_self _ hn]
    rw [← HE.out, ← hP]
    exact pool_done hbB HP3.out (show Rows _ _ { p with pools := p.pools.set (p.pools.length - 1) (lastP p.pools) } _ _ _ _ _ by rw [lastP_self _ hn]; exact HR3.out) BP3.out BR3.out HFD.out HFO.out hn
  | true =>
    cases t1 : (r.f1 == 0) with
    | false =>
      refine start_ (n := 24) (S := fun w' => w'.cell? ⟨Bp, 0, none⟩ = some (.pointer (some ⟨B, 0, none⟩)) ∧ w'.cell? ⟨Br, 0, none⟩ = some (.pointer (some ⟨g, o, none⟩)) ∧ w'.cell? ⟨g, o + 1, none⟩ = some (.int .i64 r.f1)) (ds := [23]) #[false, false, false, false, false, false, false, false, false, false, false, false, false, false, false, false, false, false, false, false, false, false, false, false] (by kernel_rfl) rfl rfl ⟨z0, z1, c1⟩ (fun hHeld => ?_)
      have HPd := Aside0.mk (pb_below HPW.out (Below.refl _ _).drew)
      have HRd := Aside0.mk (Rows_below HRW.out (Below.refl _ _).drew)
      have BPd := Aside0.mk (blk_below BPW.out (Below.refl _ _).drew)
      have BRd := Aside0.mk (blk_below BRW.out (Below.refl _ _).drew)
      have HBd := Aside0.mk ((Below.refl base w).drew)
      generalize w.drew = wd at HPd HRd BPd BRd HBd hHeld ⊢
      refine pure_ (i := 1) (N := some 7) (v := ?_) (a' := ?_) #[false, true, false, false, false, false, false, false, false, false, false, false, false, false, false, false, false, false, false, false, false, false, false, false] rfl rfl (by kernel_rfl) (fun _ _ _ h => h) (Or.inl ⟨by rfl, ?_⟩) ?_ ?_
      rotate_left
      · intro w'
        go_simp
        with_reducible rfl
      rotate_left
      · simp only [Act.put, List.setIfInBounds_toArray, List.set_cons_zero, List.set_cons_succ, i64_w, i32_w]
        rfl
      refine pure_ (i := 2) (N := some 8) (v := ?_) (a' := ?_) #[false, true, true, false, false, false, false, false, false, false, false, false, false, false, false, false, false, false, false, false, false, false, false, false] rfl rfl (by kernel_rfl) (fun _ _ _ h => h) (Or.inl ⟨by rfl, ?_⟩) ?_ ?_
      rotate_left
      · intro w'
        go_simp
        with_reducible rfl
      rotate_left
      · simp only [Act.put, List.setIfInBounds_toArray, List.set_cons_zero, List.set_cons_succ, i64_w, i32_w]
        rfl
      refine pure_ (i := 3) (N := some 9) (v := ?_) (a' := ?_) #[false, true, true, true, false, false, false, false, false, false, false, false, false, false, false, false, false, false, false, false, false, false, false, false] rfl rfl (by kernel_rfl) (fun _ _ _ h => h) (Or.inl ⟨by rfl, ?_⟩) ?_ ?_
      rotate_left
      · intro w'
        go_simp
        with_reducible rfl
      rotate_left
      · simp only [Act.put, List.setIfInBounds_toArray, List.set_cons_zero, List.set_cons_succ, i64_w, i32_w]
        rfl
      refine take_ (i := 0) (N := some 6) (v := ?_) (a' := ?_) #[true, true, true, true, false, false, false, false, false, false, false, false, false, false, false, false, false, false, false, false, false, false, false, false] rfl rfl (by kernel_rfl) (fun _ _ _ h => h) (Or.inl ⟨by rfl, ?_⟩) hHeld ?_ ?_
      rotate_left
      · rintro w' ⟨s0, s1, s2⟩
        go_simp
        with_reducible rfl
      rotate_left
      · simp only [Act.put, List.setIfInBounds_toArray, List.set_cons_zero, List.set_cons_succ, i64_w, i32_w]
        rfl
      refine take_ (i := 4) (N := some 10) (v := ?_) (a' := ?_) #[true, true, true, true, true, false, false, false, false, false, false, false, false, false, false, false, false, false, false, false, false, false, false, false] rfl rfl (by kernel_rfl) (fun _ _ _ h => h) (Or.inl ⟨by rfl, ?_⟩) hHeld ?_ ?_
      rotate_left
      · rintro w' ⟨s0, s1, s2⟩
        go_simp
        with_reducible rfl
      rotate_left
      · simp only [Act.put, List.setIfInBounds_toArray, List.set_cons_zero, List.set_cons_succ, i64_w, i32_w]
        rfl
      refine pure_ (i := 5) (N := some 11) (v := ?_) (a' := ?_) #[true, true, true, true, true, true, false, false, false, false, false, false, false, false, false, false, false, false, false, false, false, false, false, false] rfl rfl (by kernel_rfl) (fun _ _ _ h => h) (Or.inl ⟨by rfl, ?_⟩) ?_ ?_
      rotate_left
      · intro w'
        go_simp
        with_reducible rfl
      rotate_left
      · simp only [Act.put, List.setIfInBounds_toArray, List.set_cons_zero, List.set_cons_succ, i64_w, i32_w]
        rfl
      refine pure_ (i := 6) (N := some 12) (v := ?_) (a' := ?_) #[true, true, true, true, true, true, true, false, false, false, false, false, false, false, false, false, false, false, false, false, false, false, false, false] rfl rfl (by kernel_rfl) (fun _ _ _ h => h) (Or.inl ⟨by rfl, ?_⟩) ?_ ?_
      rotate_left
      · intro w'
        go_simp
        with_reducible rfl
      rotate_left
      · simp only [Act.put, List.setIfInBounds_toArray, List.set_cons_zero, List.set_cons_succ, i64_w, i32_w]
        rfl
      refine take_ (i := 7) (N := some 13) (v := ?_) (a' := ?_) #[true, true, true, true, true, true, true, true, false, false, false, false, false, false, false, false, false, false, false, false, false, false, false, false] rfl rfl (by kernel_rfl) (fun _ _ _ h => h) (Or.inl ⟨by rfl, ?_⟩) hHeld ?_ ?_
      rotate_left
      · rintro w' ⟨s0, s1, s2⟩
        go_simp
        with_reducible rfl
      rotate_left
      · simp only [Act.put, List.setIfInBounds_toArray, List.set_cons_zero, List.set_cons_succ, i64_w, i32_w]
        rfl
      refine pure_ (i := 8) (N := some 14) (v := ?_) (a' := ?_) #[true, true, true, true, true, true, true, true, true, false, false, false, false, false, false, false, false, false, false, false, false, false, false, false] rfl rfl (by kernel_rfl) (fun _ _ _ h => h) (Or.inl ⟨by rfl, ?_⟩) ?_ ?_
      rotate_left
      · intro w'
        go_simp
        with_reducible rfl
      rotate_left
      · simp only [Act.put, List.setIfInBounds_toArray, List.set_cons_zero, List.set_cons_succ, i64_w, i32_w]
        rfl
      refine pure_ (i := 9) (N := some 15) (v := ?_) (a' := ?_) #[true, true, true, true, true, true, true, true, true, true, false, false, false, false, false, false, false, false, false, false, false, false, false, false] rfl rfl (by kernel_rfl) (fun _ _ _ h => h) (Or.inl ⟨by rfl, ?_⟩) ?_ ?_
      rotate_left
      · intro w'
        go_simp
        with_reducible rfl
      rotate_left
      · simp only [Act.put, List.setIfInBounds_toArray, List.set_cons_zero, List.set_cons_succ, i64_w, i32_w]
        rfl
      refine pure_ (i := 10) (N := some 16) (v := ?_) (a' := ?_) #[true, true, true, true, true, true, true, true, true, true, true, false, false, false, false, false, false, false, false, false, false, false, false, false] rfl rfl (by kernel_rfl) (fun _ _ _ h => h) (Or.inl ⟨by rfl, ?_⟩) ?_ ?_
      rotate_left
      · intro w'
        go_simp
        with_reducible rfl
      rotate_left
      · simp only [Act.put, List.setIfInBounds_toArray, List.set_cons_zero, List.set_cons_succ, i64_w, i32_w]
        rfl
      refine pure_ (i := 11) (N := some 17) (v := undef) (a' := ?_) #[true, true, true, true, true, true, true, true, true, true, true, true, false, false, false, false, false, false, false, false, false, false, false, false] rfl rfl (by kernel_rfl) (fun _ _ _ h => h) (Or.inr ⟨by rfl, rfl⟩) ?_ ?_
      rotate_left
      · simp only [Act.put, List.setIfInBounds_toArray, List.set_cons_zero, List.set_cons_succ, i64_w, i32_w]
        rfl
      refine pure_ (i := 12) (N := some 18) (v := undef) (a' := ?_) #[true, true, true, true, true, true, true, true, true, true, true, true, true, false, false, false, false, false, false, false, false, false, false, false] rfl rfl (by kernel_rfl) (fun _ _ _ h => h) (Or.inr ⟨by rfl, rfl⟩) ?_ ?_
      rotate_left
      · simp only [Act.put, List.setIfInBounds_toArray, List.set_cons_zero, List.set_cons_succ, i64_w, i32_w]
        rfl
      refine pure_ (i := 13) (N := some 19) (v := undef) (a' := ?_) #[true, true, true, true, true, true, true, true, true, true, true, true, true, true, false, false, false, false, false, false, false, false, false, false] rfl rfl (by kernel_rfl) (fun _ _ _ h => h) (Or.inr ⟨by rfl, rfl⟩) ?_ ?_
      rotate_left
      · simp only [Act.put, List.setIfInBounds_toArray, List.set_cons_zero, List.set_cons_succ, i64_w, i32_w]
        rfl
      refine pure_ (i := 14) (N := some 20) (v := ?_) (a' := ?_) #[true, true, true, true, true, true, true, true, true, true, true, true, true, true, true, false, false, false, false, false, false, false, false, false] rfl rfl (by kernel_rfl) (fun _ _ _ h => h) (Or.inl ⟨by rfl, ?_⟩) ?_ ?_
      rotate_left
      · intro w'
        go_simp
        with_reducible rfl
      rotate_left
      · simp only [Act.put, List.setIfInBounds_toArray, List.set_cons_zero, List.set_cons_succ, i64_w, i32_w]
        rfl
      refine pure_ (i := 15) (N := some 21) (v := ?_) (a' := ?_) #[true, true, true, true, true, true, true, true, true, true, true, true, true, true, true, true, false, false, false, false, false, false, false, false] rfl rfl (by kernel_rfl) (fun _ _ _ h => h) (Or.inl ⟨by rfl, ?_⟩) ?_ ?_
      rotate_left
      · intro w'
        go_simp
        with_reducible rfl
      rotate_left
      · simp only [Act.put, List.setIfInBounds_toArray, List.set_cons_zero, List.set_cons_succ, i64_w, i32_w]
        rfl
      refine pure_ (i := 16) (N := some 22) (v := undef) (a' := ?_) #[true, true, true, true, true, true, true, true, true, true, true, true, true, true, true, true, true, false, false, false, false, false, false, false] rfl rfl (by kernel_rfl) (fun _ _ _ h => h) (Or.inr ⟨by rfl, rfl⟩) ?_ ?_
      rotate_left
      · simp only [Act.put, List.setIfInBounds_toArray, List.set_cons_zero, List.set_cons_succ, i64_w, i32_w]
        rfl
      refine pure_ (i := 17) (N := some 23) (v := undef) (a' := ?_) #[true, true, true, true, true, true, true, true, true, true, true, true, true, true, true, true, true, true, false, false, false, false, false, false] rfl rfl (by kernel_rfl) (fun _ _ _ h => h) (Or.inr ⟨by rfl, rfl⟩) ?_ ?_
      rotate_left
      · simp only [Act.put, List.setIfInBounds_toArray, List.set_cons_zero, List.set_cons_succ, i64_w, i32_w]
        rfl
      refine pure_ (i := 18) (N := some 24) (v := ?_) (a' := ?_) #[true, true, true, true, true, true, true, true, true, true, true, true, true, true, true, true, true, true, true, false, false, false, false, false] rfl rfl (by kernel_rfl) (fun _ _ _ h => h) (Or.inl ⟨by rfl, ?_⟩) ?_ ?_
      rotate_left
      · intro w'
        go_simp
        with_reducible rfl
      rotate_left
      · simp only [Act.put, List.setIfInBounds_toArray, List.set_cons_zero, List.set_cons_succ, i64_w, i32_w]
        rfl
      refine pure_ (i := 19) (N := some 25) (v := ?_) (a' := ?_) #[true, true, true, true, true, true, true, true, true, true, true, true, true, true, true, true, true, true, true, true, false, false, false, false] rfl rfl (by kernel_rfl) (fun _ _ _ h => h) (Or.inl ⟨by rfl, ?_⟩) ?_ ?_
      rotate_left
      · intro w'
        go_simp
        with_reducible rfl
      rotate_left
      · simp only [Act.put, List.setIfInBounds_toArray, List.set_cons_zero, List.set_cons_succ, i64_w, i32_w]
        rfl
      refine pure_ (i := 20) (N := some 26) (v := undef) (a' := ?_) #[true, true, true, true, true, true, true, true, true, true, true, true, true, true, true, true, true, true, true, true, true, false, false, false] rfl rfl (by kernel_rfl) (fun _ _ _ h => h) (Or.inr ⟨by rfl, rfl⟩) ?_ ?_
      rotate_left
      · simp only [Act.put, List.setIfInBounds_toArray, List.set_cons_zero, List.set_cons_succ, i64_w, i32_w]
        rfl
      refine pure_ (i := 21) (N := some 27) (v := undef) (a' := ?_) #[true, true, true, true, true, true, true, true, true, true, true, true, true, true, true, true, true, true, true, true, true, true, false, false] rfl rfl (by kernel_rfl) (fun _ _ _ h => h) (Or.inr ⟨by rfl, rfl⟩) ?_ ?_
      rotate_left
      · simp only [Act.put, List.setIfInBounds_toArray, List.set_cons_zero, List.set_cons_succ, i64_w, i32_w]
        rfl
      refine pure_ (i := 22) (N := some 28) (v := ?_) (a' := ?_) #[true, true, true, true, true, true, true, true, true, true, true, true, true, true, true, true, true, true, true, true, true, true, true, false] rfl rfl (by kernel_rfl) (fun _ _ _ h => h) (Or.inl ⟨by rfl, ?_⟩) ?_ ?_
      rotate_left
      · intro w'
        go_simp
        with_reducible rfl
      rotate_left
      · simp only [Act.put, List.setIfInBounds_toArray, List.set_cons_zero, List.set_cons_succ, i64_w, i32_w]
        rfl
      refine last_ (i := 23) (N := some 29) #[true, true, true, true, true, true, true, true, true, true, true, true, true, true, true, true, true, true, true, true, true, true, true, true] rfl rfl (by kernel_rfl) (by decide) (fun K hK => ?_)
      refine goes_ Tryz.func40 (by kernel_rfl) rfl #[.pointer (some ⟨B, 0, none⟩), .bool false] (by rfl) rfl rfl (by simp only [List.map_toArray, List.map_cons, List.map_nil]; rfl) ?_
      with_reducible refine (need_calls B vE (.slice (some ⟨g, 0, none⟩) p.pools.length c) vD vO vR fd fo e false _ HPd.out).mono ?_
      rintro x w3 ⟨rfl, hp, hk, hb⟩
      refine ⟨_, rfl, ?_⟩
      have HP3 := Aside0.mk hp
      have HR3 := Aside0.mk (Rows_kept HRd.out hk (apart_one HPd.out (by decide)))
      have BP3 := Aside0.mk (blk_kept BPd.out hk hBpB)
      have BR3 := Aside0.mk (blk_kept BRd.out hk hBrB)
      have HB3 := Aside0.mk (HBd.out.trans (hb base hbB))
      clear hp hk hb HPd HRd BPd BRd HBd
      refine hK.out _ _ ?_
      clear hK K
      refine norm_ (a' := ?_) ?_ ?_
      rotate_left
      · show Act.put _ (some 29) _ = _
        simp only [Act.put, List.setIfInBounds_toArray, List.set_cons_zero, List.set_cons_succ, i64_w, i32_w]
        rfl
      refine done_ (by kernel_rfl) ?_
      have h0 := needE_false e
      have c5 : w3.cell? ⟨B, 7, none⟩ = some (.int .i64 (needE e false)) := blk_cell HP3.out 7
      have y0 : w3.cell? ⟨Bp, 0, none⟩ = some (.pointer (some ⟨B, 0, none⟩)) := blk_cell BP3.out 0
      have hE : needE e false = E' := by rw [HEQ.out]; simp [*]
      have HE := Aside0.mk hE
      clear hE
      obtain ⟨q, hq⟩ : ∃ q, needE e false = q := ⟨_, rfl⟩
      rw [hq] at HP3 HE h0 c5
      clear hq
      have h0b : (q == 0) = false := beq_eq_false_iff_ne.2 h0
      go_wp2_with fail
      go_end0
      refine ⟨rfl, ?_, HB3.out⟩
      have hP : { p with pools := p.pools.set (p.pools.length - 1) (lastP p.pools) } = P' := by rw [HPQ.out, if_neg (by rw [← HE.out]; exact h0), lastP_self _ hn]
      rw [← HE.out, ← hP]
      exact pool_done hbB HP3.out (show Rows _ _ { p with pools := p.pools.set (p.pools.length - 1) (lastP p.pools) } _ _ _ _ _ by rw [lastP_self _ hn]; exact HR3.out) BP3.out BR3.out HFD.out HFO.out hn
    | true =>
      cases t2 : ((value.size : Int) == 1) with
      | false =>
        refine start_ (n := 24) (S := fun w' => w'.cell? ⟨Bp, 0, none⟩ = some (.pointer (some ⟨B, 0, none⟩)) ∧ w'.cell? ⟨Br, 0, none⟩ = some (.pointer (some ⟨g, o, none⟩)) ∧ w'.cell? ⟨g, o + 1, none⟩ = some (.int .i64 r.f1)) (ds := [23]) #[false, false, false, false, false, false, false, false, false, false, false, false, false, false, false, false, false, false, false, false, false, false, false, false] (by kernel_rfl) rfl rfl ⟨z0, z1, c1⟩ (fun hHeld => ?_)
        have HPd := Aside0.mk (pb_below HPW.out (Below.refl _ _).drew)
        have HRd := Aside0.mk (Rows_below HRW.out (Below.refl _ _).drew)
        have BPd := Aside0.mk (blk_below BPW.out (Below.refl _ _).drew)
        have BRd := Aside0.mk (blk_below BRW.out (Below.refl _ _).drew)
        have HBd := Aside0.mk ((Below.refl base w).drew)
        generalize w.drew = wd at HPd HRd BPd BRd HBd hHeld ⊢
        refine pure_ (i := 1) (N := some 7) (v := ?_) (a' := ?_) #[false, true, false, false, false, false, false, false, false, false, false, false, false, false, false, false, false, false, false, false, false, false, false, false] rfl rfl (by kernel_rfl) (fun _ _ _ h => h) (Or.inl ⟨by rfl, ?_⟩) ?_ ?_
        rotate_left
        · intro w'
          go_simp
          with_reducible rfl
        rotate_left
        · simp only [Act.put, List.setIfInBounds_toArray, List.set_cons_zero, List.set_cons_succ, i64_w, i32_w]
          rfl
        refine pure_ (i := 2) (N := some 8) (v := ?_) (a' := ?_) #[false, true, true, false, false, false, false, false, false, false, false, false, false, false, false, false, false, false, false, false, false, false, false, false] rfl rfl (by kernel_rfl) (fun _ _ _ h => h) (Or.inl ⟨by rfl, ?_⟩) ?_ ?_
        rotate_left
        · intro w'
          go_simp
          with_reducible rfl
        rotate_left
        · simp only [Act.put, List.setIfInBounds_toArray, List.set_cons_zero, List.set_cons_succ, i64_w, i32_w]
          rfl
        refine pure_ (i := 3) (N := some 9) (v := ?_) (a' := ?_) #[false, true, true, true, false, false, false, false, false, false, false, false, false, false, false, false, false, false, false, false, false, false, false, false] rfl rfl (by kernel_rfl) (fun _ _ _ h => h) (Or.inl ⟨by rfl, ?_⟩) ?_ ?_
        rotate_left
        · intro w'
          go_simp
          with_reducible rfl
        rotate_left
        · simp only [Act.put, List.setIfInBounds_toArray, List.set_cons_zero, List.set_cons_succ, i64_w, i32_w]
          rfl
        refine take_ (i := 0) (N := some 6) (v := ?_) (a' := ?_) #[true, true, true, true, false, false, false, false, false, false, false, false, false, false, false, false, false, false, false, false, false, false, false, false] rfl rfl (by kernel_rfl) (fun _ _ _ h => h) (Or.inl ⟨by rfl, ?_⟩) hHeld ?_ ?_
        rotate_left
        · rintro w' ⟨s0, s1, s2⟩
          go_simp
          with_reducible rfl
        rotate_left
        · simp only [Act.put, List.setIfInBounds_toArray, List.set_cons_zero, List.set_cons_succ, i64_w, i32_w]
          rfl
        refine take_ (i := 4) (N := some 10) (v := ?_) (a' := ?_) #[true, true, true, true, true, false, false, false, false, false, false, false, false, false, false, false, false, false, false, false, false, false, false, false] rfl rfl (by kernel_rfl) (fun _ _ _ h => h) (Or.inl ⟨by rfl, ?_⟩) hHeld ?_ ?_
        rotate_left
        · rintro w' ⟨s0, s1, s2⟩
          go_simp
          with_reducible rfl
        rotate_left
        · simp only [Act.put, List.setIfInBounds_toArray, List.set_cons_zero, List.set_cons_succ, i64_w, i32_w]
          rfl
        refine pure_ (i := 5) (N := some 11) (v := ?_) (a' := ?_) #[true, true, true, true, true, true, false, false, false, false, false, false, false, false, false, false, false, false, false, false, false, false, false, false] rfl rfl (by kernel_rfl) (fun _ _ _ h => h) (Or.inl ⟨by rfl, ?_⟩) ?_ ?_
        rotate_left
        · intro w'
          go_simp
          with_reducible rfl
        rotate_left
        · simp only [Act.put, List.setIfInBounds_toArray, List.set_cons_zero, List.set_cons_succ, i64_w, i32_w]
          rfl
        refine pure_ (i := 6) (N := some 12) (v := ?_) (a' := ?_) #[true, true, true, true, true, true, true, false, false, false, false, false, false, false, false, false, false, false, false, false, false, false, false, false] rfl rfl (by kernel_rfl) (fun _ _ _ h => h) (Or.inl ⟨by rfl, ?_⟩) ?_ ?_
        rotate_left
        · intro w'
          go_simp
          with_reducible rfl
        rotate_left
        · simp only [Act.put, List.setIfInBounds_toArray, List.set_cons_zero, List.set_cons_succ, i64_w, i32_w]
          rfl
        refine take_ (i := 7) (N := some 13) (v := ?_) (a' := ?_) #[true, true, true, true, true, true, true, true, false, false, false, false, false, false, false, false, false, false, false, false, false, false, false, false] rfl rfl (by kernel_rfl) (fun _ _ _ h => h) (Or.inl ⟨by rfl, ?_⟩) hHeld ?_ ?_
        rotate_left
        · rintro w' ⟨s0, s1, s2⟩
          go_simp
          with_reducible rfl
        rotate_left
        · simp only [Act.put, List.setIfInBounds_toArray, List.set_cons_zero, List.set_cons_succ, i64_w, i32_w]
          rfl
        refine pure_ (i := 8) (N := some 14) (v := ?_) (a' := ?_) #[true, true, true, true, true, true, true, true, true, false, false, false, false, false, false, false, false, false, false, false, false, false, false, false] rfl rfl (by kernel_rfl) (fun _ _ _ h => h) (Or.inl ⟨by rfl, ?_⟩) ?_ ?_
        rotate_left
        · intro w'
          go_simp
          with_reducible rfl
        rotate_left
        · simp only [Act.put, List.setIfInBounds_toArray, List.set_cons_zero, List.set_cons_succ, i64_w, i32_w]
          rfl
        refine pure_ (i := 9) (N := some 15) (v := ?_) (a' := ?_) #[true, true, true, true, true, true, true, true, true, true, false, false, false, false, false, false, false, false, false, false, false, false, false, false] rfl rfl (by kernel_rfl) (fun _ _ _ h => h) (Or.inl ⟨by rfl, ?_⟩) ?_ ?_
        rotate_left
        · intro w'
          go_simp
          with_reducible rfl
        rotate_left
        · simp only [Act.put, List.setIfInBounds_toArray, List.set_cons_zero, List.set_cons_succ, i64_w, i32_w]
          rfl
        refine pure_ (i := 10) (N := some 16) (v := ?_) (a' := ?_) #[true, true, true, true, true, true, true, true, true, true, true, false, false, false, false, false, false, false, false, false, false, false, false, false] rfl rfl (by kernel_rfl) (fun _ _ _ h => h) (Or.inl ⟨by rfl, ?_⟩) ?_ ?_
        rotate_left
        · intro w'
          go_simp
          with_reducible rfl
        rotate_left
        · simp only [Act.put, List.setIfInBounds_toArray, List.set_cons_zero, List.set_cons_succ, i64_w, i32_w]
          rfl
        refine pure_ (i := 11) (N := some 17) (v := ?_) (a' := ?_) #[true, true, true, true, true, true, true, true, true, true, true, true, false, false, false, false, false, false, false, false, false, false, false, false] rfl rfl (by kernel_rfl) (fun _ _ _ h => h) (Or.inl ⟨by rfl, ?_⟩) ?_ ?_
        rotate_left
        · intro w'
          go_simp
          with_reducible rfl
        rotate_left
        · simp only [Act.put, List.setIfInBounds_toArray, List.set_cons_zero, List.set_cons_succ, i64_w, i32_w]
          rfl
        refine pure_ (i := 12) (N := some 18) (v := ?_) (a' := ?_) #[true, true, true, true, true, true, true, true, true, true, true, true, true, false, false, false, false, false, false, false, false, false, false, false] rfl rfl (by kernel_rfl) (fun _ _ _ h => h) (Or.inl ⟨by rfl, ?_⟩) ?_ ?_
        rotate_left
        · intro w'
          go_simp
          with_reducible rfl
        rotate_left
        · simp only [Act.put, List.setIfInBounds_toArray, List.set_cons_zero, List.set_cons_succ, i64_w, i32_w]
          rfl
        refine pure_ (i := 13) (N := some 19) (v := ?_) (a' := ?_) #[true, true, true, true, true, true, true, true, true, true, true, true, true, true, false, false, false, false, false, false, false, false, false, false] rfl rfl (by kernel_rfl) (fun _ _ _ h => h) (Or.inl ⟨by rfl, ?_⟩) ?_ ?_
        rotate_left
        · intro w'
          go_simp
          with_reducible rfl
        rotate_left
        · simp only [Act.put, List.setIfInBounds_toArray, List.set_cons_zero, List.set_cons_succ, i64_w, i32_w]
          rfl
        refine pure_ (i := 14) (N := some 20) (v := ?_) (a' := ?_) #[true, true, true, true, true, true, true, true, true, true, true, true, true, true, true, false, false, false, false, false, false, false, false, false] rfl rfl (by kernel_rfl) (fun _ _ _ h => h) (Or.inl ⟨by rfl, ?_⟩) ?_ ?_
        rotate_left
        · intro w'
          go_simp
          with_reducible rfl
        rotate_left
        · simp only [Act.put, List.setIfInBounds_toArray, List.set_cons_zero, List.set_cons_succ, i64_w, i32_w]
          rfl
        refine pure_ (i := 15) (N := some 21) (v := ?_) (a' := ?_) #[true, true, true, true, true, true, true, true, true, true, true, true, true, true, true, true, false, false, false, false, false, false, false, false] rfl rfl (by kernel_rfl) (fun _ _ _ h => h) (Or.inl ⟨by rfl, ?_⟩) ?_ ?_
        rotate_left
        · intro w'
          go_simp
          with_reducible rfl
        rotate_left
        · simp only [Act.put, List.setIfInBounds_toArray, List.set_cons_zero, List.set_cons_succ, i64_w, i32_w]
          rfl
        refine pure_ (i := 16) (N := some 22) (v := undef) (a' := ?_) #[true, true, true, true, true, true, true, true, true, true, true, true, true, true, true, true, true, false, false, false, false, false, false, false] rfl rfl (by kernel_rfl) (fun _ _ _ h => h) (Or.inr ⟨by rfl, rfl⟩) ?_ ?_
        rotate_left
        · simp only [Act.put, List.setIfInBounds_toArray, List.set_cons_zero, List.set_cons_succ, i64_w, i32_w]
          rfl
        refine pure_ (i := 17) (N := some 23) (v := undef) (a' := ?_) #[true, true, true, true, true, true, true, true, true, true, true, true, true, true, true, true, true, true, false, false, false, false, false, false] rfl rfl (by kernel_rfl) (fun _ _ _ h => h) (Or.inr ⟨by rfl, rfl⟩) ?_ ?_
        rotate_left
        · simp only [Act.put, List.setIfInBounds_toArray, List.set_cons_zero, List.set_cons_succ, i64_w, i32_w]
          rfl
        refine pure_ (i := 18) (N := some 24) (v := ?_) (a' := ?_) #[true, true, true, true, true, true, true, true, true, true, true, true, true, true, true, true, true, true, true, false, false, false, false, false] rfl rfl (by kernel_rfl) (fun _ _ _ h => h) (Or.inl ⟨by rfl, ?_⟩) ?_ ?_
        rotate_left
        · intro w'
          go_simp
          with_reducible rfl
        rotate_left
        · simp only [Act.put, List.setIfInBounds_toArray, List.set_cons_zero, List.set_cons_succ, i64_w, i32_w]
          rfl
        refine pure_ (i := 19) (N := some 25) (v := ?_) (a' := ?_) #[true, true, true, true, true, true, true, true, true, true, true, true, true, true, true, true, true, true, true, true, false, false, false, false] rfl rfl (by kernel_rfl) (fun _ _ _ h => h) (Or.inl ⟨by rfl, ?_⟩) ?_ ?_
        rotate_left
        · intro w'
          go_simp
          with_reducible rfl
        rotate_left
        · simp only [Act.put, List.setIfInBounds_toArray, List.set_cons_zero, List.set_cons_succ, i64_w, i32_w]
          rfl
        refine pure_ (i := 20) (N := some 26) (v := undef) (a' := ?_) #[true, true, true, true, true, true, true, true, true, true, true, true, true, true, true, true, true, true, true, true, true, false, false, false] rfl rfl (by kernel_rfl) (fun _ _ _ h => h) (Or.inr ⟨by rfl, rfl⟩) ?_ ?_
        rotate_left
        · simp only [Act.put, List.setIfInBounds_toArray, List.set_cons_zero, List.set_cons_succ, i64_w, i32_w]
          rfl
        refine pure_ (i := 21) (N := some 27) (v := undef) (a' := ?_) #[true, true, true, true, true, true, true, true, true, true, true, true, true, true, true, true, true, true, true, true, true, true, false, false] rfl rfl (by kernel_rfl) (fun _ _ _ h => h) (Or.inr ⟨by rfl, rfl⟩) ?_ ?_
        rotate_left
        · simp only [Act.put, List.setIfInBounds_toArray, List.set_cons_zero, List.set_cons_succ, i64_w, i32_w]
          rfl
        refine pure_ (i := 22) (N := some 28) (v := ?_) (a' := ?_) #[true, true, true, true, true, true, true, true, true, true, true, true, true, true, true, true, true, true, true, true, true, true, true, false] rfl rfl (by kernel_rfl) (fun _ _ _ h => h) (Or.inl ⟨by rfl, ?_⟩) ?_ ?_
        rotate_left
        · intro w'
          go_simp
          with_reducible rfl
        rotate_left
        · simp only [Act.put, List.setIfInBounds_toArray, List.set_cons_zero, List.set_cons_succ, i64_w, i32_w]
          rfl
        refine last_ (i := 23) (N := some 29) #[true, true, true, true, true, true, true, true, true, true, true, true, true, true, true, true, true, true, true, true, true, true, true, true] rfl rfl (by kernel_rfl) (by decide) (fun K hK => ?_)
        refine goes_ Tryz.func40 (by kernel_rfl) rfl #[.pointer (some ⟨B, 0, none⟩), .bool false] (by rfl) rfl rfl (by simp only [List.map_toArray, List.map_cons, List.map_nil]; rfl) ?_
        with_reducible refine (need_calls B vE (.slice (some ⟨g, 0, none⟩) p.pools.length c) vD vO vR fd fo e false _ HPd.out).mono ?_
        rintro x w3 ⟨rfl, hp, hk, hb⟩
        refine ⟨_, rfl, ?_⟩
        have HP3 := Aside0.mk hp
        have HR3 := Aside0.mk (Rows_kept HRd.out hk (apart_one HPd.out (by decide)))
        have BP3 := Aside0.mk (blk_kept BPd.out hk hBpB)
        have BR3 := Aside0.mk (blk_kept BRd.out hk hBrB)
        have HB3 := Aside0.mk (HBd.out.trans (hb base hbB))
        clear hp hk hb HPd HRd BPd BRd HBd
        refine hK.out _ _ ?_
        clear hK K
        refine norm_ (a' := ?_) ?_ ?_
        rotate_left
        · show Act.put _ (some 29) _ = _
          simp only [Act.put, List.setIfInBounds_toArray, List.set_cons_zero, List.set_cons_succ, i64_w, i32_w]
          rfl
        refine done_ (by kernel_rfl) ?_
        have h0 := needE_false e
        have c5 : w3.cell? ⟨B, 7, none⟩ = some (.int .i64 (needE e false)) := blk_cell HP3.out 7
        have y0 : w3.cell? ⟨Bp, 0, none⟩ = some (.pointer (some ⟨B, 0, none⟩)) := blk_cell BP3.out 0
        have hE : needE e false = E' := by rw [HEQ.out]; simp [*]
        have HE := Aside0.mk hE
        clear hE
        obtain ⟨q, hq⟩ : ∃ q, needE e false = q := ⟨_, rfl⟩
        rw [hq] at HP3 HE h0 c5
        clear hq
        have h0b : (q == 0) = false := beq_eq_false_iff_ne.2 h0
        go_wp2_with fail
        go_end0
        refine ⟨rfl, ?_, HB3.out⟩
        have hP : { p with pools := p.pools.set (p.pools.length - 1) (lastP p.pools) } = P' := by rw [HPQ.out, if_neg (by rw [← HE.out]; exact h0), lastP_self _ hn]
        rw [← HE.out, ← hP]
        exact pool_done hbB HP3.out (show Rows _ _ { p with pools := p.pools.set (p.pools.length - 1) (lastP p.pools) } _ _ _ _ _ by rw [lastP_self _ hn]; exact HR3.out) BP3.out BR3.out HFD.out HFO.out hn
      | true =>
        cases t3 : (Op.bytesLess value.toList [49]) with
        | true =>
          refine start_ (n := 24) (S := fun w' => w'.cell? ⟨Bp, 0, none⟩ = some (.pointer (some ⟨B, 0, none⟩)) ∧ w'.cell? ⟨Br, 0, none⟩ = some (.pointer (some ⟨g, o, none⟩)) ∧ w'.cell? ⟨g, o + 1, none⟩ = some (.int .i64 r.f1)) (ds := [23]) #[false, false, false, false, false, false, false, false, false, false, false, false, false, false, false, false, false, false, false, false, false, false, false, false] (by kernel_rfl) rfl rfl ⟨z0, z1, c1⟩ (fun hHeld => ?_)
          have HPd := Aside0.mk (pb_below HPW.out (Below.refl _ _).drew)
          have HRd := Aside0.mk (Rows_below HRW.out (Below.refl _ _).drew)
          have BPd := Aside0.mk (blk_below BPW.out (Below.refl _ _).drew)
          have BRd := Aside0.mk (blk_below BRW.out (Below.refl _ _).drew)
          have HBd := Aside0.mk ((Below.refl base w).drew)
          generalize w.drew = wd at HPd HRd BPd BRd HBd hHeld ⊢
          refine pure_ (i := 1) (N := some 7) (v := ?_) (a' := ?_) #[false, true, false, false, false, false, false, false, false, false, false, false, false, false, false, false, false, false, false, false, false, false, false, false] rfl rfl (by kernel_rfl) (fun _ _ _ h => h) (Or.inl ⟨by rfl, ?_⟩) ?_ ?_
          rotate_left
          · intro w'
            go_simp
            with_reducible rfl
          rotate_left
          · simp only [Act.put, List.setIfInBounds_toArray, List.set_cons_zero, List.set_cons_succ, i64_w, i32_w]
            rfl
          refine pure_ (i := 2) (N := some 8) (v := ?_) (a' := ?_) #[false, true, true, false, false, false, false, false, false, false, false, false, false, false, false, false, false, false, false, false, false, false, false, false] rfl rfl (by kernel_rfl) (fun _ _ _ h => h) (Or.inl ⟨by rfl, ?_⟩) ?_ ?_
          rotate_left
          · intro w'
            go_simp
            with_reducible rfl
          rotate_left
          · simp only [Act.put, List.setIfInBounds_toArray, List.set_cons_zero, List.set_cons_succ, i64_w, i32_w]
            rfl
          refine pure_ (i := 3) (N := some 9) (v := ?_) (a' := ?_) #[false, true, true, true, false, false, false, false, false, false, false, false, false, false, false, false, false, false, false, false, false, false, false, false] rfl rfl (by kernel_rfl) (fun _ _ _ h => h) (Or.inl ⟨by rfl, ?_⟩) ?_ ?_
          rotate_left
          · intro w'
            go_simp
            with_reducible rfl
          rotate_left
          · simp only [Act.put, List.setIfInBounds_toArray, List.set_cons_zero, List.set_cons_succ, i64_w, i32_w]
            rfl
          refine take_ (i := 0) (N := some 6) (v := ?_) (a' := ?_) #[true, true, true, true, false, false, false, false, false, false, false, false, false, false, false, false, false, false, false, false, false, false, false, false] rfl rfl (by kernel_rfl) (fun _ _ _ h => h) (Or.inl ⟨by rfl, ?_⟩) hHeld ?_ ?_
          rotate_left
          · rintro w' ⟨s0, s1, s2⟩
            go_simp
            with_reducible rfl
          rotate_left
          · simp only [Act.put, List.setIfInBounds_toArray, List.set_cons_zero, List.set_cons_succ, i64_w, i32_w]
            rfl
          refine take_ (i := 4) (N := some 10) (v := ?_) (a' := ?_) #[true, true, true, true, true, false, false, false, false, false, false, false, false, false, false, false, false, false, false, false, false, false, false, false] rfl rfl (by kernel_rfl) (fun _ _ _ h => h) (Or.inl ⟨by rfl, ?_⟩) hHeld ?_ ?_
          rotate_left
          · rintro w' ⟨s0, s1, s2⟩
            go_simp
            with_reducible rfl
          rotate_left
          · simp only [Act.put, List.setIfInBounds_toArray, List.set_cons_zero, List.set_cons_succ, i64_w, i32_w]
            rfl
          refine pure_ (i := 5) (N := some 11) (v := ?_) (a' := ?_) #[true, true, true, true, true, true, false, false, false, false, false, false, false, false, false, false, false, false, false, false, false, false, false, false] rfl rfl (by kernel_rfl) (fun _ _ _ h => h) (Or.inl ⟨by rfl, ?_⟩) ?_ ?_
          rotate_left
          · intro w'
            go_simp
            with_reducible rfl
          rotate_left
          · simp only [Act.put, List.setIfInBounds_toArray, List.set_cons_zero, List.set_cons_succ, i64_w, i32_w]
            rfl
          refine pure_ (i := 6) (N := some 12) (v := ?_) (a' := ?_) #[true, true, true, true, true, true, true, false, false, false, false, false, false, false, false, false, false, false, false, false, false, false, false, false] rfl rfl (by kernel_rfl) (fun _ _ _ h => h) (Or.inl ⟨by rfl, ?_⟩) ?_ ?_
          rotate_left
          · intro w'
            go_simp
            with_reducible rfl
          rotate_left
          · simp only [Act.put, List.setIfInBounds_toArray, List.set_cons_zero, List.set_cons_succ, i64_w, i32_w]
            rfl
          refine take_ (i := 7) (N := some 13) (v := ?_) (a' := ?_) #[true, true, true, true, true, true, true, true, false, false, false, false, false, false, false, false, false, false, false, false, false, false, false, false] rfl rfl (by kernel_rfl) (fun _ _ _ h => h) (Or.inl ⟨by rfl, ?_⟩) hHeld ?_ ?_
          rotate_left
          · rintro w' ⟨s0, s1, s2⟩
            go_simp
            with_reducible rfl
          rotate_left
          · simp only [Act.put, List.setIfInBounds_toArray, List.set_cons_zero, List.set_cons_succ, i64_w, i32_w]
            rfl
          refine pure_ (i := 8) (N := some 14) (v := ?_) (a' := ?_) #[true, true, true, true, true, true, true, true, true, false, false, false, false, false, false, false, false, false, false, false, false, false, false, false] rfl rfl (by kernel_rfl) (fun _ _ _ h => h) (Or.inl ⟨by rfl, ?_⟩) ?_ ?_
          rotate_left
          · intro w'
            go_simp
            with_reducible rfl
          rotate_left
          · simp only [Act.put, List.setIfInBounds_toArray, List.set_cons_zero, List.set_cons_succ, i64_w, i32_w]
            rfl
          refine pure_ (i := 9) (N := some 15) (v := ?_) (a' := ?_) #[true, true, true, true, true, true, true, true, true, true, false, false, false, false, false, false, false, false, false, false, false, false, false, false] rfl rfl (by kernel_rfl) (fun _ _ _ h => h) (Or.inl ⟨by rfl, ?_⟩) ?_ ?_
          rotate_left
          · intro w'
            go_simp
            with_reducible rfl
          rotate_left
          · simp only [Act.put, List.setIfInBounds_toArray, List.set_cons_zero, List.set_cons_succ, i64_w, i32_w]
            rfl
          refine pure_ (i := 10) (N := some 16) (v := ?_) (a' := ?_) #[true, true, true, true, true, true, true, true, true, true, true, false, false, false, false, false, false, false, false, false, false, false, false, false] rfl rfl (by kernel_rfl) (fun _ _ _ h => h) (Or.inl ⟨by rfl, ?_⟩) ?_ ?_
          rotate_left
          · intro w'
            go_simp
            with_reducible rfl
          rotate_left
          · simp only [Act.put, List.setIfInBounds_toArray, List.set_cons_zero, List.set_cons_succ, i64_w, i32_w]
            rfl
          refine pure_ (i := 11) (N := some 17) (v := ?_) (a' := ?_) #[true, true, true, true, true, true, true, true, true, true, true, true, false, false, false, false, false, false, false, false, false, false, false, false] rfl rfl (by kernel_rfl) (fun _ _ _ h => h) (Or.inl ⟨by rfl, ?_⟩) ?_ ?_
          rotate_left
          · intro w'
            go_simp
            with_reducible rfl
          rotate_left
          · simp only [Act.put, List.setIfInBounds_toArray, List.set_cons_zero, List.set_cons_succ, i64_w, i32_w]
            rfl
          refine pure_ (i := 12) (N := some 18) (v := ?_) (a' := ?_) #[true, true, true, true, true, true, true, true, true, true, true, true, true, false, false, false, false, false, false, false, false, false, false, false] rfl rfl (by kernel_rfl) (fun _ _ _ h => h) (Or.inl ⟨by rfl, ?_⟩) ?_ ?_
          rotate_left
          · intro w'
            go_simp
            with_reducible rfl
          rotate_left
          · simp only [Act.put, List.setIfInBounds_toArray, List.set_cons_zero, List.set_cons_succ, i64_w, i32_w]
            rfl
          refine pure_ (i := 13) (N := some 19) (v := ?_) (a' := ?_) #[true, true, true, true, true, true, true, true, true, true, true, true, true, true, false, false, false, false, false, false, false, false, false, false] rfl rfl (by kernel_rfl) (fun _ _ _ h => h) (Or.inl ⟨by rfl, ?_⟩) ?_ ?_
          rotate_left
          · intro w'
            go_simp
            with_reducible rfl
          rotate_left
          · simp only [Act.put, List.setIfInBounds_toArray, List.set_cons_zero, List.set_cons_succ, i64_w, i32_w]
            rfl
          refine pure_ (i := 14) (N := some 20) (v := ?_) (a' := ?_) #[true, true, true, true, true, true, true, true, true, true, true, true, true, true, true, false, false, false, false, false, false, false, false, false] rfl rfl (by kernel_rfl) (fun _ _ _ h => h) (Or.inl ⟨by rfl, ?_⟩) ?_ ?_
          rotate_left
          · intro w'
            go_simp
            with_reducible rfl
          rotate_left
          · simp only [Act.put, List.setIfInBounds_toArray, List.set_cons_zero, List.set_cons_succ, i64_w, i32_w]
            rfl
          refine pure_ (i := 15) (N := some 21) (v := ?_) (a' := ?_) #[true, true, true, true, true, true, true, true, true, true, true, true, true, true, true, true, false, false, false, false, false, false, false, false] rfl rfl (by kernel_rfl) (fun _ _ _ h => h) (Or.inl ⟨by rfl, ?_⟩) ?_ ?_
          rotate_left
          · intro w'
            go_simp
            with_reducible rfl
          rotate_left
          · simp only [Act.put, List.setIfInBounds_toArray, List.set_cons_zero, List.set_cons_succ, i64_w, i32_w]
            rfl
          refine pure_ (i := 16) (N := some 22) (v := ?_) (a' := ?_) #[true, true, true, true, true, true, true, true, true, true, true, true, true, true, true, true, true, false, false, false, false, false, false, false] rfl rfl (by kernel_rfl) (fun _ _ _ h => h) (Or.inl ⟨by rfl, ?_⟩) ?_ ?_
          rotate_left
          · intro w'
            go_simp
            with_reducible rfl
          rotate_left
          · simp only [Act.put, List.setIfInBounds_toArray, List.set_cons_zero, List.set_cons_succ, i64_w, i32_w]
            rfl
          refine pure_ (i := 17) (N := some 23) (v := ?_) (a' := ?_) #[true, true, true, true, true, true, true, true, true, true, true, true, true, true, true, true, true, true, false, false, false, false, false, false] rfl rfl (by kernel_rfl) (fun _ _ _ h => h) (Or.inl ⟨by rfl, ?_⟩) ?_ ?_
          rotate_left
          · intro w'
            go_simp
            with_reducible rfl
          rotate_left
          · simp only [Act.put, List.setIfInBounds_toArray, List.set_cons_zero, List.set_cons_succ, i64_w, i32_w]
            rfl
          refine pure_ (i := 18) (N := some 24) (v := ?_) (a' := ?_) #[true, true, true, true, true, true, true, true, true, true, true, true, true, true, true, true, true, true, true, false, false, false, false, false] rfl rfl (by kernel_rfl) (fun _ _ _ h => h) (Or.inl ⟨by rfl, ?_⟩) ?_ ?_
          rotate_left
          · intro w'
            go_simp
            with_reducible rfl
          rotate_left
          · simp only [Act.put, List.setIfInBounds_toArray, List.set_cons_zero, List.set_cons_succ, i64_w, i32_w]
            rfl
          refine pure_ (i := 19) (N := some 25) (v := ?_) (a' := ?_) #[true, true, true, true, true, true, true, true, true, true, true, true, true, true, true, true, true, true, true, true, false, false, false, false] rfl rfl (by kernel_rfl) (fun _ _ _ h => h) (Or.inl ⟨by rfl, ?_⟩) ?_ ?_
          rotate_left
          · intro w'
            go_simp
            with_reducible rfl
          rotate_left
          · simp only [Act.put, List.setIfInBounds_toArray, List.set_cons_zero, List.set_cons_succ, i64_w, i32_w]
            rfl
          refine pure_ (i := 20) (N := some 26) (v := undef) (a' := ?_) #[true, true, true, true, true, true, true, true, true, true, true, true, true, true, true, true, true, true, true, true, true, false, false, false] rfl rfl (by kernel_rfl) (fun _ _ _ h => h) (Or.inr ⟨by rfl, rfl⟩) ?_ ?_
          rotate_left
          · simp only [Act.put, List.setIfInBounds_toArray, List.set_cons_zero, List.set_cons_succ, i64_w, i32_w]
            rfl
          refine pure_ (i := 21) (N := some 27) (v := undef) (a' := ?_) #[true, true, true, true, true, true, true, true, true, true, true, true, true, true, true, true, true, true, true, true, true, true, false, false] rfl rfl (by kernel_rfl) (fun _ _ _ h => h) (Or.inr ⟨by rfl, rfl⟩) ?_ ?_
          rotate_left
          · simp only [Act.put, List.setIfInBounds_toArray, List.set_cons_zero, List.set_cons_succ, i64_w, i32_w]
            rfl
          refine pure_ (i := 22) (N := some 28) (v := ?_) (a' := ?_) #[true, true, true, true, true, true, true, true, true, true, true, true, true, true, true, true, true, true, true, true, true, true, true, false] rfl rfl (by kernel_rfl) (fun _ _ _ h => h) (Or.inl ⟨by rfl, ?_⟩) ?_ ?_
          rotate_left
          · intro w'
            go_simp
            with_reducible rfl
          rotate_left
          · simp only [Act.put, List.setIfInBounds_toArray, List.set_cons_zero, List.set_cons_succ, i64_w, i32_w]
            rfl
          refine last_ (i := 23) (N := some 29) #[true, true, true, true, true, true, true, true, true, true, true, true, true, true, true, true, true, true, true, true, true, true, true, true] rfl rfl (by kernel_rfl) (by decide) (fun K hK => ?_)
          refine goes_ Tryz.func40 (by kernel_rfl) rfl #[.pointer (some ⟨B, 0, none⟩), .bool false] (by rfl) rfl rfl (by simp only [List.map_toArray, List.map_cons, List.map_nil]; rfl) ?_
          with_reducible refine (need_calls B vE (.slice (some ⟨g, 0, none⟩) p.pools.length c) vD vO vR fd fo e false _ HPd.out).mono ?_
          rintro x w3 ⟨rfl, hp, hk, hb⟩
          refine ⟨_, rfl, ?_⟩
          have HP3 := Aside0.mk hp
          have HR3 := Aside0.mk (Rows_kept HRd.out hk (apart_one HPd.out (by decide)))
          have BP3 := Aside0.mk (blk_kept BPd.out hk hBpB)
          have BR3 := Aside0.mk (blk_kept BRd.out hk hBrB)
          have HB3 := Aside0.mk (HBd.out.trans (hb base hbB))
          clear hp hk hb HPd HRd BPd BRd HBd
          refine hK.out _ _ ?_
          clear hK K
          refine norm_ (a' := ?_) ?_ ?_
          rotate_left
          · show Act.put _ (some 29) _ = _
            simp only [Act.put, List.setIfInBounds_toArray, List.set_cons_zero, List.set_cons_succ, i64_w, i32_w]
            rfl
          refine done_ (by kernel_rfl) ?_
          have h0 := needE_false e
          have c5 : w3.cell? ⟨B, 7, none⟩ = some (.int .i64 (needE e false)) := blk_cell HP3.out 7
          have y0 : w3.cell? ⟨Bp, 0, none⟩ = some (.pointer (some ⟨B, 0, none⟩)) := blk_cell BP3.out 0
          have hE : needE e false = E' := by rw [HEQ.out]; simp [*]
          have HE := Aside0.mk hE
          clear hE
          obtain ⟨q, hq⟩ : ∃ q, needE e false = q := ⟨_, rfl⟩
          rw [hq] at HP3 HE h0 c5
          clear hq
          have h0b : (q == 0) = false := beq_eq_false_iff_ne.2 h0
          go_wp2_with fail
          go_end0
          refine ⟨rfl, ?_, HB3.out⟩
          have hP : { p with pools := p.pools.set (p.pools.length - 1) (lastP p.pools) } = P' := by rw [HPQ.out, if_neg (by rw [← HE.out]; exact h0), lastP_self _ hn]
          rw [← HE.out, ← hP]
          exact pool_done hbB HP3.out (show Rows _ _ { p with pools := p.pools.set (p.pools.length - 1) (lastP p.pools) } _ _ _ _ _ by rw [lastP_self _ hn]; exact HR3.out) BP3.out BR3.out HFD.out HFO.out hn
        | false =>
          refine start_ (n := 24) (S := fun w' => w'.cell? ⟨Bp, 0, none⟩ = some (.pointer (some ⟨B, 0, none⟩)) ∧ w'.cell? ⟨Br, 0, none⟩ = some (.pointer (some ⟨g, o, none⟩)) ∧ w'.cell? ⟨g, o + 1, none⟩ = some (.int .i64 r.f1)) (ds := [23]) #[false, false, false, false, false, false, false, false, false, false, false, false, false, false, false, false, false, false, false, false, false, false, false, false] (by kernel_rfl) rfl rfl ⟨z0, z1, c1⟩ (fun hHeld => ?_)
          have HPd := Aside0.mk (pb_below HPW.out (Below.refl _ _).drew)
          have HRd := Aside0.mk (Rows_below HRW.out (Below.refl _ _).drew)
          have BPd := Aside0.mk (blk_below BPW.out (Below.refl _ _).drew)
          have BRd := Aside0.mk (blk_below BRW.out (Below.refl _ _).drew)
          have HBd := Aside0.mk ((Below.refl base w).drew)
          generalize w.drew = wd at HPd HRd BPd BRd HBd hHeld ⊢
          refine pure_ (i := 1) (N := some 7) (v := ?_) (a' := ?_) #[false, true, false, false, false, false, false, false, false, false, false, false, false, false, false, false, false, false, false, false, false, false, false, false] rfl rfl (by kernel_rfl) (fun _ _ _ h => h) (Or.inl ⟨by rfl, ?_⟩) ?_ ?_
          rotate_left
          · intro w'
            go_simp
            with_reducible rfl
          rotate_left
          · simp only [Act.put, List.setIfInBounds_toArray, List.set_cons_zero, List.set_cons_succ, i64_w, i32_w]
            rfl
          refine pure_ (i := 2) (N := some 8) (v := ?_) (a' := ?_) #[false, true, true, false, false, false, false, false, false, false, false, false, false, false, false, false, false, false, false, false, false, false, false, false] rfl rfl (by kernel_rfl) (fun _ _ _ h => h) (Or.inl ⟨by rfl, ?_⟩) ?_ ?_
          rotate_left
          · intro w'
            go_simp
            with_reducible rfl
          rotate_left
          · simp only [Act.put, List.setIfInBounds_toArray, List.set_cons_zero, List.set_cons_succ, i64_w, i32_w]
            rfl
          refine pure_ (i := 3) (N := some 9) (v := ?_) (a' := ?_) #[false, true, true, true, false, false, false, false, false, false, false, false, false, false, false, false, false, false, false, false, false, false, false, false] rfl rfl (by kernel_rfl) (fun _ _ _ h => h) (Or.inl ⟨by rfl, ?_⟩) ?_ ?_
          rotate_left
          · intro w'
            go_simp
            with_reducible rfl
          rotate_left
          · simp only [Act.put, List.setIfInBounds_toArray, List.set_cons_zero, List.set_cons_succ, i64_w, i32_w]
            rfl
          refine take_ (i := 0) (N := some 6) (v := ?_) (a' := ?_) #[true, true, true, true, false, false, false, false, false, false, false, false, false, false, false, false, false, false, false, false, false, false, false, false] rfl rfl (by kernel_rfl) (fun _ _ _ h => h) (Or.inl ⟨by rfl, ?_⟩) hHeld ?_ ?_
          rotate_left
          · rintro w' ⟨s0, s1, s2⟩
            go_simp
            with_reducible rfl
          rotate_left
          · simp only [Act.put, List.setIfInBounds_toArray, List.set_cons_zero, List.set_cons_succ, i64_w, i32_w]
            rfl
          refine take_ (i := 4) (N := some 10) (v := ?_) (a' := ?_) #[true, true, true, true, true, false, false, false, false, false, false, false, false, false, false, false, false, false, false, false, false, false, false, false] rfl rfl (by kernel_rfl) (fun _ _ _ h => h) (Or.inl ⟨by rfl, ?_⟩) hHeld ?_ ?_
          rotate_left
          · rintro w' ⟨s0, s1, s2⟩
            go_simp
            with_reducible rfl
          rotate_left
          · simp only [Act.put, List.setIfInBounds_toArray, List.set_cons_zero, List.set_cons_succ, i64_w, i32_w]
            rfl
          refine pure_ (i := 5) (N := some 11) (v := ?_) (a' := ?_) #[true, true, true, true, true, true, false, false, false, false, false, false, false, false, false, false, false, false, false, false, false, false, false, false] rfl rfl (by kernel_rfl) (fun _ _ _ h => h) (Or.inl ⟨by rfl, ?_⟩) ?_ ?_
          rotate_left
          · intro w'
            go_simp
            with_reducible rfl
          rotate_left
          · simp only [Act.put, List.setIfInBounds_toArray, List.set_cons_zero, List.set_cons_succ, i64_w, i32_w]
            rfl
          refine pure_ (i := 6) (N := some 12) (v := ?_) (a' := ?_) #[true, true, true, true, true, true, true, false, false, false, false, false, false, false, false, false, false, false, false, false, false, false, false, false] rfl rfl (by kernel_rfl) (fun _ _ _ h => h) (Or.inl ⟨by rfl, ?_⟩) ?_ ?_
          rotate_left
          · intro w'
            go_simp
            with_reducible rfl
          rotate_left
          · simp only [Act.put, List.setIfInBounds_toArray, List.set_cons_zero, List.set_cons_succ, i64_w, i32_w]
            rfl
          refine take_ (i := 7) (N := some 13) (v := ?_) (a' := ?_) #[true, true, true, true, true, true, true, true, false, false, false, false, false, false, false, false, false, false, false, false, false, false, false, false] rfl rfl (by kernel_rfl) (fun _ _ _ h => h) (Or.inl ⟨by rfl, ?_⟩) hHeld ?_ ?_
          rotate_left
          · rintro w' ⟨s0, s1, s2⟩
            go_simp
            with_reducible rfl
          rotate_left
          · simp only [Act.put, List.setIfInBounds_toArray, List.set_cons_zero, List.set_cons_succ, i64_w, i32_w]
            rfl
          refine pure_ (i := 8) (N := some 14) (v := ?_) (a' := ?_) #[true, true, true, true, true, true, true, true, true, false, false, false, false, false, false, false, false, false, false, false, false, false, false, false] rfl rfl (by kernel_rfl) (fun _ _ _ h => h) (Or.inl ⟨by rfl, ?_⟩) ?_ ?_
          rotate_left
          · intro w'
            go_simp
            with_reducible rfl
          rotate_left
          · simp only [Act.put, List.setIfInBounds_toArray, List.set_cons_zero, List.set_cons_succ, i64_w, i32_w]
            rfl
          refine pure_ (i := 9) (N := some 15) (v := ?_) (a' := ?_) #[true, true, true, true, true, true, true, true, true, true, false, false, false, false, false, false, false, false, false, false, false, false, false, false] rfl rfl (by kernel_rfl) (fun _ _ _ h => h) (Or.inl ⟨by rfl, ?_⟩) ?_ ?_
          rotate_left
          · intro w'
            go_simp
            with_reducible rfl
          rotate_left
          · simp only [Act.put, List.setIfInBounds_toArray, List.set_cons_zero, List.set_cons_succ, i64_w, i32_w]
            rfl
          refine pure_ (i := 10) (N := some 16) (v := ?_) (a' := ?_) #[true, true, true, true, true, true, true, true, true, true, true, false, false, false, false, false, false, false, false, false, false, false, false, false] rfl rfl (by kernel_rfl) (fun _ _ _ h => h) (Or.inl ⟨by rfl, ?_⟩) ?_ ?_
          rotate_left
          · intro w'
            go_simp
            with_reducible rfl
          rotate_left
          · simp only [Act.put, List.setIfInBounds_toArray, List.set_cons_zero, List.set_cons_succ, i64_w, i32_w]
            rfl
          refine pure_ (i := 11) (N := some 17) (v := ?_) (a' := ?_) #[true, true, true, true, true, true, true, true, true, true, true, true, false, false, false, false, false, false, false, false, false, false, false, false] rfl rfl (by kernel_rfl) (fun _ _ _ h => h) (Or.inl ⟨by rfl, ?_⟩) ?_ ?_
          rotate_left
          · intro w'
            go_simp
            with_reducible rfl
          rotate_left
          · simp only [Act.put, List.setIfInBounds_toArray, List.set_cons_zero, List.set_cons_succ, i64_w, i32_w]
            rfl
          refine pure_ (i := 12) (N := some 18) (v := ?_) (a' := ?_) #[true, true, true, true, true, true, true, true, true, true, true, true, true, false, false, false, false, false, false, false, false, false, false, false] rfl rfl (by kernel_rfl) (fun _ _ _ h => h) (Or.inl ⟨by rfl, ?_⟩) ?_ ?_
          rotate_left
          · intro w'
            go_simp
            with_reducible rfl
          rotate_left
          · simp only [Act.put, List.setIfInBounds_toArray, List.set_cons_zero, List.set_cons_succ, i64_w, i32_w]
            rfl
          refine pure_ (i := 13) (N := some 19) (v := ?_) (a' := ?_) #[true, true, true, true, true, true, true, true, true, true, true, true, true, true, false, false, false, false, false, false, false, false, false, false] rfl rfl (by kernel_rfl) (fun _ _ _ h => h) (Or.inl ⟨by rfl, ?_⟩) ?_ ?_
          rotate_left
          · intro w'
            go_simp
            with_reducible rfl
          rotate_left
          · simp only [Act.put, List.setIfInBounds_toArray, List.set_cons_zero, List.set_cons_succ, i64_w, i32_w]
            rfl
          refine pure_ (i := 14) (N := some 20) (v := ?_) (a' := ?_) #[true, true, true, true, true, true, true, true, true, true, true, true, true, true, true, false, false, false, false, false, false, false, false, false] rfl rfl (by kernel_rfl) (fun _ _ _ h => h) (Or.inl ⟨by rfl, ?_⟩) ?_ ?_
          rotate_left
          · intro w'
            go_simp
            with_reducible rfl
          rotate_left
          · simp only [Act.put, List.setIfInBounds_toArray, List.set_cons_zero, List.set_cons_succ, i64_w, i32_w]
            rfl
          refine pure_ (i := 15) (N := some 21) (v := ?_) (a' := ?_) #[true, true, true, true, true, true, true, true, true, true, true, true, true, true, true, true, false, false, false, false, false, false, false, false] rfl rfl (by kernel_rfl) (fun _ _ _ h => h) (Or.inl ⟨by rfl, ?_⟩) ?_ ?_
          rotate_left
          · intro w'
            go_simp
            with_reducible rfl
          rotate_left
          · simp only [Act.put, List.setIfInBounds_toArray, List.set_cons_zero, List.set_cons_succ, i64_w, i32_w]
            rfl
          refine pure_ (i := 16) (N := some 22) (v := ?_) (a' := ?_) #[true, true, true, true, true, true, true, true, true, true, true, true, true, true, true, true, true, false, false, false, false, false, false, false] rfl rfl (by kernel_rfl) (fun _ _ _ h => h) (Or.inl ⟨by rfl, ?_⟩) ?_ ?_
          rotate_left
          · intro w'
            go_simp
            with_reducible rfl
          rotate_left
          · simp only [Act.put, List.setIfInBounds_toArray, List.set_cons_zero, List.set_cons_succ, i64_w, i32_w]
            rfl
          refine pure_ (i := 17) (N := some 23) (v := ?_) (a' := ?_) #[true, true, true, true, true, true, true, true, true, true, true, true, true, true, true, true, true, true, false, false, false, false, false, false] rfl rfl (by kernel_rfl) (fun _ _ _ h => h) (Or.inl ⟨by rfl, ?_⟩) ?_ ?_
          rotate_left
          · intro w'
            go_simp
            with_reducible rfl
          rotate_left
          · simp only [Act.put, List.setIfInBounds_toArray, List.set_cons_zero, List.set_cons_succ, i64_w, i32_w]
            rfl
          refine pure_ (i := 18) (N := some 24) (v := ?_) (a' := ?_) #[true, true, true, true, true, true, true, true, true, true, true, true, true, true, true, true, true, true, true, false, false, false, false, false] rfl rfl (by kernel_rfl) (fun _ _ _ h => h) (Or.inl ⟨by rfl, ?_⟩) ?_ ?_
          rotate_left
          · intro w'
            go_simp
            with_reducible rfl
          rotate_left
          · simp only [Act.put, List.setIfInBounds_toArray, List.set_cons_zero, List.set_cons_succ, i64_w, i32_w]
            rfl
          refine pure_ (i := 19) (N := some 25) (v := ?_) (a' := ?_) #[true, true, true, true, true, true, true, true, true, true, true, true, true, true, true, true, true, true, true, true, false, false, false, false] rfl rfl (by kernel_rfl) (fun _ _ _ h => h) (Or.inl ⟨by rfl, ?_⟩) ?_ ?_
          rotate_left
          · intro w'
            go_simp
            with_reducible rfl
          rotate_left
          · simp only [Act.put, List.setIfInBounds_toArray, List.set_cons_zero, List.set_cons_succ, i64_w, i32_w]
            rfl
          refine pure_ (i := 20) (N := some 26) (v := ?_) (a' := ?_) #[true, true, true, true, true, true, true, true, true, true, true, true, true, true, true, true, true, true, true, true, true, false, false, false] rfl rfl (by kernel_rfl) (fun _ _ _ h => h) (Or.inl ⟨by rfl, ?_⟩) ?_ ?_
          rotate_left
          · intro w'
            go_simp
            with_reducible rfl
          rotate_left
          · simp only [Act.put, List.setIfInBounds_toArray, List.set_cons_zero, List.set_cons_succ, i64_w, i32_w]
            rfl
          refine pure_ (i := 21) (N := some 27) (v := ?_) (a' := ?_) #[true, true, true, true, true, true, true, true, true, true, true, true, true, true, true, true, true, true, true, true, true, true, false, false] rfl rfl (by kernel_rfl) (fun _ _ _ h => h) (Or.inl ⟨by rfl, ?_⟩) ?_ ?_
          rotate_left
          · intro w'
            go_simp
            with_reducible rfl
          rotate_left
          · simp only [Act.put, List.setIfInBounds_toArray, List.set_cons_zero, List.set_cons_succ, i64_w, i32_w]
            rfl
          refine pure_ (i := 22) (N := some 28) (v := ?_) (a' := ?_) #[true, true, true, true, true, true, true, true, true, true, true, true, true, true, true, true, true, true, true, true, true, true, true, false] rfl rfl (by kernel_rfl) (fun _ _ _ h => h) (Or.inl ⟨by rfl, ?_⟩) ?_ ?_
          rotate_left
          · intro w'
            go_simp
            with_reducible rfl
          rotate_left
          · simp only [Act.put, List.setIfInBounds_toArray, List.set_cons_zero, List.set_cons_succ, i64_w, i32_w]
            rfl
          refine last_ (i := 23) (N := some 29) #[true, true, true, true, true, true, true, true, true, true, true, true, true, true, true, true, true, true, true, true, true, true, true, true] rfl rfl (by kernel_rfl) (by decide) (fun K hK => ?_)
          refine goes_ Tryz.func40 (by kernel_rfl) rfl #[.pointer (some ⟨B, 0, none⟩), .bool (Op.bytesLess value.toList [56] || value.toList == [56])] (by rfl) rfl rfl (by simp only [List.map_toArray, List.map_cons, List.map_nil]; rfl) ?_
          with_reducible refine (need_calls B vE (.slice (some ⟨g, 0, none⟩) p.pools.length c) vD vO vR fd fo e (Op.bytesLess value.toList [56] || value.toList == [56]) _ HPd.out).mono ?_
          rintro x w3 ⟨rfl, hp, hk, hb⟩
          refine ⟨_, rfl, ?_⟩
          have HP3 := Aside0.mk hp
          have HR3 := Aside0.mk (Rows_kept HRd.out hk (apart_one HPd.out (by decide)))
          have BP3 := Aside0.mk (blk_kept BPd.out hk hBpB)
          have BR3 := Aside0.mk (blk_kept BRd.out hk hBrB)
          have HB3 := Aside0.mk (HBd.out.trans (hb base hbB))
          clear hp hk hb HPd HRd BPd BRd HBd
          refine hK.out _ _ ?_
          clear hK K
          refine norm_ (a' := ?_) ?_ ?_
          rotate_left
          · show Act.put _ (some 29) _ = _
            simp only [Act.put, List.setIfInBounds_toArray, List.set_cons_zero, List.set_cons_succ, i64_w, i32_w]
            rfl
          refine done_ (by kernel_rfl) ?_
          have hE : needE e (Op.bytesLess value.toList [56] || value.toList == [56]) = E' := by rw [HEQ.out]; simp [*]
          have HE := Aside0.mk hE
          clear hE
          obtain ⟨q, hq⟩ : ∃ q, needE e (Op.bytesLess value.toList [56] || value.toList == [56]) = q := ⟨_, rfl⟩
          rw [hq] at HP3 HE
          clear hq
          have c5 : w3.cell? ⟨B, 7, none⟩ = some (.int .i64 q) := blk_cell HP3.out 7
          have y0 : w3.cell? ⟨Bp, 0, none⟩ = some (.pointer (some ⟨B, 0, none⟩)) := blk_cell BP3.out 0
          by_cases h0 : q = 0
          · subst h0
            have y1 : w3.cell? ⟨Br, 0, none⟩ = some (.pointer (some ⟨g, o, none⟩)) := by have := blk_cell BR3.out 0; rw [HOO.out] at this; exact this
            have hsz0 : (value.size : Int) = 1 := by simpa using t2
            have hsz : value.size = 1 := by omega
            have hs1 : 0 < value.size := by omega
            have hs2 : (0 : Int) < value.size := by omega
            clear hsz hsz0
            go_upto_region 2 with (fail)
            refine start_ (n := 8) (S := fun w' => w'.cell? ⟨Br, 0, none⟩ = some (.pointer (some ⟨g, o, none⟩))) (ds := [7]) #[false, false, false, false, false, false, false, false] (by kernel_rfl) rfl rfl (y1) (fun hHeld => ?_)
            have HPd := Aside0.mk (pb_below HP3.out (Below.refl _ _).drew)
            have HRd := Aside0.mk (Rows_below HR3.out (Below.refl _ _).drew)
            have BPd := Aside0.mk (blk_below BP3.out (Below.refl _ _).drew)
            have BRd := Aside0.mk (blk_below BR3.out (Below.refl _ _).drew)
            have HBd := Aside0.mk (HB3.out.drew)
            obtain ⟨lc, lf, lset⟩ := pool_last HRd.out.2.1 hn
            rw [HRR.out, HOO.out] at lc
            rw [HOO.out] at lf lset
            rw [HRR.out] at lset
            have y2 := lc 1 _ rfl
            have y3 := lf 1
            have LS := Aside0.mk (lset 1 (.int .i64 (IntKind.i64.wrap (IntKind.u8.wrap (bt value 0 - 48)))) { r with f1 := IntKind.i64.wrap (IntKind.u8.wrap (bt value 0 - 48)) } (by decide) rfl)
            clear lc lf lset y0 y1 c5
            generalize w3.drew = wq at HPd HRd BPd BRd HBd LS y2 y3 hHeld ⊢
            clear HP3 HR3 BP3 BR3 HB3
            refine pure_ (i := 1) (N := some 36) (v := ?_) (a' := ?_) #[false, true, false, false, false, false, false, false] rfl rfl (by kernel_rfl) (fun _ _ _ h => h) (Or.inl ⟨by rfl, ?_⟩) ?_ ?_
            rotate_left
            · intro w'
              go_simp
              with_reducible rfl
            rotate_left
            · simp only [Act.put, List.setIfInBounds_toArray, List.set_cons_zero, List.set_cons_succ, i64_w, i32_w]
              rfl
            refine take_ (i := 0) (N := some 35) (v := ?_) (a' := ?_) #[true, true, false, false, false, false, false, false] rfl rfl (by kernel_rfl) (fun _ _ _ h => h) (Or.inl ⟨by rfl, ?_⟩) hHeld ?_ ?_
            rotate_left
            · intro w' s0
              go_simp
              with_reducible rfl
            rotate_left
            · simp only [Act.put, List.setIfInBounds_toArray, List.set_cons_zero, List.set_cons_succ, i64_w, i32_w]
              rfl
            refine take_ (i := 2) (N := some 37) (v := ?_) (a' := ?_) #[true, true, true, false, false, false, false, false] rfl rfl (by kernel_rfl) (fun _ _ _ h => h) (Or.inl ⟨by rfl, ?_⟩) hHeld ?_ ?_
            rotate_left
            · intro w' s0
              go_simp
              with_reducible rfl
            rotate_left
            · simp only [Act.put, List.setIfInBounds_toArray, List.set_cons_zero, List.set_cons_succ, i64_w, i32_w]
              rfl
            refine pure_ (i := 3) (N := some 38) (v := ?_) (a' := ?_) #[true, true, true, true, false, false, false, false] rfl rfl (by kernel_rfl) (fun _ _ _ h => h) (Or.inl ⟨by rfl, ?_⟩) ?_ ?_
            rotate_left
            · intro w'
              go_simp
              with_reducible rfl
            rotate_left
            · simp only [Act.put, List.setIfInBounds_toArray, List.set_cons_zero, List.set_cons_succ, i64_w, i32_w]
              rfl
            refine pure_ (i := 4) (N := some 39) (v := ?_) (a' := ?_) #[true, true, true, true, true, false, false, false] rfl rfl (by kernel_rfl) (fun _ _ _ h => h) (Or.inl ⟨by rfl, ?_⟩) ?_ ?_
            rotate_left
            · intro w'
              go_simp
              with_reducible rfl
            rotate_left
            · simp only [Act.put, List.setIfInBounds_toArray, List.set_cons_zero, List.set_cons_succ, i64_w, i32_w]
              rfl
            refine pure_ (i := 5) (N := some 40) (v := ?_) (a' := ?_) #[true, true, true, true, true, true, false, false] rfl rfl (by kernel_rfl) (fun _ _ _ h => h) (Or.inl ⟨by rfl, ?_⟩) ?_ ?_
            rotate_left
            · intro w'
              go_simp
              with_reducible rfl
            rotate_left
            · simp only [Act.put, List.setIfInBounds_toArray, List.set_cons_zero, List.set_cons_succ, i64_w, i32_w]
              rfl
            refine pure_ (i := 6) (N := some 41) (v := ?_) (a' := ?_) #[true, true, true, true, true, true, true, false] rfl rfl (by kernel_rfl) (fun _ _ _ h => h) (Or.inl ⟨by rfl, ?_⟩) ?_ ?_
            rotate_left
            · intro w'
              go_simp
              with_reducible rfl
            rotate_left
            · simp only [Act.put, List.setIfInBounds_toArray, List.set_cons_zero, List.set_cons_succ, i64_w, i32_w]
              rfl
            refine last_ (i := 7) (N := none) #[true, true, true, true, true, true, true, true] rfl rfl (by kernel_rfl) (by decide) (fun K hK => ?_)
            refine skip_ (w1 := ?_) (by rfl) rfl ?_ ?_
            rotate_left
            · go_simp
              rfl
            refine hK.out _ _ ?_
            clear hK K
            refine done_ (by kernel_rfl) ?_
            go_end0
            obtain ⟨Z, hZ⟩ : ∃ Z, IntKind.i64.wrap (IntKind.u8.wrap (bt value 0 - 48)) = Z := ⟨_, rfl⟩
            have hZ2 : wrap64 (IntKind.u8.wrap (((value[0]'hs1).toNat : Int) - 48)) = Z := by rw [← hZ, i64_w, bt_zero value hs1]
            rw [hZ2]
            rw [hZ] at LS HPQ
            have hk := kept_one wq g (o + 1) (.int .i64 Z)
            refine ⟨rfl, ?_, HBd.out.setCell (p := ⟨g, o + 1, none⟩) hbg _⟩
            have hP : { p with pools := p.pools.set (p.pools.length - 1) { r with f1 := Z } } = P' := by rw [HPQ.out, if_pos HE.out.symm]
            rw [← HE.out, ← hP]
            exact pool_done hbB (blk_far HPd.out hBg _) (Rows_pools HRd.out LS.out hk (fun k hk => by have hk' : k = g := hk; subst hk'; exact R_own_type HRd.out.2.1 rfl)) (blk_kept BPd.out hk hBpg) (blk_kept BRd.out hk hBrg) HFD.out HFO.out hn
          · have h0b : (q == 0) = false := beq_eq_false_iff_ne.2 h0
            go_wp2_with fail
            go_end0
            refine ⟨rfl, ?_, HB3.out⟩
            have hP : { p with pools := p.pools.set (p.pools.length - 1) (lastP p.pools) } = P' := by rw [HPQ.out, if_neg (by rw [← HE.out]; exact h0), lastP_self _ hn]
            rw [← HE.out, ← hP]
            exact pool_done hbB HP3.out (show Rows _ _ { p with pools := p.pools.set (p.pools.length - 1) (lastP p.pools) } _ _ _ _ _ by rw [lastP_self _ hn]; exact HR3.out) BP3.out BR3.out HFD.out HFO.out hn
end Go.Proofs.YtefheailchihaaaGreatDoor.Print

end
section
namespace Go.Proofs.YtefheailchihaaaGreatDoor.Print
open Go.RowKit Go.Lib Go.Shelf Go.Proofs.YtefheailchihaaaGreatDoorW.PrintWords Go.Proofs.YtefheailchihaaaGreatDoorW.PrintLast Go.Proofs.YtefheailchihaaaGreatDoorW.PrintMore
set_option linter.unusedVariables false
set_option linter.unusedSimpArgs false
attribute [local go_sem ↓] Go.wp_at_zero Go.wp_at_succ

abbrev Bl := List ByteArray × ByteArray × List ByteArray × List ByteArray × List ByteArray × Int
/-- What a build line leaves open, and what is wrong behind it; e: what is wrong ahead of the names' cleaning. -/
def buildO2 (p : Pst) (b : Bl) (e : Int) : Opn := if e = 0 then .build (cleanOut b.1) (cleanOut b.2.2.1) (cleanOut b.2.2.2.1) (cleanOut b.2.2.2.2.1) (rd_T116 p.rules (idxP (fun x : S116 => x.f0.toList == b.2.1.toList) p.rules)) [] else .none
def buildE2 (p : Pst) (b : Bl) (e : Int) : Int := if e = 0 then roomE (cleanErr (cleanErr (cleanErr (cleanErr e b.1) b.2.2.1) b.2.2.2.1) b.2.2.2.2.1) (decide ((p.edges.length : Int) < 16)) else e
def buildE1 (p : Pst) (e : Int) (b : Bl) : Int := needE (tookE e b.2.2.2.2.2) (decide (0 ≤ idxP (fun x : S116 => x.f0.toList == b.2.1.toList) p.rules))
def buildO (p : Pst) (e : Int) (s : ByteArray) : Opn := buildO2 p (buildR s) (buildE1 p e (buildR s))
def buildE (p : Pst) (e : Int) (s : ByteArray) : Int := buildE2 p (buildR s) (buildE1 p e (buildR s))
def Small8 (xs : List ByteArray) : Prop := (∀ x ∈ xs, x.size ≤ 1048576) ∧ xs.length ≤ 1048577
theorem small1 {xs : List ByteArray} (h : Small8 xs) : ∀ x ∈ xs, x.size ≤ 1048576 := h.1
theorem small2 {xs : List ByteArray} (h : Small8 xs) : xs.length ≤ 1048577 := h.2
theorem small_sub {xs ys : List ByteArray} (h : Small8 ys) (hs : xs.Sublist ys) : Small8 xs := ⟨fun x hx => h.1 x (hs.subset hx), Nat.le_trans hs.length_le h.2⟩
theorem small_words (s : ByteArray) (hs : s.size ≤ 1048576) : Small8 (wordsOf s) := by
  refine ⟨fun x hx => ?_, by have := wordsOf_len s; omega⟩
  have hx' : x ∈ splitB 32 s.data.toList := by
    unfold wordsOf at hx
    exact (List.mem_filter.1 hx).1
  have := splitB_size 32 s.data.toList x hx'
  rw [Lib.size_eq] at hs
  omega
theorem part_sub (ws : List ByteArray) (s : ByteArray) : ((partB ws s).1.Sublist ws) ∧ ((partB ws s).2.1.Sublist ws) := by
  unfold partB
  split
  · exact ⟨(List.take_sublist _ _).trans (List.drop_sublist _ _), (List.drop_sublist _ _).trans (List.drop_sublist _ _)⟩
  · exact ⟨List.nil_sublist _, List.Sublist.refl _⟩
theorem buildR_small (s : ByteArray) (hs : s.size ≤ 1048576) : Small8 (buildR s).1 ∧ Small8 (buildR s).2.2.1 ∧ Small8 (buildR s).2.2.2.1 ∧ Small8 (buildR s).2.2.2.2.1 := by
  have hw := small_words s hs
  have h0 : Small8 [] := ⟨fun x hx => by simp at hx, by simp⟩
  cases hb : buildB s with
  | none => rw [show buildR s = ([], ⟨#[]⟩, [], [], [], 700) by unfold buildR; rw [hb]]; exact ⟨h0, h0, h0, h0⟩
  | some t =>
    obtain ⟨a, b, c, d, e⟩ := t
    rw [show buildR s = (a, b, c, d, e, 0) by unfold buildR; rw [hb]]
    unfold buildB at hb
    simp only at hb
    split at hb
    · simp at hb
    split at hb
    · simp at hb
    split at hb
    · simp at hb
    rename_i r ws3 hd
    split at hb
    · simp at hb
    split at hb
    · simp at hb
    simp only [Option.some.injEq, Prod.mk.injEq] at hb
    obtain ⟨rfl, rfl, rfl, rfl, rfl⟩ := hb
    have s3 : ws3.Sublist (wordsOf s) := ((List.sublist_cons_self r ws3).trans (hd ▸ List.drop_sublist _ _)).trans (List.drop_sublist _ _)
    have sd : (ws3.drop (nNames ws3)).Sublist (wordsOf s) := (List.drop_sublist _ _).trans s3
    exact ⟨small_sub hw (List.take_sublist _ _), small_sub hw ((List.take_sublist _ _).trans s3), small_sub hw ((part_sub _ _).1.trans sd), small_sub hw ((part_sub _ _).1.trans ((part_sub _ _).2.trans sd))⟩
theorem idxP_lt {α : Type} (f : α → Bool) (l : List α) : idxP f l < l.length := by
  have h : ∀ (l : List α) (k : Nat), firstFrom f l k < (k + l.length : Nat) := by
    intro l
    induction l with
    | nil => intro k; unfold firstFrom; simp; omega
    | cons x l ih =>
      intro k
      unfold firstFrom
      split
      · simp; omega
      · have := ih (k + 1); simp only [List.length_cons]; omega
  have := h l 0
  simpa [idxP] using this
theorem vs_off {a b k B : Nat} (hk : b ≤ k) (hB : B < a) (hab : a ≤ b) : k ≠ B := by omega
/-- A row that is new since W is none of an elder row. -/
theorem row_new {α β : Type} {d : Kd α} {d' : Kd β} {e t base : Nat} {ok ok' : Nat → Prop} {W w1 : World} {v vD : Value} {xs : List α} {ys : List β} (h : d.R e w1 W.heap.size ok v xs) (hD : d'.R t W base ok' vD ys) (hb : base ≤ W.heap.size) : d.R e w1 base (fun k => some k ≠ vD.ownBlock) v xs :=
  Kd.R_lower (Kd.R_mono (Kd.R_bound h) (fun k hk he => by have := Kd.R_lt hD k he.symm; have := hk.2.1; omega)) hb

set_option maxHeartbeats 8000000 in
set_option maxRecDepth 100000 in
theorem buildLine_calls (base B : Nat) (p : Pst) (vE vP vD vO vR : Value) (e : Int) (s : ByteArray) (hs : s.size ≤ 1048576) (w : World) (hbB : base ≤ B) (hbw : base ≤ w.heap.size) (h : Pb w B vE vP vD vO vR .nilFunc .nilFunc e) (hR : Rows w base p vE vP vD vO vR) :
    Calls Tryz.prog 44 #[.pointer (some ⟨B, 0, none⟩), .string s] w fun x w' => x = .returned (.tuple #[]) ∧ Mst w' base B p (buildO p e s) (buildE p e s) ∧ Below base w w' := by
  have hmf : ∀ (fn : Fn) (first cap : Array Value) (w : World), (Instr.makeFunc fn first cap).run Tryz.prog w = .ok (.func fn first cap) w := fun _ _ _ _ => rfl
  obtain ⟨A, c, rfl, _⟩ := Kd.R_reads hR.2.2.2.2
  have hB := blk_lt h
  have hneBP : ¬ w.heap.size = B := by omega
  have H := Aside0.mk h
  have HR := Aside0.mk hR
  clear h hR
  have hBu := buildR_small s hs
  have hEq : buildE p e s = _ := rfl
  have hOq : buildO p e s = _ := rfl
  rw [show buildE p e s = buildE2 p (buildR s) (needE (tookE e (buildR s).2.2.2.2.2) (decide (0 ≤ idxP (fun x : S116 => x.f0.toList == (buildR s).2.1.toList) p.rules))) from rfl, show buildO p e s = buildO2 p (buildR s) (needE (tookE e (buildR s).2.2.2.2.2) (decide (0 ≤ idxP (fun x : S116 => x.f0.toList == (buildR s).2.1.toList) p.rules))) from rfl]
  have HBC := Lib.hid (build_calls s hs (w.alloc (.cells #[.pointer (some ⟨B, 0, none⟩)] 52)))
  clear hEq hOq
  obtain ⟨⟨b1, b2, b3, b4, b5, b6⟩, hb⟩ : ∃ b, buildR s = b := ⟨_, rfl⟩
  rw [hb] at hBu HBC ⊢
  clear hb
  simp only at hBu HBC ⊢
  obtain ⟨I, hI⟩ : ∃ I, idxP (fun x : S116 => x.f0.toList == b2.toList) p.rules = I := ⟨_, rfl⟩
  have hIlt := idxP_lt (fun x : S116 => x.f0.toList == b2.toList) p.rules
  rw [hI] at hIlt ⊢
  have HI := Lib.hid hI
  clear hI
  obtain ⟨e1, he1⟩ : ∃ e1, tookE e b6 = e1 := ⟨_, rfl⟩
  rw [he1]
  have HE1 := Lib.hid he1
  clear he1
  obtain ⟨e2, he2⟩ : ∃ e2, needE e1 (decide (0 ≤ I)) = e2 := ⟨_, rfl⟩
  rw [he2]
  have HE2 := Lib.hid he2
  have hI0 : e2 = 0 → 0 ≤ I := fun h0 => by
    rw [h0] at he2
    by_cases hi : 0 ≤ I
    · exact hi
    · rw [decide_eq_false hi] at he2
      exact absurd he2 (needE_false e1)
  clear he2
  have HBU := Aside0.mk hBu
  clear hBu
  obtain ⟨O', hO'⟩ : ∃ O', buildO2 p (b1, b2, b3, b4, b5, b6) e2 = O' := ⟨_, rfl⟩
  obtain ⟨E', hE'⟩ : ∃ E', buildE2 p (b1, b2, b3, b4, b5, b6) e2 = E' := ⟨_, rfl⟩
  rw [hO', hE']
  have HO := Lib.hid hO'
  have HE := Lib.hid hE'
  clear hO' hE'
  go_enter Tryz.func44, Tryz.ntmps44
  have HA := Aside0.mk ((Below.refl w.heap.size w).alloc (Nat.le_refl _) (.cells #[.pointer (some ⟨B, 0, none⟩)] 52))
  have BPa := Aside0.mk (blk_new w (.cells #[.pointer (some ⟨B, 0, none⟩)] 52))
  have HPa := Aside0.mk (pb_below H.out HA.out)
  have HRa := Aside0.mk (Rows_below HR.out HA.out)
  have HBa := Aside0.mk (HA.out.mono hbw)
  have hsza : w.heap.size ≤ (w.alloc (.cells #[.pointer (some ⟨B, 0, none⟩)] 52)).heap.size := HA.out.size
  clear HA H HR
  go_upto_region 6 with (first | (go_at_call 85; refine HBC.out.mono ?_; rintro x w1 ⟨zO, zI, zM, zR, rfl, h1, h2, h3, h4, hb⟩; have HP1 := Aside0.mk (pb_below HPa.out hb); have HR1 := Aside0.mk (Rows_below HRa.out hb); have BP1 := Aside0.mk (blk_below BPa.out hb); have HB1 := Aside0.mk (HBa.out.trans (hb.mono (Nat.le_trans hbw hsza))); have VO1 := Aside0.mk (Vs_mono h1 (fun k hk => vs_off hk hB hsza)); have VI1 := Aside0.mk (Vs_mono h2 (fun k hk => vs_off hk hB hsza)); have VM1 := Aside0.mk (Vs_mono h3 (fun k hk => vs_off hk hB hsza)); have VR1 := Aside0.mk (Vs_mono h4 (fun k hk => vs_off hk hB hsza)); clear h1 h2 h3 h4 hb HPa HRa BPa HBa hsza; have q1 : w1.cell? ⟨w.heap.size, 0, none⟩ = some (.pointer (some ⟨B, 0, none⟩)) := blk_cell BP1.out 0; obtain ⟨AO, cO, rfl, _, _⟩ := Vs_slice VO1.out; obtain ⟨AI, cI, rfl, _, _⟩ := Vs_slice VI1.out; obtain ⟨AM, cM, rfl, _, _⟩ := Vs_slice VM1.out; obtain ⟨AR, cR, rfl, _, _⟩ := Vs_slice VR1.out) | (go_at_call 86; refine (took_calls B vE vP vD vO (.slice A p.rules.length c) .nilFunc .nilFunc e b6 _ HP1.out).mono ?_; rw [HE1.out]; rintro x w2 ⟨rfl, hp, hk, hb⟩; have HP2 := Aside0.mk hp; have HR2 := Aside0.mk (Rows_kept HR1.out hk (apart_one HP1.out (by decide))); have BP2 := Aside0.mk (blk_kept BP1.out hk hneBP); have VO2 := Aside0.mk (Vs_kept VO1.out hk (fun k h1 h2 => h1 h2)); have VI2 := Aside0.mk (Vs_kept VI1.out hk (fun k h1 h2 => h1 h2)); have VM2 := Aside0.mk (Vs_kept VM1.out hk (fun k h1 h2 => h1 h2)); have VR2 := Aside0.mk (Vs_kept VR1.out hk (fun k h1 h2 => h1 h2)); have HB2 := Aside0.mk (HB1.out.trans (hb base hbB)); clear hp hk hb HP1 HR1 HB1 BP1 VO1 VI1 VM1 VR1; have q2 : w2.cell? ⟨w.heap.size, 0, none⟩ = some (.pointer (some ⟨B, 0, none⟩)) := blk_cell BP2.out 0) | (go_at_call 78; refine (pfind_calls B vE vP vD vO _ .nilFunc .nilFunc e1 A c p.rules b2 _ HP2.out rfl (Kd.R_reads' HR2.out.2.2.2.2).2.2).mono ?_; rw [HI.out]; rintro x w3 ⟨rfl, hb⟩; have HP3 := Aside0.mk (pb_below HP2.out hb); have HR3 := Aside0.mk (Rows_below HR2.out hb); have BP3 := Aside0.mk (blk_below BP2.out hb); have HB3 := Aside0.mk (HB2.out.trans (hb.mono (Nat.le_trans hbw HB2.out.size))); have VO3 := Aside0.mk (Vs_below VO2.out hb); have VI3 := Aside0.mk (Vs_below VI2.out hb); have VM3 := Aside0.mk (Vs_below VM2.out hb); have VR3 := Aside0.mk (Vs_below VR2.out hb); clear hb HP2 HR2 BP2 HB2 VO2 VI2 VM2 VR2 q2; have q3 : w3.cell? ⟨w.heap.size, 0, none⟩ = some (.pointer (some ⟨B, 0, none⟩)) := blk_cell BP3.out 0) | (go_at_call 40; refine (need_calls B vE vP vD vO (.slice A p.rules.length c) .nilFunc .nilFunc e1 (decide (0 ≤ I)) _ HP3.out).mono ?_; rw [HE2.out]; rintro x w4 ⟨rfl, hp, hk, hb⟩; have HP4 := Aside0.mk hp; have HR4 := Aside0.mk (Rows_kept HR3.out hk (apart_one HP3.out (by decide))); have BP4 := Aside0.mk (blk_kept BP3.out hk hneBP); have VO4 := Aside0.mk (Vs_kept VO3.out hk (fun k h1 h2 => h1 h2)); have VI4 := Aside0.mk (Vs_kept VI3.out hk (fun k h1 h2 => h1 h2)); have VM4 := Aside0.mk (Vs_kept VM3.out hk (fun k h1 h2 => h1 h2)); have VR4 := Aside0.mk (Vs_kept VR3.out hk (fun k h1 h2 => h1 h2)); have HB4 := Aside0.mk (HB3.out.trans (hb base hbB)); clear hp hk hb HP3 HR3 HB3 BP3 VO3 VI3 VM3 VR3; have q4 : w4.cell? ⟨w.heap.size, 0, none⟩ = some (.pointer (some ⟨B, 0, none⟩)) := blk_cell BP4.out 0; have q5 : w4.cell? ⟨B, 7, none⟩ = some (.int .i64 e2) := blk_cell HP4.out 7; clear q3))
  · rename_i hne0
    refine bodyPost_ret (results_none rfl _ _ _) rfl ?_
    have h0 : ¬ e2 = 0 := by simpa using hne0
    refine ⟨rfl, ?_, HB4.out⟩
    rw [← HO.out, ← HE.out]
    unfold buildO2 buildE2
    rw [if_neg h0, if_neg h0]
    exact ⟨_, _, _, _, _, _, _, hbB, HP4.out, HR4.out, rfl, rfl⟩
  · obtain rfl : e2 = 0 := by
      have hne0 : (e2 != 0) = false := by assumption
      simpa using hne0
    have hIp : 0 ≤ I := hI0 rfl
    have q6 : w4.cell? ⟨B, 4, none⟩ = some (.slice A p.rules.length c) := blk_cell HP4.out 4
    obtain ⟨ad, rfl, r0, r1, r2, r3, r4⟩ := at_T116 (Kd.R_reads' HR4.out.2.2.2.2).2.2 I hIp hIlt
    have hrd : rd_T116 p.rules (idxP (fun x : S116 => x.f0.toList == b2.toList) p.rules) = rd_T116 p.rules I := by rw [HI.out]
    have hO2 := HO.out
    have hE2 := HE.out
    unfold buildO2 at hO2
    unfold buildE2 at hE2
    rw [if_pos rfl] at hO2 hE2
    simp only at hO2 hE2
    rw [hrd] at hO2
    clear hrd HO HE
    obtain ⟨r, hr⟩ : ∃ r, rd_T116 p.rules I = r := ⟨_, rfl⟩
    rw [hr] at r0 r1 r2 r3 r4 hO2
    clear hr
    have HO := Lib.hid hO2
    have HE := Lib.hid hE2
    clear hO2 hE2
    go_upto_region 7 with (fail)
    have hbw4 : base ≤ w4.heap.size := Nat.le_trans hbw HB4.out.size
    have hXB0 : ¬ w4.heap.size = B := by have := blk_lt HP4.out; omega
    have hBB0 : ¬ w4.heap.size + 1 = B := by have := blk_lt HP4.out; omega
    have hD4 := HR4.out.2.2.1
    obtain ⟨X, hX⟩ : ∃ X, w4.heap.size = X := ⟨_, rfl⟩
    rw [hX] at hXB0 hBB0 ⊢
    have HA5 := Aside0.mk (((Below.refl w4.heap.size w4).alloc (Nat.le_refl _) (.cells #[.slice none 0 0, .slice none 0 0, .slice none 0 0, .slice none 0 0, .string ⟨#[]⟩, .bool false, .string ⟨#[]⟩, .string r.f0, .string r.f1, .string r.f2, .bool r.f3, .bool r.f4, .slice none 0 0] 124)).alloc (by simp) (.cells #[.pointer (some ⟨X, 0, none⟩)] 122))
    have BX5 := Aside0.mk (blk_alloc (blk_new w4 (.cells #[.slice none 0 0, .slice none 0 0, .slice none 0 0, .slice none 0 0, .string ⟨#[]⟩, .bool false, .string ⟨#[]⟩, .string r.f0, .string r.f1, .string r.f2, .bool r.f3, .bool r.f4, .slice none 0 0] 124)) (.cells #[.pointer (some ⟨X, 0, none⟩)] 122))
    have BB5 := Aside0.mk (blk_new (w4.alloc (.cells #[.slice none 0 0, .slice none 0 0, .slice none 0 0, .slice none 0 0, .string ⟨#[]⟩, .bool false, .string ⟨#[]⟩, .string r.f0, .string r.f1, .string r.f2, .bool r.f3, .bool r.f4, .slice none 0 0] 124)) (.cells #[.pointer (some ⟨X, 0, none⟩)] 122))
    have hsz5 : (w4.alloc (.cells #[.slice none 0 0, .slice none 0 0, .slice none 0 0, .slice none 0 0, .string ⟨#[]⟩, .bool false, .string ⟨#[]⟩, .string r.f0, .string r.f1, .string r.f2, .bool r.f3, .bool r.f4, .slice none 0 0] 124)).heap.size = X + 1 := by rw [← hX]; simp
    rw [hsz5] at BB5
    rw [hX] at BX5
    clear hsz5
    generalize (w4.alloc (.cells #[.slice none 0 0, .slice none 0 0, .slice none 0 0, .slice none 0 0, .string ⟨#[]⟩, .bool false, .string ⟨#[]⟩, .string r.f0, .string r.f1, .string r.f2, .bool r.f3, .bool r.f4, .slice none 0 0] 124)).alloc (.cells #[.pointer (some ⟨X, 0, none⟩)] 122) = w5 at HA5 BX5 BB5 ⊢
    have HP5 := Aside0.mk (pb_below HP4.out HA5.out)
    have HR5 := Aside0.mk (Rows_below HR4.out HA5.out)
    have BP5 := Aside0.mk (blk_below BP4.out HA5.out)
    have HB5 := Aside0.mk (HB4.out.trans (HA5.out.mono hbw4))
    have VO5 := Aside0.mk (Vs_below VO4.out HA5.out)
    have VI5 := Aside0.mk (Vs_below VI4.out HA5.out)
    have VM5 := Aside0.mk (Vs_below VM4.out HA5.out)
    have VR5 := Aside0.mk (Vs_below VR4.out HA5.out)
    have hXbase : base ≤ X := by omega
    clear HP4 HR4 BP4 HB4 HA5 VO4 VI4 VM4 VR4 q4 q5 q6 r0 r1 r2 r3 r4 hD4 hX
    generalize X + 1 = Bx at BB5 hBB0 ⊢
    refine start_ (n := 27) (S := fun w' => w'.cell? ⟨w.heap.size, 0, none⟩ = some (.pointer (some ⟨B, 0, none⟩)) ∧ w'.cell? ⟨Bx, 0, none⟩ = some (.pointer (some ⟨X, 0, none⟩)) ∧ w'.cell? ⟨X, 10, none⟩ = some (.bool r.f3) ∧ w'.cell? ⟨X, 9, none⟩ = some (.string r.f2)) (ds := [26]) #[false, false, false, false, false, false, false, false, false, false, false, false, false, false, false, false, false, false, false, false, false, false, false, false, false, false, false] (by kernel_rfl) rfl rfl ⟨blk_cell BP5.out 0, blk_cell BB5.out 0, blk_cell BX5.out 10, blk_cell BX5.out 9⟩ (fun hHeld => ?_)
    have hdd := (Below.refl w5.heap.size w5).drew
    have HPd := Aside0.mk (pb_below HP5.out hdd)
    have HRd := Aside0.mk (Rows_below HR5.out hdd)
    have BPd := Aside0.mk (blk_below BP5.out hdd)
    have BBd := Aside0.mk (blk_below BB5.out hdd)
    have BXd := Aside0.mk (blk_below BX5.out hdd)
    have HBd := Aside0.mk (HB5.out.drew)
    have VOd := Aside0.mk (Vs_below VO5.out hdd)
    have VId := Aside0.mk (Vs_below VI5.out hdd)
    have VMd := Aside0.mk (Vs_below VM5.out hdd)
    have VRd := Aside0.mk (Vs_below VR5.out hdd)
    clear hdd
    generalize w5.drew = wd at HPd HRd BPd BBd BXd HBd VOd VId VMd VRd hHeld ⊢
    clear HP5 HR5 BP5 BB5 BX5 HB5 VO5 VI5 VM5 VR5
    refine pure_ (i := 2) (N := some 47) (v := ?_) (a' := ?_) #[false, false, true, false, false, false, false, false, false, false, false, false, false, false, false, false, false, false, false, false, false, false, false, false, false, false, false] rfl rfl (by kernel_rfl) (fun _ _ _ h => h) (Or.inl ⟨by rfl, ?_⟩) ?_ ?_
    rotate_left
    · intro w'
      go_simp
      with_reducible rfl
    rotate_left
    · simp only [Act.put, List.setIfInBounds_toArray, List.set_cons_zero, List.set_cons_succ, i64_w, i32_w]
      rfl
    refine pure_ (i := 5) (N := some 50) (v := ?_) (a' := ?_) #[false, false, true, false, false, true, false, false, false, false, false, false, false, false, false, false, false, false, false, false, false, false, false, false, false, false, false] rfl rfl (by kernel_rfl) (fun _ _ _ h => h) (Or.inl ⟨by rfl, ?_⟩) ?_ ?_
    rotate_left
    · intro w'
      go_simp
      with_reducible rfl
    rotate_left
    · simp only [Act.put, List.setIfInBounds_toArray, List.set_cons_zero, List.set_cons_succ, i64_w, i32_w]
      rfl
    refine pure_ (i := 8) (N := some 53) (v := ?_) (a' := ?_) #[false, false, true, false, false, true, false, false, true, false, false, false, false, false, false, false, false, false, false, false, false, false, false, false, false, false, false] rfl rfl (by kernel_rfl) (fun _ _ _ h => h) (Or.inl ⟨by rfl, ?_⟩) ?_ ?_
    rotate_left
    · intro w'
      go_simp
      with_reducible rfl
    rotate_left
    · simp only [Act.put, List.setIfInBounds_toArray, List.set_cons_zero, List.set_cons_succ, i64_w, i32_w]
      rfl
    refine pure_ (i := 11) (N := some 56) (v := ?_) (a' := ?_) #[false, false, true, false, false, true, false, false, true, false, false, true, false, false, false, false, false, false, false, false, false, false, false, false, false, false, false] rfl rfl (by kernel_rfl) (fun _ _ _ h => h) (Or.inl ⟨by rfl, ?_⟩) ?_ ?_
    rotate_left
    · intro w'
      go_simp
      with_reducible rfl
    rotate_left
    · simp only [Act.put, List.setIfInBounds_toArray, List.set_cons_zero, List.set_cons_succ, i64_w, i32_w]
      rfl
    refine take_ (i := 0) (N := some 45) (v := ?_) (a' := ?_) #[true, false, true, false, false, true, false, false, true, false, false, true, false, false, false, false, false, false, false, false, false, false, false, false, false, false, false] rfl rfl (by kernel_rfl) (fun _ _ _ h => h) (Or.inl ⟨by rfl, ?_⟩) hHeld ?_ ?_
    rotate_left
    · rintro w' ⟨s0, s1, s2, s3⟩
      go_simp
      with_reducible rfl
    rotate_left
    · simp only [Act.put, List.setIfInBounds_toArray, List.set_cons_zero, List.set_cons_succ, i64_w, i32_w]
      rfl
    refine take_ (i := 1) (N := some 46) (v := ?_) (a' := ?_) #[true, true, true, false, false, true, false, false, true, false, false, true, false, false, false, false, false, false, false, false, false, false, false, false, false, false, false] rfl rfl (by kernel_rfl) (fun _ _ _ h => h) (Or.inl ⟨by rfl, ?_⟩) hHeld ?_ ?_
    rotate_left
    · rintro w' ⟨s0, s1, s2, s3⟩
      go_simp
      with_reducible rfl
    rotate_left
    · simp only [Act.put, List.setIfInBounds_toArray, List.set_cons_zero, List.set_cons_succ, i64_w, i32_w]
      rfl
    refine take_ (i := 4) (N := some 49) (v := ?_) (a' := ?_) #[true, true, true, false, true, true, false, false, true, false, false, true, false, false, false, false, false, false, false, false, false, false, false, false, false, false, false] rfl rfl (by kernel_rfl) (fun _ _ _ h => h) (Or.inl ⟨by rfl, ?_⟩) hHeld ?_ ?_
    rotate_left
    · rintro w' ⟨s0, s1, s2, s3⟩
      go_simp
      with_reducible rfl
    rotate_left
    · simp only [Act.put, List.setIfInBounds_toArray, List.set_cons_zero, List.set_cons_succ, i64_w, i32_w]
      rfl
    refine take_ (i := 7) (N := some 52) (v := ?_) (a' := ?_) #[true, true, true, false, true, true, false, true, true, false, false, true, false, false, false, false, false, false, false, false, false, false, false, false, false, false, false] rfl rfl (by kernel_rfl) (fun _ _ _ h => h) (Or.inl ⟨by rfl, ?_⟩) hHeld ?_ ?_
    rotate_left
    · rintro w' ⟨s0, s1, s2, s3⟩
      go_simp
      with_reducible rfl
    rotate_left
    · simp only [Act.put, List.setIfInBounds_toArray, List.set_cons_zero, List.set_cons_succ, i64_w, i32_w]
      rfl
    refine take_ (i := 10) (N := some 55) (v := ?_) (a' := ?_) #[true, true, true, false, true, true, false, true, true, false, true, true, false, false, false, false, false, false, false, false, false, false, false, false, false, false, false] rfl rfl (by kernel_rfl) (fun _ _ _ h => h) (Or.inl ⟨by rfl, ?_⟩) hHeld ?_ ?_
    rotate_left
    · rintro w' ⟨s0, s1, s2, s3⟩
      go_simp
      with_reducible rfl
    rotate_left
    · simp only [Act.put, List.setIfInBounds_toArray, List.set_cons_zero, List.set_cons_succ, i64_w, i32_w]
      rfl
    refine take_ (i := 13) (N := some 58) (v := ?_) (a' := ?_) #[true, true, true, false, true, true, false, true, true, false, true, true, false, true, false, false, false, false, false, false, false, false, false, false, false, false, false] rfl rfl (by kernel_rfl) (fun _ _ _ h => h) (Or.inl ⟨by rfl, ?_⟩) hHeld ?_ ?_
    rotate_left
    · rintro w' ⟨s0, s1, s2, s3⟩
      go_simp
      with_reducible rfl
    rotate_left
    · simp only [Act.put, List.setIfInBounds_toArray, List.set_cons_zero, List.set_cons_succ, i64_w, i32_w]
      rfl
    refine pure_ (i := 14) (N := some 59) (v := ?_) (a' := ?_) #[true, true, true, false, true, true, false, true, true, false, true, true, false, true, true, false, false, false, false, false, false, false, false, false, false, false, false] rfl rfl (by kernel_rfl) (fun _ _ _ h => h) (Or.inl ⟨by rfl, ?_⟩) ?_ ?_
    rotate_left
    · intro w'
      go_simp
      with_reducible rfl
    rotate_left
    · simp only [Act.put, List.setIfInBounds_toArray, List.set_cons_zero, List.set_cons_succ, i64_w, i32_w]
      rfl
    refine pure_ (i := 15) (N := some 60) (v := ?_) (a' := ?_) #[true, true, true, false, true, true, false, true, true, false, true, true, false, true, true, true, false, false, false, false, false, false, false, false, false, false, false] rfl rfl (by kernel_rfl) (fun _ _ _ h => h) (Or.inl ⟨by rfl, ?_⟩) ?_ ?_
    rotate_left
    · intro w'
      go_simp
      with_reducible rfl
    rotate_left
    · simp only [Act.put, List.setIfInBounds_toArray, List.set_cons_zero, List.set_cons_succ, i64_w, i32_w]
      rfl
    refine pure_ (i := 16) (N := some 61) (v := ?_) (a' := ?_) #[true, true, true, false, true, true, false, true, true, false, true, true, false, true, true, true, true, false, false, false, false, false, false, false, false, false, false] rfl rfl (by kernel_rfl) (fun _ _ _ h => h) (Or.inl ⟨by rfl, ?_⟩) ?_ ?_
    rotate_left
    · intro w'
      go_simp
      with_reducible rfl
    rotate_left
    · simp only [Act.put, List.setIfInBounds_toArray, List.set_cons_zero, List.set_cons_succ, i64_w, i32_w]
      rfl
    refine take_ (i := 17) (N := some 62) (v := ?_) (a' := ?_) #[true, true, true, false, true, true, false, true, true, false, true, true, false, true, true, true, true, true, false, false, false, false, false, false, false, false, false] rfl rfl (by kernel_rfl) (fun _ _ _ h => h) (Or.inl ⟨by rfl, ?_⟩) hHeld ?_ ?_
    rotate_left
    · rintro w' ⟨s0, s1, s2, s3⟩
      go_simp
      with_reducible rfl
    rotate_left
    · simp only [Act.put, List.setIfInBounds_toArray, List.set_cons_zero, List.set_cons_succ, i64_w, i32_w]
      rfl
    refine take_ (i := 18) (N := some 63) (v := ?_) (a' := ?_) #[true, true, true, false, true, true, false, true, true, false, true, true, false, true, true, true, true, true, true, false, false, false, false, false, false, false, false] rfl rfl (by kernel_rfl) (fun _ _ _ h => h) (Or.inl ⟨by rfl, ?_⟩) hHeld ?_ ?_
    rotate_left
    · rintro w' ⟨s0, s1, s2, s3⟩
      go_simp
      with_reducible rfl
    rotate_left
    · simp only [Act.put, List.setIfInBounds_toArray, List.set_cons_zero, List.set_cons_succ, i64_w, i32_w]
      rfl
    refine pure_ (i := 19) (N := some 64) (v := ?_) (a' := ?_) #[true, true, true, false, true, true, false, true, true, false, true, true, false, true, true, true, true, true, true, true, false, false, false, false, false, false, false] rfl rfl (by kernel_rfl) (fun _ _ _ h => h) (Or.inl ⟨by rfl, ?_⟩) ?_ ?_
    rotate_left
    · intro w'
      go_simp
      with_reducible rfl
    rotate_left
    · simp only [Act.put, List.setIfInBounds_toArray, List.set_cons_zero, List.set_cons_succ, i64_w, i32_w]
      rfl
    refine pure_ (i := 20) (N := some 65) (v := ?_) (a' := ?_) #[true, true, true, false, true, true, false, true, true, false, true, true, false, true, true, true, true, true, true, true, true, false, false, false, false, false, false] rfl rfl (by kernel_rfl) (fun _ _ _ h => h) (Or.inl ⟨by rfl, ?_⟩) ?_ ?_
    rotate_left
    · intro w'
      go_simp
      with_reducible rfl
    rotate_left
    · simp only [Act.put, List.setIfInBounds_toArray, List.set_cons_zero, List.set_cons_succ, i64_w, i32_w]
      rfl
    refine pure_ (i := 21) (N := some 66) (v := ?_) (a' := ?_) #[true, true, true, false, true, true, false, true, true, false, true, true, false, true, true, true, true, true, true, true, true, true, false, false, false, false, false] rfl rfl (by kernel_rfl) (fun _ _ _ h => h) (Or.inl ⟨by rfl, ?_⟩) ?_ ?_
    rotate_left
    · intro w'
      go_simp
      with_reducible rfl
    rotate_left
    · simp only [Act.put, List.setIfInBounds_toArray, List.set_cons_zero, List.set_cons_succ, i64_w, i32_w]
      rfl
    refine take_ (i := 22) (N := some 67) (v := ?_) (a' := ?_) #[true, true, true, false, true, true, false, true, true, false, true, true, false, true, true, true, true, true, true, true, true, true, true, false, false, false, false] rfl rfl (by kernel_rfl) (fun _ _ _ h => h) (Or.inl ⟨by rfl, ?_⟩) hHeld ?_ ?_
    rotate_left
    · rintro w' ⟨s0, s1, s2, s3⟩
      go_simp
      with_reducible rfl
    rotate_left
    · simp only [Act.put, List.setIfInBounds_toArray, List.set_cons_zero, List.set_cons_succ, i64_w, i32_w]
      rfl
    refine one_ (i := 3) (N := some 48) #[true, true, true, true, true, true, false, true, true, false, true, true, false, true, true, true, true, true, true, true, true, true, true, false, false, false, false] rfl rfl (by kernel_rfl) (by decide) (fun K hK => ?_)
    refine goes_ Tryz.func87 (by kernel_rfl) rfl #[.pointer (some ⟨B, 0, none⟩), .slice AO b1.length cO] (by rfl) rfl rfl (by simp only [List.map_toArray, List.map_cons, List.map_nil]; rfl) ?_
    with_reducible refine (pclean_calls B vE vP vD vO (.slice (some ad) p.rules.length c) .nilFunc .nilFunc 0 _ b1 (small1 HBU.out.1) (small2 HBU.out.1) _ HPd.out VOd.out).mono ?_
    rintro x w6 ⟨v6, rfl, hrow, hp, hk, hb⟩
    refine ⟨_, rfl, ?_⟩
    obtain ⟨A6, c6, rfl⟩ := Kd.R_slice hrow
    skip
    have RO6 := Aside0.mk (row_new hrow HRd.out.2.2.1 (Nat.le_trans hbw HBd.out.size))
    have HP6 := Aside0.mk hp
    have HR6 := Aside0.mk (Rows_kept HRd.out hk (apart_one HPd.out (by decide)))
    have BP6 := Aside0.mk (blk_kept BPd.out hk hneBP)
    have BB6 := Aside0.mk (blk_kept BBd.out hk hBB0)
    have BX6 := Aside0.mk (blk_kept BXd.out hk hXB0)
    have HB6 := Aside0.mk (HBd.out.trans (hb base hbB))
    have VI6 := Aside0.mk (Vs_kept VId.out hk (fun k h1 h2 => h1 h2))
    have VM6 := Aside0.mk (Vs_kept VMd.out hk (fun k h1 h2 => h1 h2))
    have VR6 := Aside0.mk (Vs_kept VRd.out hk (fun k h1 h2 => h1 h2))
    clear hrow hp hk hb HPd HRd BPd BBd BXd HBd VOd VId VMd VRd
    refine hK.out _ _ ⟨blk_cell BP6.out 0, blk_cell BB6.out 0, blk_cell BX6.out 10, blk_cell BX6.out 9⟩ (fun hHeld => ?_)
    clear hK K
    refine norm_ (a' := ?_) ?_ ?_
    rotate_left
    · show Act.put _ (some 48) _ = _
      simp only [Act.put, List.setIfInBounds_toArray, List.set_cons_zero, List.set_cons_succ, i64_w, i32_w]
      rfl
    refine one_ (i := 6) (N := some 51) #[true, true, true, true, true, true, true, true, true, false, true, true, false, true, true, true, true, true, true, true, true, true, true, false, false, false, false] rfl rfl (by kernel_rfl) (by decide) (fun K hK => ?_)
    refine goes_ Tryz.func87 (by kernel_rfl) rfl #[.pointer (some ⟨B, 0, none⟩), .slice AI b3.length cI] (by rfl) rfl rfl (by simp only [List.map_toArray, List.map_cons, List.map_nil]; rfl) ?_
    with_reducible refine (pclean_calls B vE vP vD vO (.slice (some ad) p.rules.length c) .nilFunc .nilFunc (cleanErr 0 b1) _ b3 (small1 HBU.out.2.1) (small2 HBU.out.2.1) _ HP6.out VI6.out).mono ?_
    rintro x w7 ⟨v7, rfl, hrow, hp, hk, hb⟩
    refine ⟨_, rfl, ?_⟩
    obtain ⟨A7, c7, rfl⟩ := Kd.R_slice hrow
    skip
    have RI7 := Aside0.mk (row_new hrow HR6.out.2.2.1 (Nat.le_trans hbw HB6.out.size))
    have RO7 := Aside0.mk (R_types RO6.out hk (pb_type HP6.out (by decide)))
    have HP7 := Aside0.mk hp
    have HR7 := Aside0.mk (Rows_kept HR6.out hk (apart_one HP6.out (by decide)))
    have BP7 := Aside0.mk (blk_kept BP6.out hk hneBP)
    have BB7 := Aside0.mk (blk_kept BB6.out hk hBB0)
    have BX7 := Aside0.mk (blk_kept BX6.out hk hXB0)
    have HB7 := Aside0.mk (HB6.out.trans (hb base hbB))
    have VM7 := Aside0.mk (Vs_kept VM6.out hk (fun k h1 h2 => h1 h2))
    have VR7 := Aside0.mk (Vs_kept VR6.out hk (fun k h1 h2 => h1 h2))
    clear hrow hp hk hb HP6 HR6 BP6 BB6 BX6 HB6 VI6 VM6 VR6 RO6
    refine hK.out _ _ ⟨blk_cell BP7.out 0, blk_cell BB7.out 0, blk_cell BX7.out 10, blk_cell BX7.out 9⟩ (fun hHeld => ?_)
    clear hK K
    refine norm_ (a' := ?_) ?_ ?_
    rotate_left
    · show Act.put _ (some 51) _ = _
      simp only [Act.put, List.setIfInBounds_toArray, List.set_cons_zero, List.set_cons_succ, i64_w, i32_w]
      rfl
    refine one_ (i := 9) (N := some 54) #[true, true, true, true, true, true, true, true, true, true, true, true, false, true, true, true, true, true, true, true, true, true, true, false, false, false, false] rfl rfl (by kernel_rfl) (by decide) (fun K hK => ?_)
    refine goes_ Tryz.func87 (by kernel_rfl) rfl #[.pointer (some ⟨B, 0, none⟩), .slice AM b4.length cM] (by rfl) rfl rfl (by simp only [List.map_toArray, List.map_cons, List.map_nil]; rfl) ?_
    with_reducible refine (pclean_calls B vE vP vD vO (.slice (some ad) p.rules.length c) .nilFunc .nilFunc (cleanErr (cleanErr 0 b1) b3) _ b4 (small1 HBU.out.2.2.1) (small2 HBU.out.2.2.1) _ HP7.out VM7.out).mono ?_
    rintro x w8 ⟨v8, rfl, hrow, hp, hk, hb⟩
    refine ⟨_, rfl, ?_⟩
    obtain ⟨A8, c8, rfl⟩ := Kd.R_slice hrow
    skip
    have RM8 := Aside0.mk (row_new hrow HR7.out.2.2.1 (Nat.le_trans hbw HB7.out.size))
    have RO8 := Aside0.mk (R_types RO7.out hk (pb_type HP7.out (by decide)))
    have RI8 := Aside0.mk (R_types RI7.out hk (pb_type HP7.out (by decide)))
    have HP8 := Aside0.mk hp
    have HR8 := Aside0.mk (Rows_kept HR7.out hk (apart_one HP7.out (by decide)))
    have BP8 := Aside0.mk (blk_kept BP7.out hk hneBP)
    have BB8 := Aside0.mk (blk_kept BB7.out hk hBB0)
    have BX8 := Aside0.mk (blk_kept BX7.out hk hXB0)
    have HB8 := Aside0.mk (HB7.out.trans (hb base hbB))
    have VR8 := Aside0.mk (Vs_kept VR7.out hk (fun k h1 h2 => h1 h2))
    clear hrow hp hk hb HP7 HR7 BP7 BB7 BX7 HB7 VM7 VR7 RO7 RI7
    refine hK.out _ _ ⟨blk_cell BP8.out 0, blk_cell BB8.out 0, blk_cell BX8.out 10, blk_cell BX8.out 9⟩ (fun hHeld => ?_)
    clear hK K
    refine norm_ (a' := ?_) ?_ ?_
    rotate_left
    · show Act.put _ (some 54) _ = _
      simp only [Act.put, List.setIfInBounds_toArray, List.set_cons_zero, List.set_cons_succ, i64_w, i32_w]
      rfl
    refine one_ (i := 12) (N := some 57) #[true, true, true, true, true, true, true, true, true, true, true, true, true, true, true, true, true, true, true, true, true, true, true, false, false, false, false] rfl rfl (by kernel_rfl) (by decide) (fun K hK => ?_)
    refine goes_ Tryz.func87 (by kernel_rfl) rfl #[.pointer (some ⟨B, 0, none⟩), .slice AR b5.length cR] (by rfl) rfl rfl (by simp only [List.map_toArray, List.map_cons, List.map_nil]; rfl) ?_
    with_reducible refine (pclean_calls B vE vP vD vO (.slice (some ad) p.rules.length c) .nilFunc .nilFunc (cleanErr (cleanErr (cleanErr 0 b1) b3) b4) _ b5 (small1 HBU.out.2.2.2) (small2 HBU.out.2.2.2) _ HP8.out VR8.out).mono ?_
    rintro x w9 ⟨v9, rfl, hrow, hp, hk, hb⟩
    refine ⟨_, rfl, ?_⟩
    obtain ⟨A9, c9, rfl⟩ := Kd.R_slice hrow
    skip
    have RR9 := Aside0.mk (row_new hrow HR8.out.2.2.1 (Nat.le_trans hbw HB8.out.size))
    have RO9 := Aside0.mk (R_types RO8.out hk (pb_type HP8.out (by decide)))
    have RI9 := Aside0.mk (R_types RI8.out hk (pb_type HP8.out (by decide)))
    have RM9 := Aside0.mk (R_types RM8.out hk (pb_type HP8.out (by decide)))
    have HP9 := Aside0.mk hp
    have HR9 := Aside0.mk (Rows_kept HR8.out hk (apart_one HP8.out (by decide)))
    have BP9 := Aside0.mk (blk_kept BP8.out hk hneBP)
    have BB9 := Aside0.mk (blk_kept BB8.out hk hBB0)
    have BX9 := Aside0.mk (blk_kept BX8.out hk hXB0)
    have HB9 := Aside0.mk (HB8.out.trans (hb base hbB))
    clear hrow hp hk hb HP8 HR8 BP8 BB8 BX8 HB8 VR8 RO8 RI8 RM8
    refine hK.out _ _ ⟨blk_cell BP9.out 0, blk_cell BB9.out 0, blk_cell BX9.out 10, blk_cell BX9.out 9⟩ (fun hHeld => ?_)
    clear hK K
    refine norm_ (a' := ?_) ?_ ?_
    rotate_left
    · show Act.put _ (some 57) _ = _
      simp only [Act.put, List.setIfInBounds_toArray, List.set_cons_zero, List.set_cons_succ, i64_w, i32_w]
      rfl
    refine pure_ (i := 23) (N := some 68) (v := ?_) (a' := ?_) #[true, true, true, true, true, true, true, true, true, true, true, true, true, true, true, true, true, true, true, true, true, true, true, true, false, false, false] rfl rfl (by kernel_rfl) (fun _ _ _ h => h) (Or.inl ⟨by rfl, ?_⟩) ?_ ?_
    rotate_left
    · intro w'
      go_simp
      with_reducible rfl
    rotate_left
    · simp only [Act.put, List.setIfInBounds_toArray, List.set_cons_zero, List.set_cons_succ, i64_w, i32_w]
      rfl
    refine pure_ (i := 24) (N := some 69) (v := ?_) (a' := ?_) #[true, true, true, true, true, true, true, true, true, true, true, true, true, true, true, true, true, true, true, true, true, true, true, true, true, false, false] rfl rfl (by kernel_rfl) (fun _ _ _ h => h) (Or.inl ⟨by rfl, ?_⟩) ?_ ?_
    rotate_left
    · intro w'
      go_simp
      with_reducible rfl
    rotate_left
    · simp only [Act.put, List.setIfInBounds_toArray, List.set_cons_zero, List.set_cons_succ, i64_w, i32_w]
      rfl
    refine pure_ (i := 25) (N := some 70) (v := ?_) (a' := ?_) #[true, true, true, true, true, true, true, true, true, true, true, true, true, true, true, true, true, true, true, true, true, true, true, true, true, true, false] rfl rfl (by kernel_rfl) (fun _ _ _ h => h) (Or.inl ⟨by rfl, ?_⟩) ?_ ?_
    rotate_left
    · intro w'
      go_simp
      with_reducible rfl
    rotate_left
    · simp only [Act.put, List.setIfInBounds_toArray, List.set_cons_zero, List.set_cons_succ, i64_w, i32_w]
      rfl
    refine last_ (i := 26) (N := none) #[true, true, true, true, true, true, true, true, true, true, true, true, true, true, true, true, true, true, true, true, true, true, true, true, true, true, true] rfl rfl (by kernel_rfl) (by decide) (fun K hK => ?_)
    have x0 : w9.frozen? ⟨X, 0, none⟩ = false := blk_frozen BX9.out 0
    have x1 : w9.frozen? ⟨X, 1, none⟩ = false := blk_frozen BX9.out 1
    have x2 : w9.frozen? ⟨X, 2, none⟩ = false := blk_frozen BX9.out 2
    have x3 : w9.frozen? ⟨X, 3, none⟩ = false := blk_frozen BX9.out 3
    have x4 : w9.frozen? ⟨X, 4, none⟩ = false := blk_frozen BX9.out 4
    have x5 : w9.frozen? ⟨X, 5, none⟩ = false := blk_frozen BX9.out 5
    have x6 : w9.frozen? ⟨X, 6, none⟩ = false := blk_frozen BX9.out 6
    have y0 := blk_cell BX9.out 0
    have y1 := blk_cell BX9.out 1
    have y2 := blk_cell BX9.out 2
    have y3 := blk_cell BX9.out 3
    have y4 := blk_cell BX9.out 4
    have y5 := blk_cell BX9.out 5
    have y6 := blk_cell BX9.out 6
    refine skip_ (w1 := ?_) (by rfl) rfl ?_ ?_
    rotate_left
    · go_simp
      rfl
    refine hK.out _ _ ?_
    clear hK K
    refine done_ (by kernel_rfl) ?_
    have hk10 : Kept w9 (((((((w9.setCell ⟨X, 0, none⟩ (.slice A6 (cleanOut b1).length c6)).setCell ⟨X, 1, none⟩ (.slice A7 (cleanOut b3).length c7)).setCell ⟨X, 2, none⟩ (.slice A8 (cleanOut b4).length c8)).setCell ⟨X, 3, none⟩ (.slice A9 (cleanOut b5).length c9)).setCell ⟨X, 4, none⟩ (.string ⟨#[]⟩)).setCell ⟨X, 5, none⟩ (.bool r.f3)).setCell ⟨X, 6, none⟩ (.string r.f2)) (fun k => k = X) := (Kept.then_ (Kept.then_ (Kept.then_ (Kept.then_ (Kept.then_ (Kept.then_ (kept_one w9 X 0 (.slice A6 (cleanOut b1).length c6)) (kept_one _ X 1 (.slice A7 (cleanOut b3).length c7)) (fun k hk => .inl hk)) (kept_one _ X 2 (.slice A8 (cleanOut b4).length c8)) (fun k hk => .inl hk)) (kept_one _ X 3 (.slice A9 (cleanOut b5).length c9)) (fun k hk => .inl hk)) (kept_one _ X 4 (.string ⟨#[]⟩)) (fun k hk => .inl hk)) (kept_one _ X 5 (.bool r.f3)) (fun k hk => .inl hk)) (kept_one _ X 6 (.string r.f2)) (fun k hk => .inl hk))
    have BX10 := Aside0.mk (blk_put (blk_put (blk_put (blk_put (blk_put (blk_put (blk_put BX9.out 0 (.slice A6 (cleanOut b1).length c6) rfl) 1 (.slice A7 (cleanOut b3).length c7) rfl) 2 (.slice A8 (cleanOut b4).length c8) rfl) 3 (.slice A9 (cleanOut b5).length c9) rfl) 4 (.string ⟨#[]⟩) rfl) 5 (.bool r.f3) rfl) 6 (.string r.f2) rfl)
    have HB10 : Aside0 (Below base w (((((((w9.setCell ⟨X, 0, none⟩ (.slice A6 (cleanOut b1).length c6)).setCell ⟨X, 1, none⟩ (.slice A7 (cleanOut b3).length c7)).setCell ⟨X, 2, none⟩ (.slice A8 (cleanOut b4).length c8)).setCell ⟨X, 3, none⟩ (.slice A9 (cleanOut b5).length c9)).setCell ⟨X, 4, none⟩ (.string ⟨#[]⟩)).setCell ⟨X, 5, none⟩ (.bool r.f3)).setCell ⟨X, 6, none⟩ (.string r.f2))) := ⟨(Below.setCell (Below.setCell (Below.setCell (Below.setCell (Below.setCell (Below.setCell (Below.setCell HB9.out (p := ⟨X, 0, none⟩) hXbase (.slice A6 (cleanOut b1).length c6)) (p := ⟨X, 1, none⟩) hXbase (.slice A7 (cleanOut b3).length c7)) (p := ⟨X, 2, none⟩) hXbase (.slice A8 (cleanOut b4).length c8)) (p := ⟨X, 3, none⟩) hXbase (.slice A9 (cleanOut b5).length c9)) (p := ⟨X, 4, none⟩) hXbase (.string ⟨#[]⟩)) (p := ⟨X, 5, none⟩) hXbase (.bool r.f3)) (p := ⟨X, 6, none⟩) hXbase (.string r.f2))⟩
    generalize (((((((w9.setCell ⟨X, 0, none⟩ (.slice A6 (cleanOut b1).length c6)).setCell ⟨X, 1, none⟩ (.slice A7 (cleanOut b3).length c7)).setCell ⟨X, 2, none⟩ (.slice A8 (cleanOut b4).length c8)).setCell ⟨X, 3, none⟩ (.slice A9 (cleanOut b5).length c9)).setCell ⟨X, 4, none⟩ (.string ⟨#[]⟩)).setCell ⟨X, 5, none⟩ (.bool r.f3)).setCell ⟨X, 6, none⟩ (.string r.f2)) = w10 at hk10 BX10 HB10 ⊢
    have HXX := Aside0.mk (fun (l : List Nat) (hl : 124 ∉ l) (k : Nat) (hk : k = X) => (by subst hk; exact ⟨_, 124, BX9.out, hl⟩ : ∃ cells q, w9.heap[k]? = some (.cells cells q (0, 0)) ∧ q ∉ l))
    have HP10 := Aside0.mk (show Pb w10 B _ _ _ _ _ _ _ _ from blk_kept HP9.out hk10 (fun q => hXB0 q.symm))
    have HR10 := Aside0.mk (Rows_kept HR9.out hk10 (HXX.out [42, 9, 44, 174, 116] (by decide)))
    have hXP : ¬ w.heap.size = X := heap_ne BP9.out BX9.out (by decide)
    have hXBx : ¬ Bx = X := heap_ne BB9.out BX9.out (by decide)
    have BP10 := Aside0.mk (blk_kept BP9.out hk10 hXP)
    have BB10 := Aside0.mk (blk_kept BB9.out hk10 hXBx)
    have RO10 := Aside0.mk (R_types RO9.out hk10 (HXX.out [9] (by decide)))
    have RI10 := Aside0.mk (R_types RI9.out hk10 (HXX.out [9] (by decide)))
    have RM10 := Aside0.mk (R_types RM9.out hk10 (HXX.out [9] (by decide)))
    have RR10 := Aside0.mk (R_types RR9.out hk10 (HXX.out [9] (by decide)))
    clear hk10 HXX HP9 HR9 BP9 BB9 BX9 HB9 RO9 RI9 RM9 RR9
    obtain ⟨Ae, ce, rfl, _⟩ := Kd.R_reads HR10.out.1
    generalize (cleanErr (cleanErr (cleanErr (cleanErr 0 b1) b3) b4) b5) = e6 at HP10 HE
    generalize cleanOut b1 = l1 at RO10 HO BX10 ⊢
    generalize cleanOut b3 = l3 at RI10 HO BX10 ⊢
    generalize cleanOut b4 = l4 at RM10 HO BX10 ⊢
    generalize cleanOut b5 = l5 at RR10 HO BX10 ⊢
    clear HBC HE2 HE1 HBU hHeld
    go_upto_region 8 with (fail)
    refine start_ (n := 9) (S := fun w' => w'.cell? ⟨w.heap.size, 0, none⟩ = some (.pointer (some ⟨B, 0, none⟩)) ∧ w'.cell? ⟨B, 0, none⟩ = some (.slice Ae p.edges.length ce)) (ds := [8]) #[false, false, false, false, false, false, false, false, false] (by kernel_rfl) rfl rfl ⟨blk_cell BP10.out 0, blk_cell HP10.out 0⟩ (fun hHeld => ?_)
    have hdd := (Below.refl w10.heap.size w10).drew
    have HPe := Aside0.mk (pb_below HP10.out hdd)
    have HRe := Aside0.mk (Rows_below HR10.out hdd)
    have BPe := Aside0.mk (blk_below BP10.out hdd)
    have BBe := Aside0.mk (blk_below BB10.out hdd)
    have BXe := Aside0.mk (blk_below BX10.out hdd)
    have HBe := Aside0.mk (HB10.out.drew)
    have ROe := Aside0.mk (Kd.R_below RO10.out hdd)
    have RIe := Aside0.mk (Kd.R_below RI10.out hdd)
    have RMe := Aside0.mk (Kd.R_below RM10.out hdd)
    have RRe := Aside0.mk (Kd.R_below RR10.out hdd)
    clear hdd
    generalize w10.drew = we at HPe HRe BPe BBe BXe HBe ROe RIe RMe RRe hHeld ⊢
    clear HP10 HR10 BP10 BB10 BX10 HB10 RO10 RI10 RM10 RR10
    refine take_ (i := 0) (N := some 71) (v := ?_) (a' := ?_) #[true, false, false, false, false, false, false, false, false] rfl rfl (by kernel_rfl) (fun _ _ _ h => h) (Or.inl ⟨by rfl, ?_⟩) hHeld ?_ ?_
    rotate_left
    · rintro w' ⟨s0, s1⟩
      go_simp
      with_reducible rfl
    rotate_left
    · simp only [Act.put, List.setIfInBounds_toArray, List.set_cons_zero, List.set_cons_succ, i64_w, i32_w]
      rfl
    refine take_ (i := 1) (N := some 72) (v := ?_) (a' := ?_) #[true, true, false, false, false, false, false, false, false] rfl rfl (by kernel_rfl) (fun _ _ _ h => h) (Or.inl ⟨by rfl, ?_⟩) hHeld ?_ ?_
    rotate_left
    · rintro w' ⟨s0, s1⟩
      go_simp
      with_reducible rfl
    rotate_left
    · simp only [Act.put, List.setIfInBounds_toArray, List.set_cons_zero, List.set_cons_succ, i64_w, i32_w]
      rfl
    refine pure_ (i := 2) (N := some 73) (v := ?_) (a' := ?_) #[true, true, true, false, false, false, false, false, false] rfl rfl (by kernel_rfl) (fun _ _ _ h => h) (Or.inl ⟨by rfl, ?_⟩) ?_ ?_
    rotate_left
    · intro w'
      go_simp
      with_reducible rfl
    rotate_left
    · simp only [Act.put, List.setIfInBounds_toArray, List.set_cons_zero, List.set_cons_succ, i64_w, i32_w]
      rfl
    refine pure_ (i := 3) (N := some 74) (v := ?_) (a' := ?_) #[true, true, true, true, false, false, false, false, false] rfl rfl (by kernel_rfl) (fun _ _ _ h => h) (Or.inl ⟨by rfl, ?_⟩) ?_ ?_
    rotate_left
    · intro w'
      go_simp
      with_reducible rfl
    rotate_left
    · simp only [Act.put, List.setIfInBounds_toArray, List.set_cons_zero, List.set_cons_succ, i64_w, i32_w]
      rfl
    refine pure_ (i := 4) (N := some 75) (v := ?_) (a' := ?_) #[true, true, true, true, true, false, false, false, false] rfl rfl (by kernel_rfl) (fun _ _ _ h => h) (Or.inl ⟨by rfl, ?_⟩) ?_ ?_
    rotate_left
    · intro w'
      go_simp
      with_reducible rfl
    rotate_left
    · simp only [Act.put, List.setIfInBounds_toArray, List.set_cons_zero, List.set_cons_succ, i64_w, i32_w]
      rfl
    refine take_ (i := 5) (N := some 76) (v := ?_) (a' := ?_) #[true, true, true, true, true, true, false, false, false] rfl rfl (by kernel_rfl) (fun _ _ _ h => h) (Or.inl ⟨by rfl, ?_⟩) hHeld ?_ ?_
    rotate_left
    · rintro w' ⟨s0, s1⟩
      go_simp
      with_reducible rfl
    rotate_left
    · simp only [Act.put, List.setIfInBounds_toArray, List.set_cons_zero, List.set_cons_succ, i64_w, i32_w]
      rfl
    refine pure_ (i := 6) (N := some 77) (v := ?_) (a' := ?_) #[true, true, true, true, true, true, true, false, false] rfl rfl (by kernel_rfl) (fun _ _ _ h => h) (Or.inl ⟨by rfl, ?_⟩) ?_ ?_
    rotate_left
    · intro w'
      go_simp
      with_reducible rfl
    rotate_left
    · simp only [Act.put, List.setIfInBounds_toArray, List.set_cons_zero, List.set_cons_succ, i64_w, i32_w]
      rfl
    refine pure_ (i := 7) (N := some 78) (v := ?_) (a' := ?_) #[true, true, true, true, true, true, true, true, false] rfl rfl (by kernel_rfl) (fun _ _ _ h => h) (Or.inl ⟨by rfl, ?_⟩) ?_ ?_
    rotate_left
    · intro w'
      go_simp
      with_reducible rfl
    rotate_left
    · simp only [Act.put, List.setIfInBounds_toArray, List.set_cons_zero, List.set_cons_succ, i64_w, i32_w]
      rfl
    refine last_ (i := 8) (N := some 79) #[true, true, true, true, true, true, true, true, true] rfl rfl (by kernel_rfl) (by decide) (fun K hK => ?_)
    refine goes_ Tryz.func79 (by kernel_rfl) rfl #[.pointer (some ⟨B, 0, none⟩), .bool (decide ((p.edges.length : Int) < 16))] (by rfl) rfl rfl (by simp only [List.map_toArray, List.map_cons, List.map_nil]; rfl) ?_
    with_reducible refine (room_calls B (.slice Ae p.edges.length ce) vP vD vO (.slice (some ad) p.rules.length c) .nilFunc .nilFunc e6 (decide ((p.edges.length : Int) < 16)) _ HPe.out).mono ?_
    rintro x w11 ⟨rfl, hp, hk, hb⟩
    refine ⟨_, rfl, ?_⟩
    have HPf := Aside0.mk hp
    have HRf := Aside0.mk (Rows_kept HRe.out hk (apart_one HPe.out (by decide)))
    have BPf := Aside0.mk (blk_kept BPe.out hk hneBP)
    have BBf := Aside0.mk (blk_kept BBe.out hk hBB0)
    have BXf := Aside0.mk (blk_kept BXe.out hk hXB0)
    have HBf := Aside0.mk (HBe.out.trans (hb base hbB))
    have ROf := Aside0.mk (R_types ROe.out hk (pb_type HPe.out (by decide)))
    have RIf := Aside0.mk (R_types RIe.out hk (pb_type HPe.out (by decide)))
    have RMf := Aside0.mk (R_types RMe.out hk (pb_type HPe.out (by decide)))
    have RRf := Aside0.mk (R_types RRe.out hk (pb_type HPe.out (by decide)))
    clear hp hk hb HPe HRe BPe BBe BXe HBe ROe RIe RMe RRe
    refine hK.out _ _ ?_
    clear hK K
    refine norm_ (a' := ?_) ?_ ?_
    rotate_left
    · show Act.put _ (some 79) _ = _
      simp only [Act.put, List.setIfInBounds_toArray, List.set_cons_zero, List.set_cons_succ, i64_w, i32_w]
      rfl
    refine done_ (by kernel_rfl) ?_
    rw [HE.out] at HPf
    have hq1 : w11.cell? ⟨w.heap.size, 0, none⟩ = some (.pointer (some ⟨B, 0, none⟩)) := blk_cell BPf.out 0
    have hq4 : w11.cell? ⟨B, 5, none⟩ = some .nilFunc := blk_cell HPf.out 5
    have hq5 : w11.cell? ⟨B, 6, none⟩ = some .nilFunc := blk_cell HPf.out 6
    have hq2 := blk_frozen HPf.out 5
    have hq3 := blk_frozen HPf.out 6
    go_wp2_with fail
    go_end0
    have k1 := kept_one w11 B 5 (.func (.func 88) #[] #[.pointer (some ⟨w.heap.size, 0, none⟩), .pointer (some ⟨Bx, 0, none⟩)])
    have p1 : Pb _ B (.slice Ae p.edges.length ce) vP vD vO (.slice (some ad) p.rules.length c) (.func (.func 88) #[] #[.pointer (some ⟨w.heap.size, 0, none⟩), .pointer (some ⟨Bx, 0, none⟩)]) .nilFunc _ := blk_put HPf.out 5 _ rfl
    have k2 := Kept.then_ k1 (kept_one (w11.setCell ⟨B, 5, none⟩ (.func (.func 88) #[] #[.pointer (some ⟨w.heap.size, 0, none⟩), .pointer (some ⟨Bx, 0, none⟩)])) B 6 (.func (.func 89) #[] #[.pointer (some ⟨w.heap.size, 0, none⟩), .pointer (some ⟨Bx, 0, none⟩)])) (fun k hk => .inl hk)
    have a1 := apart_one HPf.out (by decide)
    have t1 := pb_type HPf.out (l := [9]) (by decide)
    rw [← HO.out]
    exact ⟨rfl, ⟨_, _, _, _, _, _, _, hbB, blk_put p1 6 _ rfl, Rows_kept HRf.out k2 a1, ⟨w.heap.size, Bx, X, _, _, _, _, _, rfl, rfl, blk_kept BPf.out k2 hneBP, blk_kept BBf.out k2 hBB0, hXbase, blk_kept BXf.out k2 hXB0, R_types ROf.out k2 t1, R_types RIf.out k2 t1, R_types RMf.out k2 t1, R_types RRf.out k2 t1, Kd.R_nil _ _ _ _ _⟩⟩, (HBf.out.setCell (p := ⟨B, 5, none⟩) hbB _).setCell (p := ⟨B, 6, none⟩) hbB _⟩
end Go.Proofs.YtefheailchihaaaGreatDoor.Print

end
section
namespace Go.Proofs.YtefheailchihaaaGreatDoor.Print
open Go.RowKit Go.Lib Go.Shelf Go.Proofs.YtefheailchihaaaGreatDoorW.PrintWords Go.Proofs.YtefheailchihaaaGreatDoorW.PrintLast Go.Proofs.YtefheailchihaaaGreatDoorW.PrintMore
set_option linter.unusedVariables false
set_option linter.unusedSimpArgs false
attribute [local go_sem ↓] Go.wp_at_zero Go.wp_at_succ

theorem join_small {xs : List ByteArray} (h : Small8 xs) : (Lib.join (xs.map (·.data.toList)) [32]).length ≤ 140737488355328 := by
  have h1 := join_le 1048576 xs [32] (small1 h)
  have h2 := small2 h
  simp only [List.length_cons, List.length_nil] at h1
  omega
theorem join_calls (v : Value) (base : Nat) (ok : Nat → Prop) (xs : List ByteArray) (w : World) (hx : Small8 xs) (hR : Kd.R Kd.string 9 w base ok v xs) :
    Calls Tryz.prog 117 #[v, .string ⟨#[32]⟩] w fun e w' => e = .returned (.string (joinB xs ⟨#[32]⟩)) ∧ Below w.heap.size w w' := by
  by_cases h0 : 0 < xs.length
  · obtain ⟨g, c, rfl, hg, hlt, _⟩ := Kd.R_form hR h0
    obtain ⟨_, hc, hC⟩ := Kd.R_reads' hR
    refine Tryz.strings_Join g 0 c xs ⟨#[32]⟩ w (fun j x hj => ?_) hlt (by have := small2 hx; omega) hc (join_small hx)
    obtain ⟨hl, rfl⟩ := List.getElem?_eq_some_iff.1 hj
    obtain ⟨ad, ha, f0⟩ := Kd.at_string hC (j : Int) (by omega) (by omega)
    injection ha with ha
    subst ha
    rw [rdOf_at xs j hl] at f0
    cases j with
    | zero => simpa [Addr.add] using f0
    | succ j => simpa [Addr.add] using f0
  · obtain rfl : xs = [] := List.length_eq_zero_iff.1 (by omega)
    obtain ⟨A, c, rfl⟩ := Kd.R_slice hR
    refine (Tryz.strings_Join_none A c ⟨#[32]⟩ w).mono ?_
    rintro e w' ⟨rfl, rfl⟩
    exact ⟨rfl, Below.refl _ _⟩
theorem joinB_size {xs : List ByteArray} (h : Small8 xs) : (joinB xs ⟨#[32]⟩).size ≤ 9223372036854775807 := by
  have h1 := join_small h
  show (Lib.join (xs.map (·.data.toList)) [32]).toArray.size ≤ _
  rw [List.size_toArray]
  omega
theorem evalOf_size (s : ByteArray) (l1 l2 : List S174) : (evalOf s l1 l2).1.size ≤ 256 := by
  unfold evalOf
  split
  · split
    · rename_i h
      show (evalOut l1 l2 (cutOf s).1).toArray.size ≤ _
      rw [List.size_toArray]
      exact h
    · exact Nat.zero_le _
  · exact Nat.zero_le _
theorem long_put {l : List S174} (h : longOk l = true) (s t : ByteArray) (ht : t.size ≤ 9223372036854775807) : longOk (putL l s t) = true := by
  unfold putL
  split
  · unfold scopeSet
    split
    · unfold setIn
      unfold longOk at h ⊢
      rw [List.all_eq_true] at h
      split
      · rw [List.all_eq_true]
        intro x hx
        rcases List.mem_or_eq_of_mem_set hx with hx | rfl
        · exact h x hx
        · exact decide_eq_true ht
      · split
        · rfl
        · rw [List.all_eq_true]
          intro x hx
          rcases List.mem_append.1 hx with hx | hx
          · exact h x hx
          · rw [List.mem_singleton.1 hx]
            exact decide_eq_true ht
    · rfl
  · exact h
/-- A row of strings is none of the edges' row. -/
theorem row_not {w : World} {base base' : Nat} {ok ok' : Nat → Prop} {v vE : Value} {xs : List ByteArray} {ys : List S42} (h : Kd.R Kd.string 9 w base ok v xs) (hE : Kd.R k42 42 w base' ok' vE ys) : Kd.R Kd.string 9 w base (fun k => ok k ∧ some k ≠ vE.ownBlock) v xs :=
  Kd.R_mono (Kd.R_bound h) (fun k hk => ⟨hk.1, fun he => by
    obtain ⟨_, _, _, q, hq, cells, hc⟩ := hk
    obtain ⟨cells2, hc2⟩ := R_own_type hE he.symm
    rw [hc] at hc2
    simp only [Option.some.injEq, Obj.cells.injEq] at hc2
    have h9 : q = 9 := by simpa [Kd.string, Kd.scalar] using hq
    have h42 := hc2.2.1
    exact absurd (h9.symm.trans h42) (by decide)⟩)
theorem infoD42 : (Tryz.prog.info? 42).map (fun i => (i.zero, i.size, i.bytes)) = some (some (.agg #[.slice none 0 0, .slice none 0 0, .slice none 0 0, .slice none 0 0, .string ⟨#[]⟩, .bool false, .string ⟨#[]⟩]), 7, 136) := by kernel_rfl
def sIn : ByteArray := ⟨#[105, 110]⟩
def sOut : ByteArray := ⟨#[111, 117, 116]⟩
/-- A build line's own scope with what it makes and what of. -/
def finS1 (ins : List ByteArray) (own : List S174) : List S174 := putL own sIn (joinB ins ⟨#[32]⟩)
def finS2 (outs ins : List ByteArray) (own : List S174) : List S174 := putL (finS1 ins own) sOut (joinB outs ⟨#[32]⟩)
def finC (outer : List S174) (outs ins : List ByteArray) (r : S116) (own : List S174) : ByteArray × Int := evalOf r.f1 (finS2 outs ins own) outer
def finE (outer : List S174) (outs ins : List ByteArray) (r : S116) (own : List S174) (e : Int) : Int :=
  needE (tookE (tookE (tookE e (scopeSet own sIn (joinB ins ⟨#[32]⟩)).2) (scopeSet (finS1 ins own) sOut (joinB outs ⟨#[32]⟩)).2) (finC outer outs ins r own).2) (!(finC outer outs ins r own).1.toList.isEmpty)
def finP (p : Pst) (outs ins imp ord : List ByteArray) (r : S116) (own : List S174) : Pst := { p with edges := p.edges ++ [⟨outs, ins, imp, ord, (finC p.outer outs ins r own).1, r.f3, r.f2⟩] }
/-- The parser's rows, whatever is open. -/
def Mrows (w : World) (base B : Nat) (p : Pst) (fd fo : Value) (e : Int) : Prop := ∃ vE vP vD vO vR, base ≤ B ∧ Pb w B vE vP vD vO vR fd fo e ∧ Rows w base p vE vP vD vO vR

set_option maxHeartbeats 8000000 in
set_option maxRecDepth 100000 in
theorem finish_calls (base B X : Nat) (p : Pst) (vE vP vD vO vR fd fo v0 v1 v2 v3 vS : Value) (e : Int) (outs ins imp ord : List ByteArray) (r : S116) (own : List S174) (w : World) (hbB : base ≤ B) (hbX : base ≤ X) (h : Pb w B vE vP vD vO vR fd fo e) (hR : Rows w base p vE vP vD vO vR)
    (hX : w.heap[X]? = some (.cells #[v0, v1, v2, v3, .string ⟨#[]⟩, .bool r.f3, .string r.f2, .string r.f0, .string r.f1, .string r.f2, .bool r.f3, .bool r.f4, vS] 124 (0, 0)))
    (h0 : Kd.R Kd.string 9 w base (fun k => some k ≠ vD.ownBlock) v0 outs) (h1 : Kd.R Kd.string 9 w base (fun k => some k ≠ vD.ownBlock) v1 ins) (h2 : Kd.R Kd.string 9 w base (fun k => some k ≠ vD.ownBlock) v2 imp) (h3 : Kd.R Kd.string 9 w base (fun k => some k ≠ vD.ownBlock) v3 ord) (hS : Kd.R k174 174 w base (fun _ => True) vS own)
    (sO : Small8 outs) (sI : Small8 ins) (lS : longOk own = true) (lO : longOk p.outer = true) (hr : r.f1.size ≤ 9223372036854775807) (hlen : p.edges.length ≤ 1048576) (Q tq : Nat) (cq : Array Value) (hQ : w.heap[Q]? = some (.cells cq tq (0, 0))) (htq : (tq == 57) = false ∧ (tq == 124) = false ∧ (42 == tq) = false) :
    Calls Tryz.prog 90 #[.pointer (some ⟨B, 0, none⟩), .pointer (some ⟨X, 0, none⟩)] w fun x w' => x = .returned (.tuple #[]) ∧ Mrows w' base B (finP p outs ins imp ord r own) fd fo (finE p.outer outs ins r own e) ∧ Below base w w' ∧ w'.heap[Q]? = some (.cells cq tq (0, 0)) := by
  have hQB : ¬ Q = B := fun q => heap_ne hQ h htq.1 q
  have hQX : ¬ Q = X := fun q => heap_ne hQ hX htq.2.1 q
  have BQa := Aside0.mk hQ
  clear hQ
  have hXB : ¬ X = B := fun q => heap_ne hX h (by decide) q
  have hBX : ¬ B = X := fun q => hXB q.symm
  have hbw : base ≤ w.heap.size := Nat.le_trans hbB (Nat.le_of_lt (blk_lt h))
  obtain ⟨A0, c0, rfl⟩ := Kd.R_slice h0
  obtain ⟨A1, c1, rfl⟩ := Kd.R_slice h1
  obtain ⟨A2, c2, rfl⟩ := Kd.R_slice h2
  obtain ⟨A3, c3, rfl⟩ := Kd.R_slice h3
  obtain ⟨AS, cS, rfl⟩ := Kd.R_slice hS
  obtain ⟨Ae, ce, rfl⟩ := Kd.R_slice hR.1
  obtain ⟨Ao, co, rfl⟩ := Kd.R_slice hR.2.2.2.1
  have jI := joinB_size sI
  have jO := joinB_size sO
  have l1 := long_put lS sIn (joinB ins ⟨#[32]⟩) jI
  have l2 := long_put l1 sOut (joinB outs ⟨#[32]⟩) jO
  have hfp : finP p outs ins imp ord r own = { p with edges := p.edges ++ [⟨outs, ins, imp, ord, (finC p.outer outs ins r own).1, r.f3, r.f2⟩] } := rfl
  have hfe : finE p.outer outs ins r own e = needE (tookE (tookE (tookE e (scopeSet own sIn (joinB ins ⟨#[32]⟩)).2) (scopeSet (finS1 ins own) sOut (joinB outs ⟨#[32]⟩)).2) (finC p.outer outs ins r own).2) (!(finC p.outer outs ins r own).1.toList.isEmpty) := rfl
  have hfc : finC p.outer outs ins r own = evalOf r.f1 (finS2 outs ins own) p.outer := rfl
  have hsz : (finC p.outer outs ins r own).1.size ≤ 256 := evalOf_size _ _ _
  obtain ⟨P', hP'⟩ : ∃ q, finP p outs ins imp ord r own = q := ⟨_, rfl⟩
  obtain ⟨E', hE'⟩ : ∃ q, finE p.outer outs ins r own e = q := ⟨_, rfl⟩
  rw [hP'] at hfp ⊢
  rw [hE'] at hfe ⊢
  obtain ⟨⟨cmd, ec⟩, hc⟩ : ∃ q, finC p.outer outs ins r own = q := ⟨_, rfl⟩
  rw [hc] at hfp hfe hfc hsz
  obtain ⟨L, hLL⟩ : ∃ L, p.edges ++ [(⟨outs, ins, imp, ord, (cmd, ec).1, r.f3, r.f2⟩ : S42)] = L := ⟨_, rfl⟩
  rw [hLL] at hfp
  simp only at hLL
  have HLL := Lib.hid hLL
  clear hLL
  have HFP := Lib.hid hfp
  have HFE := Lib.hid hfe
  have HFC := Lib.hid hfc
  clear hfp hfe hfc hP' hE' hc
  simp only at HFP HFE hsz
  have HSO := Aside0.mk sO
  have HSI := Aside0.mk sI
  have HL := Aside0.mk lS
  have HLO := Aside0.mk lO
  have HL1 : Aside0 (longOk (finS1 ins own) = true) := ⟨l1⟩
  have HL2 : Aside0 (longOk (finS2 outs ins own) = true) := ⟨l2⟩
  have HJI := Aside0.mk jI
  have HJO := Aside0.mk jO
  have HPa := Aside0.mk h
  have HRa := Aside0.mk hR
  have BXa := Aside0.mk hX
  have HBa := Aside0.mk (Below.refl base w)
  have ROa := Aside0.mk h0
  have RIa := Aside0.mk h1
  have RMa := Aside0.mk h2
  have RRa := Aside0.mk h3
  have RSa := Aside0.mk hS
  clear h hR hX h0 h1 h2 h3 hS sO sI lS lO l1 l2 jI jO
  go_enter Tryz.func90, Tryz.ntmps90
  go_upto_region 0 with (fail)
  refine start_ (n := 16) (S := fun w' => w'.cell? ⟨X, 12, none⟩ = some (.slice AS own.length cS) ∧ w'.cell? ⟨X, 1, none⟩ = some (.slice A1 ins.length c1)) (ds := [15]) #[false, false, false, false, false, false, false, false, false, false, false, false, false, false, false, false] (by kernel_rfl) rfl rfl ⟨blk_cell BXa.out 12, blk_cell BXa.out 1⟩ (fun hHeld => ?_)
  have hb := (Below.refl w.heap.size w).drew
  have HPpb := Aside0.mk (pb_below HPa.out hb)
  have HRpb := Aside0.mk (Rows_below HRa.out hb)
  have BXpb := Aside0.mk (blk_below BXa.out hb)
  have BQpb := Aside0.mk (blk_below BQa.out hb)
  have HBpb := Aside0.mk (HBa.out.trans (hb.mono (Nat.le_trans hbw HBa.out.size)))
  have ROpb := Aside0.mk (Kd.R_below ROa.out hb)
  have RIpb := Aside0.mk (Kd.R_below RIa.out hb)
  have RMpb := Aside0.mk (Kd.R_below RMa.out hb)
  have RRpb := Aside0.mk (Kd.R_below RRa.out hb)
  have RSpb := Aside0.mk (Kd.R_below RSa.out hb)
  clear hb HPa HRa BXa BQa HBa ROa RIa RMa RRa RSa
  generalize w.drew = wpb at HPpb HRpb BXpb BQpb HBpb ROpb RIpb RMpb RRpb RSpb hHeld ⊢
  refine pure_ (i := 0) (N := some 6) (v := ?_) (a' := ?_) #[true, false, false, false, false, false, false, false, false, false, false, false, false, false, false, false] rfl rfl (by kernel_rfl) (fun _ _ _ h => h) (Or.inl ⟨by rfl, ?_⟩) ?_ ?_
  rotate_left
  · intro w'
    go_simp
    with_reducible rfl
  rotate_left
  · simp only [Act.put, List.setIfInBounds_toArray, List.set_cons_zero, List.set_cons_succ, i64_w, i32_w]
    rfl
  refine pure_ (i := 1) (N := some 7) (v := ?_) (a' := ?_) #[true, true, false, false, false, false, false, false, false, false, false, false, false, false, false, false] rfl rfl (by kernel_rfl) (fun _ _ _ h => h) (Or.inl ⟨by rfl, ?_⟩) ?_ ?_
  rotate_left
  · intro w'
    go_simp
    with_reducible rfl
  rotate_left
  · simp only [Act.put, List.setIfInBounds_toArray, List.set_cons_zero, List.set_cons_succ, i64_w, i32_w]
    rfl
  refine pure_ (i := 2) (N := some 8) (v := ?_) (a' := ?_) #[true, true, true, false, false, false, false, false, false, false, false, false, false, false, false, false] rfl rfl (by kernel_rfl) (fun _ _ _ h => h) (Or.inl ⟨by rfl, ?_⟩) ?_ ?_
  rotate_left
  · intro w'
    go_simp
    with_reducible rfl
  rotate_left
  · simp only [Act.put, List.setIfInBounds_toArray, List.set_cons_zero, List.set_cons_succ, i64_w, i32_w]
    rfl
  refine pure_ (i := 3) (N := some 9) (v := ?_) (a' := ?_) #[true, true, true, true, false, false, false, false, false, false, false, false, false, false, false, false] rfl rfl (by kernel_rfl) (fun _ _ _ h => h) (Or.inl ⟨by rfl, ?_⟩) ?_ ?_
  rotate_left
  · intro w'
    go_simp
    with_reducible rfl
  rotate_left
  · simp only [Act.put, List.setIfInBounds_toArray, List.set_cons_zero, List.set_cons_succ, i64_w, i32_w]
    rfl
  refine pure_ (i := 4) (N := some 10) (v := ?_) (a' := ?_) #[true, true, true, true, true, false, false, false, false, false, false, false, false, false, false, false] rfl rfl (by kernel_rfl) (fun _ _ _ h => h) (Or.inl ⟨by rfl, ?_⟩) ?_ ?_
  rotate_left
  · intro w'
    go_simp
    with_reducible rfl
  rotate_left
  · simp only [Act.put, List.setIfInBounds_toArray, List.set_cons_zero, List.set_cons_succ, i64_w, i32_w]
    rfl
  refine pure_ (i := 6) (N := some 12) (v := ?_) (a' := ?_) #[true, true, true, true, true, false, true, false, false, false, false, false, false, false, false, false] rfl rfl (by kernel_rfl) (fun _ _ _ h => h) (Or.inl ⟨by rfl, ?_⟩) ?_ ?_
  rotate_left
  · intro w'
    go_simp
    with_reducible rfl
  rotate_left
  · simp only [Act.put, List.setIfInBounds_toArray, List.set_cons_zero, List.set_cons_succ, i64_w, i32_w]
    rfl
  refine pure_ (i := 7) (N := some 13) (v := ?_) (a' := ?_) #[true, true, true, true, true, false, true, true, false, false, false, false, false, false, false, false] rfl rfl (by kernel_rfl) (fun _ _ _ h => h) (Or.inl ⟨by rfl, ?_⟩) ?_ ?_
  rotate_left
  · intro w'
    go_simp
    with_reducible rfl
  rotate_left
  · simp only [Act.put, List.setIfInBounds_toArray, List.set_cons_zero, List.set_cons_succ, i64_w, i32_w]
    rfl
  refine pure_ (i := 8) (N := some 14) (v := ?_) (a' := ?_) #[true, true, true, true, true, false, true, true, true, false, false, false, false, false, false, false] rfl rfl (by kernel_rfl) (fun _ _ _ h => h) (Or.inl ⟨by rfl, ?_⟩) ?_ ?_
  rotate_left
  · intro w'
    go_simp
    with_reducible rfl
  rotate_left
  · simp only [Act.put, List.setIfInBounds_toArray, List.set_cons_zero, List.set_cons_succ, i64_w, i32_w]
    rfl
  refine pure_ (i := 9) (N := some 15) (v := ?_) (a' := ?_) #[true, true, true, true, true, false, true, true, true, true, false, false, false, false, false, false] rfl rfl (by kernel_rfl) (fun _ _ _ h => h) (Or.inl ⟨by rfl, ?_⟩) ?_ ?_
  rotate_left
  · intro w'
    go_simp
    with_reducible rfl
  rotate_left
  · simp only [Act.put, List.setIfInBounds_toArray, List.set_cons_zero, List.set_cons_succ, i64_w, i32_w]
    rfl
  refine take_ (i := 5) (N := some 11) (v := ?_) (a' := ?_) #[true, true, true, true, true, true, true, true, true, true, false, false, false, false, false, false] rfl rfl (by kernel_rfl) (fun _ _ _ h => h) (Or.inl ⟨by rfl, ?_⟩) hHeld ?_ ?_
  rotate_left
  · rintro w' ⟨s0, s1⟩
    go_simp
    with_reducible rfl
  rotate_left
  · simp only [Act.put, List.setIfInBounds_toArray, List.set_cons_zero, List.set_cons_succ, i64_w, i32_w]
    rfl
  refine take_ (i := 10) (N := some 16) (v := ?_) (a' := ?_) #[true, true, true, true, true, true, true, true, true, true, true, false, false, false, false, false] rfl rfl (by kernel_rfl) (fun _ _ _ h => h) (Or.inl ⟨by rfl, ?_⟩) hHeld ?_ ?_
  rotate_left
  · rintro w' ⟨s0, s1⟩
    go_simp
    with_reducible rfl
  rotate_left
  · simp only [Act.put, List.setIfInBounds_toArray, List.set_cons_zero, List.set_cons_succ, i64_w, i32_w]
    rfl
  refine one_ (i := 11) (N := some 17) #[true, true, true, true, true, true, true, true, true, true, true, true, false, false, false, false] rfl rfl (by kernel_rfl) (by decide) (fun K hK => ?_)
  refine goes_ Tryz.func117 (by kernel_rfl) rfl #[(.slice A1 ins.length c1), .string ⟨#[32]⟩] (by rfl) rfl rfl (by simp only [List.map_toArray, List.map_cons, List.map_nil]; rfl) ?_
  with_reducible refine (join_calls _ base _ ins _ HSI.out RIpb.out).mono ?_
  rintro x wpc ⟨rfl, hb⟩
  refine ⟨_, rfl, ?_⟩
  have HPpc := Aside0.mk (pb_below HPpb.out hb)
  have HRpc := Aside0.mk (Rows_below HRpb.out hb)
  have BXpc := Aside0.mk (blk_below BXpb.out hb)
  have BQpc := Aside0.mk (blk_below BQpb.out hb)
  have HBpc := Aside0.mk (HBpb.out.trans (hb.mono (Nat.le_trans hbw HBpb.out.size)))
  have ROpc := Aside0.mk (Kd.R_below ROpb.out hb)
  have RIpc := Aside0.mk (Kd.R_below RIpb.out hb)
  have RMpc := Aside0.mk (Kd.R_below RMpb.out hb)
  have RRpc := Aside0.mk (Kd.R_below RRpb.out hb)
  have RSpc := Aside0.mk (Kd.R_below RSpb.out hb)
  clear hb HPpb HRpb BXpb BQpb HBpb ROpb RIpb RMpb RRpb RSpb
  refine hK.out _ _ ⟨blk_cell BXpc.out 12, blk_cell BXpc.out 1⟩ (fun hHeld => ?_)
  clear hK K
  refine norm_ (a' := ?_) ?_ ?_
  rotate_left
  · show Act.put _ (some 17) _ = _
    simp only [Act.put, List.setIfInBounds_toArray, List.set_cons_zero, List.set_cons_succ, i64_w, i32_w]
    rfl
  refine one_ (i := 12) (N := some 18) #[true, true, true, true, true, true, true, true, true, true, true, true, true, false, false, false] rfl rfl (by kernel_rfl) (by decide) (fun K hK => ?_)
  refine goes_ Tryz.func93 (by kernel_rfl) rfl #[.pointer (some ⟨B, 0, none⟩), .slice AS own.length cS, .string sIn, .string (joinB ins ⟨#[32]⟩)] (by rfl) rfl rfl (by simp only [List.map_toArray, List.map_cons, List.map_nil]; rfl) ?_
  with_reducible refine (put_calls B (.slice Ae p.edges.length ce) vP vD (.slice Ao p.outer.length co) vR fd fo e base _ own sIn (joinB ins ⟨#[32]⟩) _ HPpc.out RSpc.out (Nat.le_trans hbw HBpc.out.size) HL.out HJI.out).mono ?_
  rintro x wpd ⟨vpd, rfl, hrow, hp, hk, hb⟩
  refine ⟨_, rfl, ?_⟩
  obtain ⟨ASpd, cSpd, rfl⟩ := Kd.R_slice hrow
  have ROpd := Aside0.mk (R_types ROpc.out hk (pb_type HPpc.out (by decide)))
  have RIpd := Aside0.mk (R_types RIpc.out hk (pb_type HPpc.out (by decide)))
  have RMpd := Aside0.mk (R_types RMpc.out hk (pb_type HPpc.out (by decide)))
  have RRpd := Aside0.mk (R_types RRpc.out hk (pb_type HPpc.out (by decide)))
  have HRpd := Aside0.mk (Rows_kept HRpc.out hk (apart_one HPpc.out (by decide)))
  have BXpd := Aside0.mk (blk_kept BXpc.out hk hXB)
  have BQpd := Aside0.mk (blk_kept BQpc.out hk hQB)
  have HBpd := Aside0.mk (HBpc.out.trans (hb base hbB))
  have HPpd := Aside0.mk hp
  clear hp hk hb HPpc HRpc BXpc BQpc HBpc ROpc RIpc RMpc RRpc
  have RSpd := Aside0.mk hrow
  clear hrow RSpc
  refine hK.out _ _ ⟨blk_cell BXpd.out 12, blk_cell BXpd.out 1⟩ (fun hHeld => ?_)
  clear hK K
  refine norm_ (a' := ?_) ?_ ?_
  rotate_left
  · show Act.put _ (some 18) _ = _
    simp only [Act.put, List.setIfInBounds_toArray, List.set_cons_zero, List.set_cons_succ, i64_w, i32_w]
    rfl
  refine pure_ (i := 13) (N := some 19) (v := ?_) (a' := ?_) #[true, true, true, true, true, true, true, true, true, true, true, true, true, true, false, false] rfl rfl (by kernel_rfl) (fun _ _ _ h => h) (Or.inl ⟨by rfl, ?_⟩) ?_ ?_
  rotate_left
  · intro w'
    go_simp
    with_reducible rfl
  rotate_left
  · simp only [Act.put, List.setIfInBounds_toArray, List.set_cons_zero, List.set_cons_succ, i64_w, i32_w]
    rfl
  refine pure_ (i := 14) (N := some 20) (v := ?_) (a' := ?_) #[true, true, true, true, true, true, true, true, true, true, true, true, true, true, true, false] rfl rfl (by kernel_rfl) (fun _ _ _ h => h) (Or.inl ⟨by rfl, ?_⟩) ?_ ?_
  rotate_left
  · intro w'
    go_simp
    with_reducible rfl
  rotate_left
  · simp only [Act.put, List.setIfInBounds_toArray, List.set_cons_zero, List.set_cons_succ, i64_w, i32_w]
    rfl
  refine last_ (i := 15) (N := none) #[true, true, true, true, true, true, true, true, true, true, true, true, true, true, true, true] rfl rfl (by kernel_rfl) (by decide) (fun K hK => ?_)
  have hfr := blk_frozen BXpd.out 12
  have hcl := blk_cell BXpd.out 12
  refine skip_ (w1 := ?_) (by rfl) rfl ?_ ?_
  rotate_left
  · go_simp
    rfl
  refine hK.out _ _ ?_
  clear hK K
  refine done_ (by kernel_rfl) ?_
  clear hHeld hfr hcl
  have HFS : Hid (putL own sIn (joinB ins ⟨#[32]⟩) = (finS1 ins own)) := Lib.hid rfl
  rw [HFS.out] at RSpd ⊢
  clear HFS
  have hk := kept_one wpd X 12 (.slice ASpd (finS1 ins own).length cSpd)
  have hXX := fun (l : List Nat) (hl : 124 ∉ l) (k : Nat) (hk : k = X) => (by subst hk; exact ⟨_, 124, BXpd.out, hl⟩ : ∃ cells q, wpd.heap[k]? = some (.cells cells q (0, 0)) ∧ q ∉ l)
  have BXpe := Aside0.mk (blk_put BXpd.out 12 (.slice ASpd (finS1 ins own).length cSpd) rfl)
  have BQpe := Aside0.mk (blk_kept BQpd.out hk hQX)
  have HPpe := Aside0.mk (show Pb _ B _ _ _ _ _ _ _ _ from blk_kept HPpd.out hk hBX)
  have HRpe := Aside0.mk (Rows_kept HRpd.out hk (hXX [42, 9, 44, 174, 116] (by decide)))
  have HBpe := Aside0.mk (HBpd.out.setCell (p := ⟨X, 12, none⟩) hbX (.slice ASpd (finS1 ins own).length cSpd))
  have ROpe := Aside0.mk (R_types ROpd.out hk (hXX [9] (by decide)))
  have RIpe := Aside0.mk (R_types RIpd.out hk (hXX [9] (by decide)))
  have RMpe := Aside0.mk (R_types RMpd.out hk (hXX [9] (by decide)))
  have RRpe := Aside0.mk (R_types RRpd.out hk (hXX [9] (by decide)))
  have RSpe := Aside0.mk (R_types RSpd.out hk (hXX [174] (by decide)))
  clear hk hXX HPpd HRpd BXpd BQpd HBpd ROpd RIpd RMpd RRpd RSpd
  generalize wpd.setCell ⟨X, 12, none⟩ (.slice ASpd (finS1 ins own).length cSpd) = wpe at HPpe HRpe BXpe BQpe HBpe ROpe RIpe RMpe RRpe RSpe ⊢
  go_upto_region 1 with (fail)
  refine start_ (n := 16) (S := fun w' => w'.cell? ⟨X, 12, none⟩ = some (.slice ASpd (finS1 ins own).length cSpd) ∧ w'.cell? ⟨X, 0, none⟩ = some (.slice A0 outs.length c0)) (ds := [15]) #[false, false, false, false, false, false, false, false, false, false, false, false, false, false, false, false] (by kernel_rfl) rfl rfl ⟨blk_cell BXpe.out 12, blk_cell BXpe.out 0⟩ (fun hHeld => ?_)
  have hb := (Below.refl wpe.heap.size wpe).drew
  have HPqb := Aside0.mk (pb_below HPpe.out hb)
  have HRqb := Aside0.mk (Rows_below HRpe.out hb)
  have BXqb := Aside0.mk (blk_below BXpe.out hb)
  have BQqb := Aside0.mk (blk_below BQpe.out hb)
  have HBqb := Aside0.mk (HBpe.out.trans (hb.mono (Nat.le_trans hbw HBpe.out.size)))
  have ROqb := Aside0.mk (Kd.R_below ROpe.out hb)
  have RIqb := Aside0.mk (Kd.R_below RIpe.out hb)
  have RMqb := Aside0.mk (Kd.R_below RMpe.out hb)
  have RRqb := Aside0.mk (Kd.R_below RRpe.out hb)
  have RSqb := Aside0.mk (Kd.R_below RSpe.out hb)
  clear hb HPpe HRpe BXpe BQpe HBpe ROpe RIpe RMpe RRpe RSpe
  generalize wpe.drew = wqb at HPqb HRqb BXqb BQqb HBqb ROqb RIqb RMqb RRqb RSqb hHeld ⊢
  refine pure_ (i := 0) (N := some 21) (v := ?_) (a' := ?_) #[true, false, false, false, false, false, false, false, false, false, false, false, false, false, false, false] rfl rfl (by kernel_rfl) (fun _ _ _ h => h) (Or.inl ⟨by rfl, ?_⟩) ?_ ?_
  rotate_left
  · intro w'
    go_simp
    with_reducible rfl
  rotate_left
  · simp only [Act.put, List.setIfInBounds_toArray, List.set_cons_zero, List.set_cons_succ, i64_w, i32_w]
    rfl
  refine pure_ (i := 1) (N := some 22) (v := ?_) (a' := ?_) #[true, true, false, false, false, false, false, false, false, false, false, false, false, false, false, false] rfl rfl (by kernel_rfl) (fun _ _ _ h => h) (Or.inl ⟨by rfl, ?_⟩) ?_ ?_
  rotate_left
  · intro w'
    go_simp
    with_reducible rfl
  rotate_left
  · simp only [Act.put, List.setIfInBounds_toArray, List.set_cons_zero, List.set_cons_succ, i64_w, i32_w]
    rfl
  refine pure_ (i := 2) (N := some 23) (v := ?_) (a' := ?_) #[true, true, true, false, false, false, false, false, false, false, false, false, false, false, false, false] rfl rfl (by kernel_rfl) (fun _ _ _ h => h) (Or.inl ⟨by rfl, ?_⟩) ?_ ?_
  rotate_left
  · intro w'
    go_simp
    with_reducible rfl
  rotate_left
  · simp only [Act.put, List.setIfInBounds_toArray, List.set_cons_zero, List.set_cons_succ, i64_w, i32_w]
    rfl
  refine pure_ (i := 3) (N := some 24) (v := ?_) (a' := ?_) #[true, true, true, true, false, false, false, false, false, false, false, false, false, false, false, false] rfl rfl (by kernel_rfl) (fun _ _ _ h => h) (Or.inl ⟨by rfl, ?_⟩) ?_ ?_
  rotate_left
  · intro w'
    go_simp
    with_reducible rfl
  rotate_left
  · simp only [Act.put, List.setIfInBounds_toArray, List.set_cons_zero, List.set_cons_succ, i64_w, i32_w]
    rfl
  refine pure_ (i := 4) (N := some 25) (v := ?_) (a' := ?_) #[true, true, true, true, true, false, false, false, false, false, false, false, false, false, false, false] rfl rfl (by kernel_rfl) (fun _ _ _ h => h) (Or.inl ⟨by rfl, ?_⟩) ?_ ?_
  rotate_left
  · intro w'
    go_simp
    with_reducible rfl
  rotate_left
  · simp only [Act.put, List.setIfInBounds_toArray, List.set_cons_zero, List.set_cons_succ, i64_w, i32_w]
    rfl
  refine pure_ (i := 6) (N := some 27) (v := ?_) (a' := ?_) #[true, true, true, true, true, false, true, false, false, false, false, false, false, false, false, false] rfl rfl (by kernel_rfl) (fun _ _ _ h => h) (Or.inl ⟨by rfl, ?_⟩) ?_ ?_
  rotate_left
  · intro w'
    go_simp
    with_reducible rfl
  rotate_left
  · simp only [Act.put, List.setIfInBounds_toArray, List.set_cons_zero, List.set_cons_succ, i64_w, i32_w]
    rfl
  refine pure_ (i := 7) (N := some 28) (v := ?_) (a' := ?_) #[true, true, true, true, true, false, true, true, false, false, false, false, false, false, false, false] rfl rfl (by kernel_rfl) (fun _ _ _ h => h) (Or.inl ⟨by rfl, ?_⟩) ?_ ?_
  rotate_left
  · intro w'
    go_simp
    with_reducible rfl
  rotate_left
  · simp only [Act.put, List.setIfInBounds_toArray, List.set_cons_zero, List.set_cons_succ, i64_w, i32_w]
    rfl
  refine pure_ (i := 8) (N := some 29) (v := ?_) (a' := ?_) #[true, true, true, true, true, false, true, true, true, false, false, false, false, false, false, false] rfl rfl (by kernel_rfl) (fun _ _ _ h => h) (Or.inl ⟨by rfl, ?_⟩) ?_ ?_
  rotate_left
  · intro w'
    go_simp
    with_reducible rfl
  rotate_left
  · simp only [Act.put, List.setIfInBounds_toArray, List.set_cons_zero, List.set_cons_succ, i64_w, i32_w]
    rfl
  refine pure_ (i := 9) (N := some 30) (v := ?_) (a' := ?_) #[true, true, true, true, true, false, true, true, true, true, false, false, false, false, false, false] rfl rfl (by kernel_rfl) (fun _ _ _ h => h) (Or.inl ⟨by rfl, ?_⟩) ?_ ?_
  rotate_left
  · intro w'
    go_simp
    with_reducible rfl
  rotate_left
  · simp only [Act.put, List.setIfInBounds_toArray, List.set_cons_zero, List.set_cons_succ, i64_w, i32_w]
    rfl
  refine take_ (i := 5) (N := some 26) (v := ?_) (a' := ?_) #[true, true, true, true, true, true, true, true, true, true, false, false, false, false, false, false] rfl rfl (by kernel_rfl) (fun _ _ _ h => h) (Or.inl ⟨by rfl, ?_⟩) hHeld ?_ ?_
  rotate_left
  · rintro w' ⟨s0, s1⟩
    go_simp
    with_reducible rfl
  rotate_left
  · simp only [Act.put, List.setIfInBounds_toArray, List.set_cons_zero, List.set_cons_succ, i64_w, i32_w]
    rfl
  refine take_ (i := 10) (N := some 31) (v := ?_) (a' := ?_) #[true, true, true, true, true, true, true, true, true, true, true, false, false, false, false, false] rfl rfl (by kernel_rfl) (fun _ _ _ h => h) (Or.inl ⟨by rfl, ?_⟩) hHeld ?_ ?_
  rotate_left
  · rintro w' ⟨s0, s1⟩
    go_simp
    with_reducible rfl
  rotate_left
  · simp only [Act.put, List.setIfInBounds_toArray, List.set_cons_zero, List.set_cons_succ, i64_w, i32_w]
    rfl
  refine one_ (i := 11) (N := some 32) #[true, true, true, true, true, true, true, true, true, true, true, true, false, false, false, false] rfl rfl (by kernel_rfl) (by decide) (fun K hK => ?_)
  refine goes_ Tryz.func117 (by kernel_rfl) rfl #[(.slice A0 outs.length c0), .string ⟨#[32]⟩] (by rfl) rfl rfl (by simp only [List.map_toArray, List.map_cons, List.map_nil]; rfl) ?_
  with_reducible refine (join_calls _ base _ outs _ HSO.out ROqb.out).mono ?_
  rintro x wqc ⟨rfl, hb⟩
  refine ⟨_, rfl, ?_⟩
  have HPqc := Aside0.mk (pb_below HPqb.out hb)
  have HRqc := Aside0.mk (Rows_below HRqb.out hb)
  have BXqc := Aside0.mk (blk_below BXqb.out hb)
  have BQqc := Aside0.mk (blk_below BQqb.out hb)
  have HBqc := Aside0.mk (HBqb.out.trans (hb.mono (Nat.le_trans hbw HBqb.out.size)))
  have ROqc := Aside0.mk (Kd.R_below ROqb.out hb)
  have RIqc := Aside0.mk (Kd.R_below RIqb.out hb)
  have RMqc := Aside0.mk (Kd.R_below RMqb.out hb)
  have RRqc := Aside0.mk (Kd.R_below RRqb.out hb)
  have RSqc := Aside0.mk (Kd.R_below RSqb.out hb)
  clear hb HPqb HRqb BXqb BQqb HBqb ROqb RIqb RMqb RRqb RSqb
  refine hK.out _ _ ⟨blk_cell BXqc.out 12, blk_cell BXqc.out 0⟩ (fun hHeld => ?_)
  clear hK K
  refine norm_ (a' := ?_) ?_ ?_
  rotate_left
  · show Act.put _ (some 32) _ = _
    simp only [Act.put, List.setIfInBounds_toArray, List.set_cons_zero, List.set_cons_succ, i64_w, i32_w]
    rfl
  refine one_ (i := 12) (N := some 33) #[true, true, true, true, true, true, true, true, true, true, true, true, true, false, false, false] rfl rfl (by kernel_rfl) (by decide) (fun K hK => ?_)
  refine goes_ Tryz.func93 (by kernel_rfl) rfl #[.pointer (some ⟨B, 0, none⟩), .slice ASpd (finS1 ins own).length cSpd, .string sOut, .string (joinB outs ⟨#[32]⟩)] (by rfl) rfl rfl (by simp only [List.map_toArray, List.map_cons, List.map_nil]; rfl) ?_
  with_reducible refine (put_calls B (.slice Ae p.edges.length ce) vP vD (.slice Ao p.outer.length co) vR fd fo (tookE e (scopeSet own sIn (joinB ins ⟨#[32]⟩)).2) base _ (finS1 ins own) sOut (joinB outs ⟨#[32]⟩) _ HPqc.out RSqc.out (Nat.le_trans hbw HBqc.out.size) HL1.out HJO.out).mono ?_
  rintro x wqd ⟨vqd, rfl, hrow, hp, hk, hb⟩
  refine ⟨_, rfl, ?_⟩
  obtain ⟨ASqd, cSqd, rfl⟩ := Kd.R_slice hrow
  have ROqd := Aside0.mk (R_types ROqc.out hk (pb_type HPqc.out (by decide)))
  have RIqd := Aside0.mk (R_types RIqc.out hk (pb_type HPqc.out (by decide)))
  have RMqd := Aside0.mk (R_types RMqc.out hk (pb_type HPqc.out (by decide)))
  have RRqd := Aside0.mk (R_types RRqc.out hk (pb_type HPqc.out (by decide)))
  have HRqd := Aside0.mk (Rows_kept HRqc.out hk (apart_one HPqc.out (by decide)))
  have BXqd := Aside0.mk (blk_kept BXqc.out hk hXB)
  have BQqd := Aside0.mk (blk_kept BQqc.out hk hQB)
  have HBqd := Aside0.mk (HBqc.out.trans (hb base hbB))
  have HPqd := Aside0.mk hp
  clear hp hk hb HPqc HRqc BXqc BQqc HBqc ROqc RIqc RMqc RRqc
  have RSqd := Aside0.mk hrow
  clear hrow RSqc
  refine hK.out _ _ ⟨blk_cell BXqd.out 12, blk_cell BXqd.out 0⟩ (fun hHeld => ?_)
  clear hK K
  refine norm_ (a' := ?_) ?_ ?_
  rotate_left
  · show Act.put _ (some 33) _ = _
    simp only [Act.put, List.setIfInBounds_toArray, List.set_cons_zero, List.set_cons_succ, i64_w, i32_w]
    rfl
  refine pure_ (i := 13) (N := some 34) (v := ?_) (a' := ?_) #[true, true, true, true, true, true, true, true, true, true, true, true, true, true, false, false] rfl rfl (by kernel_rfl) (fun _ _ _ h => h) (Or.inl ⟨by rfl, ?_⟩) ?_ ?_
  rotate_left
  · intro w'
    go_simp
    with_reducible rfl
  rotate_left
  · simp only [Act.put, List.setIfInBounds_toArray, List.set_cons_zero, List.set_cons_succ, i64_w, i32_w]
    rfl
  refine pure_ (i := 14) (N := some 35) (v := ?_) (a' := ?_) #[true, true, true, true, true, true, true, true, true, true, true, true, true, true, true, false] rfl rfl (by kernel_rfl) (fun _ _ _ h => h) (Or.inl ⟨by rfl, ?_⟩) ?_ ?_
  rotate_left
  · intro w'
    go_simp
    with_reducible rfl
  rotate_left
  · simp only [Act.put, List.setIfInBounds_toArray, List.set_cons_zero, List.set_cons_succ, i64_w, i32_w]
    rfl
  refine last_ (i := 15) (N := none) #[true, true, true, true, true, true, true, true, true, true, true, true, true, true, true, true] rfl rfl (by kernel_rfl) (by decide) (fun K hK => ?_)
  have hfr := blk_frozen BXqd.out 12
  have hcl := blk_cell BXqd.out 12
  refine skip_ (w1 := ?_) (by rfl) rfl ?_ ?_
  rotate_left
  · go_simp
    rfl
  refine hK.out _ _ ?_
  clear hK K
  refine done_ (by kernel_rfl) ?_
  clear hHeld hfr hcl
  have HFS : Hid (putL (finS1 ins own) sOut (joinB outs ⟨#[32]⟩) = (finS2 outs ins own)) := Lib.hid rfl
  rw [HFS.out] at RSqd ⊢
  clear HFS
  have hk := kept_one wqd X 12 (.slice ASqd (finS2 outs ins own).length cSqd)
  have hXX := fun (l : List Nat) (hl : 124 ∉ l) (k : Nat) (hk : k = X) => (by subst hk; exact ⟨_, 124, BXqd.out, hl⟩ : ∃ cells q, wqd.heap[k]? = some (.cells cells q (0, 0)) ∧ q ∉ l)
  have BXqe := Aside0.mk (blk_put BXqd.out 12 (.slice ASqd (finS2 outs ins own).length cSqd) rfl)
  have BQqe := Aside0.mk (blk_kept BQqd.out hk hQX)
  have HPqe := Aside0.mk (show Pb _ B _ _ _ _ _ _ _ _ from blk_kept HPqd.out hk hBX)
  have HRqe := Aside0.mk (Rows_kept HRqd.out hk (hXX [42, 9, 44, 174, 116] (by decide)))
  have HBqe := Aside0.mk (HBqd.out.setCell (p := ⟨X, 12, none⟩) hbX (.slice ASqd (finS2 outs ins own).length cSqd))
  have ROqe := Aside0.mk (R_types ROqd.out hk (hXX [9] (by decide)))
  have RIqe := Aside0.mk (R_types RIqd.out hk (hXX [9] (by decide)))
  have RMqe := Aside0.mk (R_types RMqd.out hk (hXX [9] (by decide)))
  have RRqe := Aside0.mk (R_types RRqd.out hk (hXX [9] (by decide)))
  have RSqe := Aside0.mk (R_types RSqd.out hk (hXX [174] (by decide)))
  clear hk hXX HPqd HRqd BXqd BQqd HBqd ROqd RIqd RMqd RRqd RSqd
  generalize wqd.setCell ⟨X, 12, none⟩ (.slice ASqd (finS2 outs ins own).length cSqd) = wqe at HPqe HRqe BXqe BQqe HBqe ROqe RIqe RMqe RRqe RSqe ⊢
  go_upto_region 2 with (fail)
  refine start_ (n := 19) (S := fun w' => w'.cell? ⟨X, 8, none⟩ = some (.string r.f1) ∧ w'.cell? ⟨X, 12, none⟩ = some (.slice ASqd (finS2 outs ins own).length cSqd) ∧ w'.cell? ⟨B, 3, none⟩ = some (.slice Ao p.outer.length co)) (ds := [13]) #[false, false, false, false, false, false, false, false, false, false, false, false, false, false, false, false, false, false, false] (by kernel_rfl) rfl rfl ⟨blk_cell BXqe.out 8, blk_cell BXqe.out 12, blk_cell HPqe.out 3⟩ (fun hHeld => ?_)
  have hb := (Below.refl wqe.heap.size wqe).drew
  have HPr := Aside0.mk (pb_below HPqe.out hb)
  have HRr := Aside0.mk (Rows_below HRqe.out hb)
  have BXr := Aside0.mk (blk_below BXqe.out hb)
  have BQr := Aside0.mk (blk_below BQqe.out hb)
  have HBr := Aside0.mk (HBqe.out.trans (hb.mono (Nat.le_trans hbw HBqe.out.size)))
  have ROr := Aside0.mk (Kd.R_below ROqe.out hb)
  have RIr := Aside0.mk (Kd.R_below RIqe.out hb)
  have RMr := Aside0.mk (Kd.R_below RMqe.out hb)
  have RRr := Aside0.mk (Kd.R_below RRqe.out hb)
  have RSr := Aside0.mk (Kd.R_below RSqe.out hb)
  clear hb HPqe HRqe BXqe BQqe HBqe ROqe RIqe RMqe RRqe RSqe
  generalize wqe.drew = wr at HPr HRr BXr BQr HBr ROr RIr RMr RRr RSr hHeld ⊢
  refine pure_ (i := 0) (N := some 37) (v := ?_) (a' := ?_) #[true, false, false, false, false, false, false, false, false, false, false, false, false, false, false, false, false, false, false] rfl rfl (by kernel_rfl) (fun _ _ _ h => h) (Or.inl ⟨by rfl, ?_⟩) ?_ ?_
  rotate_left
  · intro w'
    go_simp
    with_reducible rfl
  rotate_left
  · simp only [Act.put, List.setIfInBounds_toArray, List.set_cons_zero, List.set_cons_succ, i64_w, i32_w]
    rfl
  refine pure_ (i := 1) (N := some 38) (v := ?_) (a' := ?_) #[true, true, false, false, false, false, false, false, false, false, false, false, false, false, false, false, false, false, false] rfl rfl (by kernel_rfl) (fun _ _ _ h => h) (Or.inl ⟨by rfl, ?_⟩) ?_ ?_
  rotate_left
  · intro w'
    go_simp
    with_reducible rfl
  rotate_left
  · simp only [Act.put, List.setIfInBounds_toArray, List.set_cons_zero, List.set_cons_succ, i64_w, i32_w]
    rfl
  refine pure_ (i := 2) (N := some 39) (v := ?_) (a' := ?_) #[true, true, true, false, false, false, false, false, false, false, false, false, false, false, false, false, false, false, false] rfl rfl (by kernel_rfl) (fun _ _ _ h => h) (Or.inl ⟨by rfl, ?_⟩) ?_ ?_
  rotate_left
  · intro w'
    go_simp
    with_reducible rfl
  rotate_left
  · simp only [Act.put, List.setIfInBounds_toArray, List.set_cons_zero, List.set_cons_succ, i64_w, i32_w]
    rfl
  refine pure_ (i := 3) (N := some 40) (v := ?_) (a' := ?_) #[true, true, true, true, false, false, false, false, false, false, false, false, false, false, false, false, false, false, false] rfl rfl (by kernel_rfl) (fun _ _ _ h => h) (Or.inl ⟨by rfl, ?_⟩) ?_ ?_
  rotate_left
  · intro w'
    go_simp
    with_reducible rfl
  rotate_left
  · simp only [Act.put, List.setIfInBounds_toArray, List.set_cons_zero, List.set_cons_succ, i64_w, i32_w]
    rfl
  refine pure_ (i := 5) (N := some 42) (v := ?_) (a' := ?_) #[true, true, true, true, false, true, false, false, false, false, false, false, false, false, false, false, false, false, false] rfl rfl (by kernel_rfl) (fun _ _ _ h => h) (Or.inl ⟨by rfl, ?_⟩) ?_ ?_
  rotate_left
  · intro w'
    go_simp
    with_reducible rfl
  rotate_left
  · simp only [Act.put, List.setIfInBounds_toArray, List.set_cons_zero, List.set_cons_succ, i64_w, i32_w]
    rfl
  refine pure_ (i := 6) (N := some 43) (v := ?_) (a' := ?_) #[true, true, true, true, false, true, true, false, false, false, false, false, false, false, false, false, false, false, false] rfl rfl (by kernel_rfl) (fun _ _ _ h => h) (Or.inl ⟨by rfl, ?_⟩) ?_ ?_
  rotate_left
  · intro w'
    go_simp
    with_reducible rfl
  rotate_left
  · simp only [Act.put, List.setIfInBounds_toArray, List.set_cons_zero, List.set_cons_succ, i64_w, i32_w]
    rfl
  refine pure_ (i := 7) (N := some 44) (v := ?_) (a' := ?_) #[true, true, true, true, false, true, true, true, false, false, false, false, false, false, false, false, false, false, false] rfl rfl (by kernel_rfl) (fun _ _ _ h => h) (Or.inl ⟨by rfl, ?_⟩) ?_ ?_
  rotate_left
  · intro w'
    go_simp
    with_reducible rfl
  rotate_left
  · simp only [Act.put, List.setIfInBounds_toArray, List.set_cons_zero, List.set_cons_succ, i64_w, i32_w]
    rfl
  refine pure_ (i := 9) (N := some 46) (v := ?_) (a' := ?_) #[true, true, true, true, false, true, true, true, false, true, false, false, false, false, false, false, false, false, false] rfl rfl (by kernel_rfl) (fun _ _ _ h => h) (Or.inl ⟨by rfl, ?_⟩) ?_ ?_
  rotate_left
  · intro w'
    go_simp
    with_reducible rfl
  rotate_left
  · simp only [Act.put, List.setIfInBounds_toArray, List.set_cons_zero, List.set_cons_succ, i64_w, i32_w]
    rfl
  refine pure_ (i := 10) (N := some 47) (v := ?_) (a' := ?_) #[true, true, true, true, false, true, true, true, false, true, true, false, false, false, false, false, false, false, false] rfl rfl (by kernel_rfl) (fun _ _ _ h => h) (Or.inl ⟨by rfl, ?_⟩) ?_ ?_
  rotate_left
  · intro w'
    go_simp
    with_reducible rfl
  rotate_left
  · simp only [Act.put, List.setIfInBounds_toArray, List.set_cons_zero, List.set_cons_succ, i64_w, i32_w]
    rfl
  refine pure_ (i := 11) (N := some 48) (v := ?_) (a' := ?_) #[true, true, true, true, false, true, true, true, false, true, true, true, false, false, false, false, false, false, false] rfl rfl (by kernel_rfl) (fun _ _ _ h => h) (Or.inl ⟨by rfl, ?_⟩) ?_ ?_
  rotate_left
  · intro w'
    go_simp
    with_reducible rfl
  rotate_left
  · simp only [Act.put, List.setIfInBounds_toArray, List.set_cons_zero, List.set_cons_succ, i64_w, i32_w]
    rfl
  refine take_ (i := 4) (N := some 41) (v := ?_) (a' := ?_) #[true, true, true, true, true, true, true, true, false, true, true, true, false, false, false, false, false, false, false] rfl rfl (by kernel_rfl) (fun _ _ _ h => h) (Or.inl ⟨by rfl, ?_⟩) hHeld ?_ ?_
  rotate_left
  · rintro w' ⟨s0, s1, s2⟩
    go_simp
    with_reducible rfl
  rotate_left
  · simp only [Act.put, List.setIfInBounds_toArray, List.set_cons_zero, List.set_cons_succ, i64_w, i32_w]
    rfl
  refine take_ (i := 8) (N := some 45) (v := ?_) (a' := ?_) #[true, true, true, true, true, true, true, true, true, true, true, true, false, false, false, false, false, false, false] rfl rfl (by kernel_rfl) (fun _ _ _ h => h) (Or.inl ⟨by rfl, ?_⟩) hHeld ?_ ?_
  rotate_left
  · rintro w' ⟨s0, s1, s2⟩
    go_simp
    with_reducible rfl
  rotate_left
  · simp only [Act.put, List.setIfInBounds_toArray, List.set_cons_zero, List.set_cons_succ, i64_w, i32_w]
    rfl
  refine take_ (i := 12) (N := some 49) (v := ?_) (a' := ?_) #[true, true, true, true, true, true, true, true, true, true, true, true, true, false, false, false, false, false, false] rfl rfl (by kernel_rfl) (fun _ _ _ h => h) (Or.inl ⟨by rfl, ?_⟩) hHeld ?_ ?_
  rotate_left
  · rintro w' ⟨s0, s1, s2⟩
    go_simp
    with_reducible rfl
  rotate_left
  · simp only [Act.put, List.setIfInBounds_toArray, List.set_cons_zero, List.set_cons_succ, i64_w, i32_w]
    rfl
  refine last_ (i := 13) (N := some 50) #[true, true, true, true, true, true, true, true, true, true, true, true, true, true, false, false, false, false, false] rfl rfl (by kernel_rfl) (by decide) (fun K hK => ?_)
  have hCo := Kd.R_reads' HRr.out.2.2.2.1
  refine goes_ Tryz.func92 (by kernel_rfl) rfl #[.string r.f1, .slice ASqd (finS2 outs ins own).length cSqd, .slice Ao p.outer.length co] (by rfl) rfl rfl (by simp only [List.map_toArray, List.map_cons, List.map_nil]; rfl) ?_
  with_reducible refine (eval_Of.calls r.f1 ASqd cSqd (finS2 outs ins own) Ao co p.outer cmd ec _ (Kd.R_reads' RSr.out).2.2 (Kd.R_reads' RSr.out).2.1 hCo.2.2 hCo.2.1 (by unfold eval_Of.f; rw [if_pos ⟨hr, HL2.out, HLO.out⟩]; exact congrArg some HFC.out.symm)).mono ?_
  rintro x ws ⟨rfl, hb⟩
  refine ⟨_, rfl, ?_⟩
  have HPs := Aside0.mk (pb_below HPr.out hb)
  have HRs := Aside0.mk (Rows_below HRr.out hb)
  have BXs := Aside0.mk (blk_below BXr.out hb)
  have BQs := Aside0.mk (blk_below BQr.out hb)
  have HBs := Aside0.mk (HBr.out.trans (hb.mono (Nat.le_trans hbw HBr.out.size)))
  have ROs := Aside0.mk (Kd.R_below ROr.out hb)
  have RIs := Aside0.mk (Kd.R_below RIr.out hb)
  have RMs := Aside0.mk (Kd.R_below RMr.out hb)
  have RRs := Aside0.mk (Kd.R_below RRr.out hb)
  clear hb HPr HRr BXr BQr HBr ROr RIr RMr RRr
  refine hK.out _ _ ?_
  clear hK K
  refine norm_ (a' := ?_) ?_ ?_
  rotate_left
  · show Act.put _ (some 50) _ = _
    simp only [Act.put, List.setIfInBounds_toArray, List.set_cons_zero, List.set_cons_succ, i64_w, i32_w]
    rfl
  refine pure_ (i := 14) (N := some 36) (v := ?_) (a' := ?_) #[true, true, true, true, true, true, true, true, true, true, true, true, true, true, true, false, false, false, false] rfl rfl (by kernel_rfl) (fun _ _ _ h => h) (Or.inl ⟨by rfl, ?_⟩) ?_ ?_
  rotate_left
  · intro w'
    go_simp
    with_reducible rfl
  rotate_left
  · simp only [Act.put, List.setIfInBounds_toArray, List.set_cons_zero, List.set_cons_succ, i64_w, i32_w]
    rfl
  refine pure_ (i := 15) (N := some 51) (v := ?_) (a' := ?_) #[true, true, true, true, true, true, true, true, true, true, true, true, true, true, true, true, false, false, false] rfl rfl (by kernel_rfl) (fun _ _ _ h => h) (Or.inl ⟨by rfl, ?_⟩) ?_ ?_
  rotate_left
  · intro w'
    go_simp
    with_reducible rfl
  rotate_left
  · simp only [Act.put, List.setIfInBounds_toArray, List.set_cons_zero, List.set_cons_succ, i64_w, i32_w]
    rfl
  refine pure_ (i := 16) (N := some 52) (v := ?_) (a' := ?_) #[true, true, true, true, true, true, true, true, true, true, true, true, true, true, true, true, true, false, false] rfl rfl (by kernel_rfl) (fun _ _ _ h => h) (Or.inl ⟨by rfl, ?_⟩) ?_ ?_
  rotate_left
  · intro w'
    go_simp
    with_reducible rfl
  rotate_left
  · simp only [Act.put, List.setIfInBounds_toArray, List.set_cons_zero, List.set_cons_succ, i64_w, i32_w]
    rfl
  refine pure_ (i := 17) (N := some 4) (v := ?_) (a' := ?_) #[true, true, true, true, true, true, true, true, true, true, true, true, true, true, true, true, true, true, false] rfl rfl (by kernel_rfl) (fun _ _ _ h => h) (Or.inl ⟨by rfl, ?_⟩) ?_ ?_
  rotate_left
  · intro w'
    go_simp
    with_reducible rfl
  rotate_left
  · simp only [Act.put, List.setIfInBounds_toArray, List.set_cons_zero, List.set_cons_succ, i64_w, i32_w]
    rfl
  refine pure_ (i := 18) (N := some 5) (v := ?_) (a' := ?_) #[true, true, true, true, true, true, true, true, true, true, true, true, true, true, true, true, true, true, true] rfl rfl (by kernel_rfl) (fun _ _ _ h => h) (Or.inl ⟨by rfl, ?_⟩) ?_ ?_
  rotate_left
  · intro w'
    go_simp
    with_reducible rfl
  rotate_left
  · simp only [Act.put, List.setIfInBounds_toArray, List.set_cons_zero, List.set_cons_succ, i64_w, i32_w]
    rfl
  refine done_ (by kernel_rfl) ?_
  clear RSr
  go_upto_region 6 with (first | (go_at_call 86; refine (took_calls B (.slice Ae p.edges.length ce) vP vD (.slice Ao p.outer.length co) vR fd fo (tookE (tookE e (scopeSet own sIn (joinB ins ⟨#[32]⟩)).2) (scopeSet (finS1 ins own) sOut (joinB outs ⟨#[32]⟩)).2) ec _ HPs.out).mono ?_; rintro x wt ⟨rfl, hp, hk, hb⟩; have ROt := Aside0.mk (R_types ROs.out hk (pb_type HPs.out (by decide))); have RIt := Aside0.mk (R_types RIs.out hk (pb_type HPs.out (by decide))); have RMt := Aside0.mk (R_types RMs.out hk (pb_type HPs.out (by decide))); have RRt := Aside0.mk (R_types RRs.out hk (pb_type HPs.out (by decide))); have HRt := Aside0.mk (Rows_kept HRs.out hk (apart_one HPs.out (by decide))); have BXt := Aside0.mk (blk_kept BXs.out hk hXB); have BQt := Aside0.mk (blk_kept BQs.out hk hQB); have HBt := Aside0.mk (HBs.out.trans (hb base hbB)); have HPt := Aside0.mk hp; clear hp hk hb HPs HRs BXs BQs HBs ROs RIs RMs RRs) | (go_at_call 40; refine (need_calls B (.slice Ae p.edges.length ce) vP vD (.slice Ao p.outer.length co) vR fd fo (tookE (tookE (tookE e (scopeSet own sIn (joinB ins ⟨#[32]⟩)).2) (scopeSet (finS1 ins own) sOut (joinB outs ⟨#[32]⟩)).2) ec) (!cmd.toList.isEmpty) _ HPt.out).mono ?_; rintro x wu ⟨rfl, hp, hk, hb⟩; have ROu := Aside0.mk (R_types ROt.out hk (pb_type HPt.out (by decide))); have RIu := Aside0.mk (R_types RIt.out hk (pb_type HPt.out (by decide))); have RMu := Aside0.mk (R_types RMt.out hk (pb_type HPt.out (by decide))); have RRu := Aside0.mk (R_types RRt.out hk (pb_type HPt.out (by decide))); have HRu := Aside0.mk (Rows_kept HRt.out hk (apart_one HPt.out (by decide))); have BXu := Aside0.mk (blk_kept BXt.out hk hXB); have BQu := Aside0.mk (blk_kept BQt.out hk hQB); have HBu := Aside0.mk (HBt.out.trans (hb base hbB)); have HPu := Aside0.mk hp; clear hp hk hb HPt HRt BXt BQt HBt ROt RIt RMt RRt; have hfr := blk_frozen BXu.out 4; have hcl := blk_cell BXu.out 4))
  have hk := kept_one wu X 4 (.string cmd)
  have hXX := fun (l : List Nat) (hl : 124 ∉ l) (k : Nat) (hk : k = X) => (by subst hk; exact ⟨_, 124, BXu.out, hl⟩ : ∃ cells q, wu.heap[k]? = some (.cells cells q (0, 0)) ∧ q ∉ l)
  have BXv := Aside0.mk (blk_put BXu.out 4 (.string cmd) rfl)
  have BQv := Aside0.mk (blk_kept BQu.out hk hQX)
  have HPv := Aside0.mk (show Pb _ B _ _ _ _ _ _ _ _ from blk_kept HPu.out hk hBX)
  have HRv := Aside0.mk (Rows_kept HRu.out hk (hXX [42, 9, 44, 174, 116] (by decide)))
  have HBv := Aside0.mk (HBu.out.setCell (p := ⟨X, 4, none⟩) hbX (.string cmd))
  have ROv := Aside0.mk (R_types ROu.out hk (hXX [9] (by decide)))
  have RIv := Aside0.mk (R_types RIu.out hk (hXX [9] (by decide)))
  have RMv := Aside0.mk (R_types RMu.out hk (hXX [9] (by decide)))
  have RRv := Aside0.mk (R_types RRu.out hk (hXX [9] (by decide)))
  clear hk hXX HPu HRu BXu BQu HBu ROu RIu RMu RRu
  generalize wu.setCell ⟨X, 4, none⟩ (.string cmd) = wv at HPv HRv BXv BQv HBv ROv RIv RMv RRv ⊢
  rw [← HFE.out] at HPv
  refine start_ (n := 16) (S := fun w' => w'.cell? ⟨B, 0, none⟩ = some (.slice Ae p.edges.length ce) ∧ w'.cell? ⟨X, 0, none⟩ = some (.slice A0 outs.length c0) ∧ w'.cell? ⟨X, 1, none⟩ = some (.slice A1 ins.length c1) ∧ w'.cell? ⟨X, 2, none⟩ = some (.slice A2 imp.length c2) ∧ w'.cell? ⟨X, 3, none⟩ = some (.slice A3 ord.length c3) ∧ w'.cell? ⟨X, 4, none⟩ = some (.string cmd) ∧ w'.cell? ⟨X, 5, none⟩ = some (.bool r.f3) ∧ w'.cell? ⟨X, 6, none⟩ = some (.string r.f2)) (ds := [15]) #[false, false, false, false, false, false, false, false, false, false, false, false, false, false, false, false] (by kernel_rfl) rfl rfl ⟨blk_cell HPv.out 0, blk_cell BXv.out 0, blk_cell BXv.out 1, blk_cell BXv.out 2, blk_cell BXv.out 3, blk_cell BXv.out 4, blk_cell BXv.out 5, blk_cell BXv.out 6⟩ (fun hHeld => ?_)
  have hb := (Below.refl wv.heap.size wv).drew
  have HPz := Aside0.mk (pb_below HPv.out hb)
  have HRz := Aside0.mk (Rows_below HRv.out hb)
  have BXz := Aside0.mk (blk_below BXv.out hb)
  have BQz := Aside0.mk (blk_below BQv.out hb)
  have HBz := Aside0.mk (HBv.out.trans (hb.mono (Nat.le_trans hbw HBv.out.size)))
  have ROz := Aside0.mk (Kd.R_below ROv.out hb)
  have RIz := Aside0.mk (Kd.R_below RIv.out hb)
  have RMz := Aside0.mk (Kd.R_below RMv.out hb)
  have RRz := Aside0.mk (Kd.R_below RRv.out hb)
  clear hb HPv HRv BXv BQv HBv ROv RIv RMv RRv
  generalize wv.drew = wz at HPz HRz BXz BQz HBz ROz RIz RMz RRz hHeld ⊢
  refine pure_ (i := 0) (N := some 65) (v := ?_) (a' := ?_) #[true, false, false, false, false, false, false, false, false, false, false, false, false, false, false, false] rfl rfl (by kernel_rfl) (fun _ _ _ h => h) (Or.inl ⟨by rfl, ?_⟩) ?_ ?_
  rotate_left
  · intro w'
    go_simp
    with_reducible rfl
  rotate_left
  · simp only [Act.put, List.setIfInBounds_toArray, List.set_cons_zero, List.set_cons_succ, i64_w, i32_w]
    rfl
  refine pure_ (i := 1) (N := some 66) (v := ?_) (a' := ?_) #[true, true, false, false, false, false, false, false, false, false, false, false, false, false, false, false] rfl rfl (by kernel_rfl) (fun _ _ _ h => h) (Or.inl ⟨by rfl, ?_⟩) ?_ ?_
  rotate_left
  · intro w'
    go_simp
    with_reducible rfl
  rotate_left
  · simp only [Act.put, List.setIfInBounds_toArray, List.set_cons_zero, List.set_cons_succ, i64_w, i32_w]
    rfl
  refine pure_ (i := 2) (N := some 67) (v := ?_) (a' := ?_) #[true, true, true, false, false, false, false, false, false, false, false, false, false, false, false, false] rfl rfl (by kernel_rfl) (fun _ _ _ h => h) (Or.inl ⟨by rfl, ?_⟩) ?_ ?_
  rotate_left
  · intro w'
    go_simp
    with_reducible rfl
  rotate_left
  · simp only [Act.put, List.setIfInBounds_toArray, List.set_cons_zero, List.set_cons_succ, i64_w, i32_w]
    rfl
  refine pure_ (i := 3) (N := some 68) (v := ?_) (a' := ?_) #[true, true, true, true, false, false, false, false, false, false, false, false, false, false, false, false] rfl rfl (by kernel_rfl) (fun _ _ _ h => h) (Or.inl ⟨by rfl, ?_⟩) ?_ ?_
  rotate_left
  · intro w'
    go_simp
    with_reducible rfl
  rotate_left
  · simp only [Act.put, List.setIfInBounds_toArray, List.set_cons_zero, List.set_cons_succ, i64_w, i32_w]
    rfl
  refine pure_ (i := 4) (N := some 69) (v := ?_) (a' := ?_) #[true, true, true, true, true, false, false, false, false, false, false, false, false, false, false, false] rfl rfl (by kernel_rfl) (fun _ _ _ h => h) (Or.inl ⟨by rfl, ?_⟩) ?_ ?_
  rotate_left
  · intro w'
    go_simp
    with_reducible rfl
  rotate_left
  · simp only [Act.put, List.setIfInBounds_toArray, List.set_cons_zero, List.set_cons_succ, i64_w, i32_w]
    rfl
  refine pure_ (i := 6) (N := some 71) (v := ?_) (a' := ?_) #[true, true, true, true, true, false, true, false, false, false, false, false, false, false, false, false] rfl rfl (by kernel_rfl) (fun _ _ _ h => h) (Or.inl ⟨by rfl, ?_⟩) ?_ ?_
  rotate_left
  · intro w'
    go_simp
    with_reducible rfl
  rotate_left
  · simp only [Act.put, List.setIfInBounds_toArray, List.set_cons_zero, List.set_cons_succ, i64_w, i32_w]
    rfl
  refine pure_ (i := 7) (N := some 72) (v := ?_) (a' := ?_) #[true, true, true, true, true, false, true, true, false, false, false, false, false, false, false, false] rfl rfl (by kernel_rfl) (fun _ _ _ h => h) (Or.inl ⟨by rfl, ?_⟩) ?_ ?_
  rotate_left
  · intro w'
    go_simp
    with_reducible rfl
  rotate_left
  · simp only [Act.put, List.setIfInBounds_toArray, List.set_cons_zero, List.set_cons_succ, i64_w, i32_w]
    rfl
  refine pure_ (i := 8) (N := some 73) (v := ?_) (a' := ?_) #[true, true, true, true, true, false, true, true, true, false, false, false, false, false, false, false] rfl rfl (by kernel_rfl) (fun _ _ _ h => h) (Or.inl ⟨by rfl, ?_⟩) ?_ ?_
  rotate_left
  · intro w'
    go_simp
    with_reducible rfl
  rotate_left
  · simp only [Act.put, List.setIfInBounds_toArray, List.set_cons_zero, List.set_cons_succ, i64_w, i32_w]
    rfl
  refine take_ (i := 5) (N := some 70) (v := ?_) (a' := ?_) #[true, true, true, true, true, true, true, true, true, false, false, false, false, false, false, false] rfl rfl (by kernel_rfl) (fun _ _ _ h => h) (Or.inl ⟨by rfl, ?_⟩) hHeld ?_ ?_
  rotate_left
  · rintro w' ⟨s0, s1, s2, s3, s4, s5, s6, s7⟩
    go_simp
    with_reducible rfl
  rotate_left
  · simp only [Act.put, List.setIfInBounds_toArray, List.set_cons_zero, List.set_cons_succ, i64_w, i32_w]
    rfl
  refine take_ (i := 9) (N := some 74) (v := ?_) (a' := ?_) #[true, true, true, true, true, true, true, true, true, true, false, false, false, false, false, false] rfl rfl (by kernel_rfl) (fun _ _ _ h => h) (Or.inl ⟨by rfl, ?_⟩) hHeld ?_ ?_
  rotate_left
  · rintro w' ⟨s0, s1, s2, s3, s4, s5, s6, s7⟩
    go_simp
    with_reducible rfl
  rotate_left
  · simp only [Act.put, List.setIfInBounds_toArray, List.set_cons_zero, List.set_cons_succ, i64_w, i32_w]
    rfl
  refine one_ (i := 10) (N := some 75) #[true, true, true, true, true, true, true, true, true, true, true, false, false, false, false, false] rfl rfl (by kernel_rfl) (by decide) (fun K hK => ?_)
  refine value_ (w1 := ?_) (v := ?_) (by rfl) rfl ?_ ?_
  rotate_left 2
  · go_simp
    constructor
    · rfl
    · rfl
  refine hK.out _ _ ⟨blk_cell (blk_alloc HPz.out _) 0, blk_cell (blk_alloc BXz.out _) 0, blk_cell (blk_alloc BXz.out _) 1, blk_cell (blk_alloc BXz.out _) 2, blk_cell (blk_alloc BXz.out _) 3, blk_cell (blk_alloc BXz.out _) 4, blk_cell (blk_alloc BXz.out _) 5, blk_cell (blk_alloc BXz.out _) 6⟩ (fun hHeld => ?_)
  clear hK K
  refine norm_ (a' := ?_) ?_ ?_
  rotate_left
  · show Act.put _ (some 75) _ = _
    simp only [Act.put, List.setIfInBounds_toArray, List.set_cons_zero, List.set_cons_succ, i64_w, i32_w]
    rfl
  refine one_ (i := 11) (N := some 76) #[true, true, true, true, true, true, true, true, true, true, true, true, false, false, false, false] rfl rfl (by kernel_rfl) (by decide) (fun K hK => ?_)
  refine Kd.R_append_step k42 (w0 := w) base (by rfl) (.tmp 70) (.tmp 75) 22 42 (.agg #[.slice none 0 0, .slice none 0 0, .slice none 0 0, .slice none 0 0, .string ⟨#[]⟩, .bool false, .string ⟨#[]⟩]) 136 rfl Tryz.underlying22 infoD42 rfl (by decide) (by omega) (.slice Ae p.edges.length ce) p.edges ⟨outs, ins, imp, ord, cmd, r.f3, r.f2⟩ _ (fun k => some k ≠ vD.ownBlock) (fun k => some k ≠ vD.ownBlock ∧ some k ≠ (Value.slice Ae p.edges.length ce).ownBlock) rfl rfl (k42_mkM _ _ _ ⟨outs, ins, imp, ord, cmd, r.f3, r.f2⟩ (row_not ROz.out HRz.out.1) (row_not RIz.out HRz.out.1) (row_not RMz.out HRz.out.1) (row_not RRz.out HRz.out.1)) (fun k hk => hk) (fun k hk he => by have := Kd.R_lt HRz.out.2.2.1 k he.symm; omega) HRz.out.1 HBz.out (Nat.le_trans hbw HBz.out.size) (by omega) ?_
  intro v5 w5 ho5 hb5 hg5 hat5
  clear hat5
  rw [HLL.out] at ho5
  obtain ⟨A5, c5, rfl⟩ := Kd.R_slice ho5
  have HP5 := Aside0.mk (show Pb w5 B (.slice Ae p.edges.length ce) vP vD (.slice Ao p.outer.length co) vR fd fo E' from blk_beside HPz.out HRz.out.1 hg5 (by decide))
  have BX5 := Aside0.mk (blk_beside BXz.out HRz.out.1 hg5 (by decide))
  have BQ5 := Aside0.mk (blk_beside BQz.out HRz.out.1 hg5 htq.2.2)
  have HR5 := Aside0.mk (show Rows w5 base { p with edges := L } (.slice A5 L.length c5) vP vD (.slice Ao p.outer.length co) vR from ⟨ho5, R_beside HRz.out.2.1 HRz.out.1 hg5 (by decide), R_beside HRz.out.2.2.1 HRz.out.1 hg5 (by decide), R_beside HRz.out.2.2.2.1 HRz.out.1 hg5 (by decide), R_beside HRz.out.2.2.2.2 HRz.out.1 hg5 (by decide)⟩)
  have HB5 := Aside0.mk hb5
  have hfr5 := blk_frozen HP5.out 0
  clear ho5 hb5 hg5 HRz HPz BXz BQz HBz ROz RIz RMz RRz
  refine hK.out _ _ ⟨blk_cell HP5.out 0, blk_cell BX5.out 0, blk_cell BX5.out 1, blk_cell BX5.out 2, blk_cell BX5.out 3, blk_cell BX5.out 4, blk_cell BX5.out 5, blk_cell BX5.out 6⟩ (fun hHeld => ?_)
  clear hK K
  refine norm_ (a' := ?_) ?_ ?_
  rotate_left
  · show Act.put _ (some 76) _ = _
    simp only [Act.put, List.setIfInBounds_toArray, List.set_cons_zero, List.set_cons_succ, i64_w, i32_w]
    rfl
  refine pure_ (i := 12) (N := some 77) (v := ?_) (a' := ?_) #[true, true, true, true, true, true, true, true, true, true, true, true, true, false, false, false] rfl rfl (by kernel_rfl) (fun _ _ _ h => h) (Or.inl ⟨by rfl, ?_⟩) ?_ ?_
  rotate_left
  · intro w'
    go_simp
    with_reducible rfl
  rotate_left
  · simp only [Act.put, List.setIfInBounds_toArray, List.set_cons_zero, List.set_cons_succ, i64_w, i32_w]
    rfl
  refine pure_ (i := 13) (N := some 78) (v := ?_) (a' := ?_) #[true, true, true, true, true, true, true, true, true, true, true, true, true, true, false, false] rfl rfl (by kernel_rfl) (fun _ _ _ h => h) (Or.inl ⟨by rfl, ?_⟩) ?_ ?_
  rotate_left
  · intro w'
    go_simp
    with_reducible rfl
  rotate_left
  · simp only [Act.put, List.setIfInBounds_toArray, List.set_cons_zero, List.set_cons_succ, i64_w, i32_w]
    rfl
  refine pure_ (i := 14) (N := some 79) (v := ?_) (a' := ?_) #[true, true, true, true, true, true, true, true, true, true, true, true, true, true, true, false] rfl rfl (by kernel_rfl) (fun _ _ _ h => h) (Or.inl ⟨by rfl, ?_⟩) ?_ ?_
  rotate_left
  · intro w'
    go_simp
    with_reducible rfl
  rotate_left
  · simp only [Act.put, List.setIfInBounds_toArray, List.set_cons_zero, List.set_cons_succ, i64_w, i32_w]
    rfl
  refine last_ (i := 15) (N := none) #[true, true, true, true, true, true, true, true, true, true, true, true, true, true, true, true] rfl rfl (by kernel_rfl) (by decide) (fun K hK => ?_)
  refine skip_ (w1 := ?_) (by rfl) rfl ?_ ?_
  rotate_left
  · go_simp
    rfl
  refine hK.out _ _ ?_
  clear hK K
  refine done_ (by kernel_rfl) ?_
  go_end0
  have hk := kept_one w5 B 0 (.slice A5 L.length c5)
  rw [HFP.out]
  exact ⟨rfl, ⟨_, _, _, _, _, hbB, blk_put HP5.out 0 _ rfl, Rows_kept HR5.out hk (apart_one HP5.out (by decide))⟩, HB5.out.setCell (p := ⟨B, 0, none⟩) hbB _, blk_kept BQ5.out hk hQB⟩
end Go.Proofs.YtefheailchihaaaGreatDoor.Print

end
section
namespace Go.Proofs.YtefheailchihaaaGreatDoor.Print
open Go.RowKit Go.Lib Go.Shelf Go.Proofs.YtefheailchihaaaGreatDoorW.PrintWords Go.Proofs.YtefheailchihaaaGreatDoorW.PrintLast Go.Proofs.YtefheailchihaaaGreatDoorW.PrintMore
set_option linter.unusedVariables false
set_option linter.unusedSimpArgs false
attribute [local go_sem ↓] Go.wp_at_zero Go.wp_at_succ

set_option maxHeartbeats 2000000 in
set_option maxRecDepth 100000 in
theorem over89_calls (base B X Bp Bx : Nat) (p : Pst) (vE vP vD vO vR fd fo v0 v1 v2 v3 vS : Value) (e : Int) (outs ins imp ord : List ByteArray) (r : S116) (own : List S174) (w : World) (hbB : base ≤ B) (hbX : base ≤ X) (h : Pb w B vE vP vD vO vR fd fo e) (hR : Rows w base p vE vP vD vO vR)
    (bp : w.heap[Bp]? = some (.cells #[.pointer (some ⟨B, 0, none⟩)] 52 (0, 0))) (bx : w.heap[Bx]? = some (.cells #[.pointer (some ⟨X, 0, none⟩)] 122 (0, 0)))
    (hX : w.heap[X]? = some (.cells #[v0, v1, v2, v3, .string ⟨#[]⟩, .bool r.f3, .string r.f2, .string r.f0, .string r.f1, .string r.f2, .bool r.f3, .bool r.f4, vS] 124 (0, 0)))
    (h0 : Kd.R Kd.string 9 w base (fun k => some k ≠ vD.ownBlock) v0 outs) (h1 : Kd.R Kd.string 9 w base (fun k => some k ≠ vD.ownBlock) v1 ins) (h2 : Kd.R Kd.string 9 w base (fun k => some k ≠ vD.ownBlock) v2 imp) (h3 : Kd.R Kd.string 9 w base (fun k => some k ≠ vD.ownBlock) v3 ord) (hS : Kd.R k174 174 w base (fun _ => True) vS own)
    (sO : Small8 outs) (sI : Small8 ins) (lS : longOk own = true) (lO : longOk p.outer = true) (hr : r.f1.size ≤ 9223372036854775807) (hlen : p.edges.length ≤ 1048576) (Q tq : Nat) (cq : Array Value) (hQ : w.heap[Q]? = some (.cells cq tq (0, 0))) (htq : (tq == 57) = false ∧ (tq == 124) = false ∧ (42 == tq) = false) :
    Calls Tryz.prog 89 #[.pointer (some ⟨Bp, 0, none⟩), .pointer (some ⟨Bx, 0, none⟩)] w fun x w' => x = .returned (.tuple #[]) ∧ Mrows w' base B (finP p outs ins imp ord r own) fd fo (finE p.outer outs ins r own e) ∧ Below base w w' ∧ w'.heap[Q]? = some (.cells cq tq (0, 0)) := by
  have HC := Lib.hid (finish_calls base B X p vE vP vD vO vR fd fo v0 v1 v2 v3 vS e outs ins imp ord r own w hbB hbX h hR hX h0 h1 h2 h3 hS sO sI lS lO hr hlen Q tq cq hQ htq)
  have z0 : w.cell? ⟨Bp, 0, none⟩ = some (.pointer (some ⟨B, 0, none⟩)) := blk_cell bp 0
  have z1 : w.cell? ⟨Bx, 0, none⟩ = some (.pointer (some ⟨X, 0, none⟩)) := blk_cell bx 0
  clear h hR bp bx hX h0 h1 h2 h3 hS
  go_enter Tryz.func89, Tryz.ntmps89
  go_wp2_with (first | (go_at_call 90; refine HC.out.mono ?_; rintro x w5 ⟨rfl, hm, hb, hq5⟩))
  go_end0
  exact ⟨rfl, hm, hb, hq5⟩

/-- What is wrong behind a default line. -/
def defE (p : Pst) (e : Int) (s : ByteArray) : Int := roomE (cleanErr (needE e (decide (0 < (wordsOf s).length))) (wordsOf s)) (decide (((p.defs ++ cleanOut (wordsOf s)).length : Int) ≤ 8))
def defP (p : Pst) (s : ByteArray) : Pst := { p with defs := p.defs ++ cleanOut (wordsOf s) }
set_option maxHeartbeats 4000000 in
set_option maxRecDepth 100000 in
theorem defaultLine_calls (base B : Nat) (p : Pst) (vE vP vD vO vR : Value) (e : Int) (s : ByteArray) (hs : s.size ≤ 1048576) (hlen : p.defs.length ≤ 1048576) (w : World) (hbB : base ≤ B) (h : Pb w B vE vP vD vO vR .nilFunc .nilFunc e) (hR : Rows w base p vE vP vD vO vR) :
    Calls Tryz.prog 45 #[.pointer (some ⟨B, 0, none⟩), .string s] w fun x w' => x = .returned (.tuple #[]) ∧ Mst w' base B (defP p s) .none (defE p e s) ∧ Below base w w' := by
  have hbw : base ≤ w.heap.size := Nat.le_trans hbB (Nat.le_of_lt (blk_lt h))
  have hB := blk_lt h
  obtain ⟨Ad, cd, rfl⟩ := Kd.R_slice hR.2.2.1
  have hsm := small_words s hs
  have HW := Lib.hid (words_calls s hs w)
  have hP : defP p s = { p with defs := p.defs ++ cleanOut (wordsOf s) } := rfl
  have hE : defE p e s = roomE (cleanErr (needE e (decide (0 < (wordsOf s).length))) (wordsOf s)) (decide (((p.defs ++ cleanOut (wordsOf s)).length : Int) ≤ 8)) := rfl
  rw [hP, hE]
  clear hP hE
  generalize wordsOf s = ws at *
  obtain ⟨L, hL⟩ : ∃ L, p.defs ++ cleanOut ws = L := ⟨_, rfl⟩
  rw [hL]
  have HLL := Lib.hid hL
  clear hL
  have hcl : (cleanOut ws).length = ws.length := by unfold cleanOut; exact List.length_map ..
  have hcl1 : (cleanOut ws).length ≤ 1048577 := by rw [hcl]; exact small2 hsm
  clear hcl
  obtain ⟨ck, hck⟩ : ∃ ck, cleanOut ws = ck := ⟨_, rfl⟩
  rw [hck] at HLL hcl1
  have HCK := Lib.hid hck
  clear hck
  obtain ⟨e1, he1⟩ : ∃ q, needE e (decide (0 < ws.length)) = q := ⟨_, rfl⟩
  rw [he1]
  have HE1 := Lib.hid he1
  clear he1
  have HSM := Aside0.mk hsm
  have HPa := Aside0.mk h
  have HRa := Aside0.mk hR
  clear h hR hsm
  go_enter Tryz.func45, Tryz.ntmps45
  go_upto_region 2 with (first | (go_at_call 91; refine HW.out.mono ?_; rintro x w1 ⟨vw, rfl, hw, hb⟩; obtain ⟨Aw, cw, rfl⟩ := Kd.R_slice hw; have HP1 := Aside0.mk (pb_below HPa.out hb); have HR1 := Aside0.mk (Rows_below HRa.out hb); have HB1 := Aside0.mk (hb.mono hbw); have VW1 := Aside0.mk (Vs_mono (Vs_of_R (Kd.R_bound hw)) (fun k hk => by have h9 := hk.2.1; exact fun q => by subst q; omega : ∀ k, _ → k ≠ B)); clear hw hb HPa HRa) | (go_at_call 40; refine (need_calls B vE vP _ vO vR .nilFunc .nilFunc e (decide (0 < ws.length)) _ HP1.out).mono ?_; rw [HE1.out]; rintro x w2 ⟨rfl, hp, hk, hb⟩; have HP2 := Aside0.mk hp; have HR2 := Aside0.mk (Rows_kept HR1.out hk (apart_one HP1.out (by decide))); have HB2 := Aside0.mk (HB1.out.trans (hb base hbB)); have VW2 := Aside0.mk (Vs_kept VW1.out hk (fun k h1 h2 => h1 h2)); clear hp hk hb HP1 HR1 HB1 VW1))
  refine start_ (n := 14) (S := fun w' => w'.cell? ⟨B, 2, none⟩ = some (.slice Ad p.defs.length cd)) (ds := [13]) #[false, false, false, false, false, false, false, false, false, false, false, false, false, false] (by kernel_rfl) rfl rfl (blk_cell HP2.out 2) (fun hHeld => ?_)
  have hb := (Below.refl w2.heap.size w2).drew
  have HPd := Aside0.mk (pb_below HP2.out hb)
  have HRd := Aside0.mk (Rows_below HR2.out hb)
  have HBd := Aside0.mk (HB2.out.drew)
  have VWd := Aside0.mk (Vs_below VW2.out hb)
  clear hb HP2 HR2 HB2 VW2
  generalize w2.drew = wd at HPd HRd HBd VWd hHeld ⊢
  refine pure_ (i := 0) (N := some 12) (v := ?_) (a' := ?_) #[true, false, false, false, false, false, false, false, false, false, false, false, false, false] rfl rfl (by kernel_rfl) (fun _ _ _ h => h) (Or.inl ⟨by rfl, ?_⟩) ?_ ?_
  rotate_left
  · intro w'
    go_simp
    with_reducible rfl
  rotate_left
  · simp only [Act.put, List.setIfInBounds_toArray, List.set_cons_zero, List.set_cons_succ, i64_w, i32_w]
    rfl
  refine pure_ (i := 1) (N := some 13) (v := ?_) (a' := ?_) #[true, true, false, false, false, false, false, false, false, false, false, false, false, false] rfl rfl (by kernel_rfl) (fun _ _ _ h => h) (Or.inl ⟨by rfl, ?_⟩) ?_ ?_
  rotate_left
  · intro w'
    go_simp
    with_reducible rfl
  rotate_left
  · simp only [Act.put, List.setIfInBounds_toArray, List.set_cons_zero, List.set_cons_succ, i64_w, i32_w]
    rfl
  refine pure_ (i := 2) (N := some 14) (v := ?_) (a' := ?_) #[true, true, true, false, false, false, false, false, false, false, false, false, false, false] rfl rfl (by kernel_rfl) (fun _ _ _ h => h) (Or.inl ⟨by rfl, ?_⟩) ?_ ?_
  rotate_left
  · intro w'
    go_simp
    with_reducible rfl
  rotate_left
  · simp only [Act.put, List.setIfInBounds_toArray, List.set_cons_zero, List.set_cons_succ, i64_w, i32_w]
    rfl
  refine pure_ (i := 3) (N := some 15) (v := ?_) (a' := ?_) #[true, true, true, true, false, false, false, false, false, false, false, false, false, false] rfl rfl (by kernel_rfl) (fun _ _ _ h => h) (Or.inl ⟨by rfl, ?_⟩) ?_ ?_
  rotate_left
  · intro w'
    go_simp
    with_reducible rfl
  rotate_left
  · simp only [Act.put, List.setIfInBounds_toArray, List.set_cons_zero, List.set_cons_succ, i64_w, i32_w]
    rfl
  refine pure_ (i := 4) (N := some 16) (v := ?_) (a' := ?_) #[true, true, true, true, true, false, false, false, false, false, false, false, false, false] rfl rfl (by kernel_rfl) (fun _ _ _ h => h) (Or.inl ⟨by rfl, ?_⟩) ?_ ?_
  rotate_left
  · intro w'
    go_simp
    with_reducible rfl
  rotate_left
  · simp only [Act.put, List.setIfInBounds_toArray, List.set_cons_zero, List.set_cons_succ, i64_w, i32_w]
    rfl
  refine pure_ (i := 6) (N := some 18) (v := ?_) (a' := ?_) #[true, true, true, true, true, false, true, false, false, false, false, false, false, false] rfl rfl (by kernel_rfl) (fun _ _ _ h => h) (Or.inl ⟨by rfl, ?_⟩) ?_ ?_
  rotate_left
  · intro w'
    go_simp
    with_reducible rfl
  rotate_left
  · simp only [Act.put, List.setIfInBounds_toArray, List.set_cons_zero, List.set_cons_succ, i64_w, i32_w]
    rfl
  refine pure_ (i := 7) (N := some 19) (v := ?_) (a' := ?_) #[true, true, true, true, true, false, true, true, false, false, false, false, false, false] rfl rfl (by kernel_rfl) (fun _ _ _ h => h) (Or.inl ⟨by rfl, ?_⟩) ?_ ?_
  rotate_left
  · intro w'
    go_simp
    with_reducible rfl
  rotate_left
  · simp only [Act.put, List.setIfInBounds_toArray, List.set_cons_zero, List.set_cons_succ, i64_w, i32_w]
    rfl
  refine take_ (i := 5) (N := some 17) (v := ?_) (a' := ?_) #[true, true, true, true, true, true, true, true, false, false, false, false, false, false] rfl rfl (by kernel_rfl) (fun _ _ _ h => h) (Or.inl ⟨by rfl, ?_⟩) hHeld ?_ ?_
  rotate_left
  · intro w' s0
    go_simp
    with_reducible rfl
  rotate_left
  · simp only [Act.put, List.setIfInBounds_toArray, List.set_cons_zero, List.set_cons_succ, i64_w, i32_w]
    rfl
  refine one_ (i := 8) (N := some 20) #[true, true, true, true, true, true, true, true, true, false, false, false, false, false] rfl rfl (by kernel_rfl) (by decide) (fun K hK => ?_)
  refine goes_ Tryz.func87 (by kernel_rfl) rfl #[.pointer (some ⟨B, 0, none⟩), .slice Aw ws.length cw] (by rfl) rfl rfl (by simp only [List.map_toArray, List.map_cons, List.map_nil]; rfl) ?_
  with_reducible refine (pclean_calls B vE vP (.slice Ad p.defs.length cd) vO vR .nilFunc .nilFunc e1 _ ws (small1 HSM.out) (small2 HSM.out) _ HPd.out VWd.out).mono ?_
  rintro x w3 ⟨vc, rfl, hrow, hp, hk, hb⟩
  refine ⟨_, rfl, ?_⟩
  rw [HCK.out] at hrow
  obtain ⟨Ac, cc, rfl⟩ := Kd.R_slice hrow
  have RC3 := Aside0.mk (Kd.R_reads' hrow).2.2
  have HP3 := Aside0.mk hp
  have HR3 := Aside0.mk (Rows_kept HRd.out hk (apart_one HPd.out (by decide)))
  have HB3 := Aside0.mk (HBd.out.trans (hb base hbB))
  clear hrow hp hk hb HPd HRd HBd VWd
  refine hK.out _ _ (blk_cell HP3.out 2) (fun hHeld => ?_)
  clear hK K
  refine norm_ (a' := ?_) ?_ ?_
  rotate_left
  · show Act.put _ (some 20) _ = _
    simp only [Act.put, List.setIfInBounds_toArray, List.set_cons_zero, List.set_cons_succ, i64_w, i32_w]
    rfl
  refine one_ (i := 9) (N := some 21) #[true, true, true, true, true, true, true, true, true, true, false, false, false, false] rfl rfl (by kernel_rfl) (by decide) (fun K hK => ?_)
  refine Kd.R_append_rows_step Kd.string (w0 := w) base (by rfl) (.tmp 17) (.tmp 20) 24 9 (.string ⟨#[]⟩) 16 rfl Tryz.underlying24 info9 rfl (by decide) (by omega) (.slice Ad p.defs.length cd) p.defs ck Ac ck.length cc (fun _ => True) (fun _ => False) rfl rfl HR3.out.2.2.1 RC3.out (fun _ _ h => h) (fun _ hk => hk.elim) (fun _ _ => trivial) HB3.out (Nat.le_trans hbw HB3.out.size) (by omega) ?_
  intro v5 w5 ho5 hb5 hg5 hat5
  have hE5 := Kd.R_after (ok := fun _ => True) (Kd.R_mono HR3.out.1 (fun k hk => ⟨trivial, hk⟩)) hg5 hat5
  rw [HLL.out] at ho5
  obtain ⟨A5, c5, rfl⟩ := Kd.R_slice ho5
  have HP5 := Aside0.mk (show Pb w5 B vE vP (.slice Ad p.defs.length cd) vO vR .nilFunc .nilFunc _ from blk_beside HP3.out HR3.out.2.2.1 hg5 (by decide))
  have HR5 := Aside0.mk (show Rows w5 base { p with defs := L } vE vP (.slice A5 L.length c5) vO vR from ⟨Kd.R_mono hE5 (fun k hk => hk.2), R_beside HR3.out.2.1 HR3.out.2.2.1 hg5 (by decide), ho5, R_beside HR3.out.2.2.2.1 HR3.out.2.2.1 hg5 (by decide), R_beside HR3.out.2.2.2.2 HR3.out.2.2.1 hg5 (by decide)⟩)
  have HB5 := Aside0.mk hb5
  have hfr5 := blk_frozen HP5.out 2
  clear ho5 hb5 hg5 hat5 hE5 HR3 HP3 HB3 RC3
  refine hK.out _ _ (blk_cell HP5.out 2) (fun hHeld => ?_)
  clear hK K
  refine norm_ (a' := ?_) ?_ ?_
  rotate_left
  · show Act.put _ (some 21) _ = _
    simp only [Act.put, List.setIfInBounds_toArray, List.set_cons_zero, List.set_cons_succ, i64_w, i32_w]
    rfl
  refine pure_ (i := 10) (N := some 22) (v := ?_) (a' := ?_) #[true, true, true, true, true, true, true, true, true, true, true, false, false, false] rfl rfl (by kernel_rfl) (fun _ _ _ h => h) (Or.inl ⟨by rfl, ?_⟩) ?_ ?_
  rotate_left
  · intro w'
    go_simp
    with_reducible rfl
  rotate_left
  · simp only [Act.put, List.setIfInBounds_toArray, List.set_cons_zero, List.set_cons_succ, i64_w, i32_w]
    rfl
  refine pure_ (i := 11) (N := some 23) (v := ?_) (a' := ?_) #[true, true, true, true, true, true, true, true, true, true, true, true, false, false] rfl rfl (by kernel_rfl) (fun _ _ _ h => h) (Or.inl ⟨by rfl, ?_⟩) ?_ ?_
  rotate_left
  · intro w'
    go_simp
    with_reducible rfl
  rotate_left
  · simp only [Act.put, List.setIfInBounds_toArray, List.set_cons_zero, List.set_cons_succ, i64_w, i32_w]
    rfl
  refine pure_ (i := 12) (N := some 24) (v := ?_) (a' := ?_) #[true, true, true, true, true, true, true, true, true, true, true, true, true, false] rfl rfl (by kernel_rfl) (fun _ _ _ h => h) (Or.inl ⟨by rfl, ?_⟩) ?_ ?_
  rotate_left
  · intro w'
    go_simp
    with_reducible rfl
  rotate_left
  · simp only [Act.put, List.setIfInBounds_toArray, List.set_cons_zero, List.set_cons_succ, i64_w, i32_w]
    rfl
  refine last_ (i := 13) (N := none) #[true, true, true, true, true, true, true, true, true, true, true, true, true, true] rfl rfl (by kernel_rfl) (by decide) (fun K hK => ?_)
  refine skip_ (w1 := ?_) (by rfl) rfl ?_ ?_
  rotate_left
  · go_simp
    rfl
  refine hK.out _ _ ?_
  clear hK K
  refine done_ (by kernel_rfl) ?_
  have hk := kept_one w5 B 2 (.slice A5 L.length c5)
  have HP6 := Aside0.mk (show Pb _ B vE vP (.slice A5 L.length c5) vO vR .nilFunc .nilFunc _ from blk_put HP5.out 2 (.slice A5 L.length c5) rfl)
  have HR6 := Aside0.mk (Rows_kept HR5.out hk (apart_one HP5.out (by decide)))
  have HB6 := Aside0.mk (HB5.out.setCell (p := ⟨B, 2, none⟩) hbB (.slice A5 L.length c5))
  generalize w5.setCell ⟨B, 2, none⟩ (.slice A5 L.length c5) = w6 at HP6 HR6 HB6 ⊢
  clear hk HP5 HR5 HB5 hfr5 hHeld
  have q6 : w6.cell? ⟨B, 2, none⟩ = some (.slice A5 L.length c5) := blk_cell HP6.out 2
  go_wp2_with (first | (go_at_call 79; refine (room_calls B vE vP (.slice A5 L.length c5) vO vR .nilFunc .nilFunc _ (decide ((L.length : Int) ≤ 8)) _ HP6.out).mono ?_; rintro x w7 ⟨rfl, hp, hk, hb⟩; have HP7 := Aside0.mk hp; have HR7 := Aside0.mk (Rows_kept HR6.out hk (apart_one HP6.out (by decide))); have HB7 := Aside0.mk (HB6.out.trans (hb base hbB)); clear hp hk hb))
  go_end0
  exact ⟨rfl, ⟨_, _, _, _, _, _, _, hbB, HP7.out, HR7.out, rfl, rfl⟩, HB7.out⟩
end Go.Proofs.YtefheailchihaaaGreatDoor.Print

end
section
namespace Go.Proofs.YtefheailchihaaaGreatDoor.Print
open Go.RowKit Go.Lib Go.Shelf Go.Proofs.YtefheailchihaaaGreatDoorW.PrintWords Go.Proofs.YtefheailchihaaaGreatDoorW.PrintLast Go.Proofs.YtefheailchihaaaGreatDoorW.PrintMore
set_option linter.unusedVariables false
set_option linter.unusedSimpArgs false
attribute [local go_sem ↓] Go.wp_at_zero Go.wp_at_succ

theorem und55 : Tryz.prog.underlying 55 = some (.func #[9, 9] #[] false) := by kernel_rfl
theorem und1 : Tryz.prog.underlying 1 = some (.func #[] #[] false) := by kernel_rfl
section
variable {P : Program} (w : World)
theorem run_equalIn_func (d : Nat) {t : TypeId} {a b : Array TypeId} {v : Bool} (f : Fn) (x y : Array Value) (h : P.underlying t = some (.func a b v)) : (Op.equalIn (d + 1) t (.func f x y) .nilFunc).run P w = .ok false w := by
  simp [Op.equalIn, run_underlying h]
theorem run_equalIn_nilf (d : Nat) {t : TypeId} {a b : Array TypeId} {v : Bool} (h : P.underlying t = some (.func a b v)) : (Op.equalIn (d + 1) t .nilFunc .nilFunc).run P w = .ok true w := by
  simp [Op.equalIn, run_underlying h]
theorem run_equal_func {t : TypeId} {a b : Array TypeId} {v : Bool} (f : Fn) (x y : Array Value) (h : P.underlying t = some (.func a b v)) : (Op.equal t (.func f x y) .nilFunc).run P w = .ok false w := run_equalIn_func w 9999 f x y h
theorem run_equal_nilf {t : TypeId} {a b : Array TypeId} {v : Bool} (h : P.underlying t = some (.func a b v)) : (Op.equal t .nilFunc .nilFunc).run P w = .ok true w := run_equalIn_nilf w 9999 h
theorem run_neq_func {t : TypeId} {a b : Array TypeId} {v : Bool} (f : Fn) (x y : Array Value) (h : P.underlying t = some (.func a b v)) : (binOp .neq t (.func f x y) .nilFunc).run P w = .ok (.bool true) w := by
  simp only [binOp]
  simp [run_equal_func w f x y h]
theorem run_neq_nilf {t : TypeId} {a b : Array TypeId} {v : Bool} (h : P.underlying t = some (.func a b v)) : (binOp .neq t .nilFunc .nilFunc).run P w = .ok (.bool false) w := by
  simp only [binOp]
  simp [run_equal_nilf w h]
end
theorem neq1 (w : World) (f : Fn) (x y : Array Value) : (binOp .neq 1 (.func f x y) .nilFunc).run Tryz.prog w = .ok (.bool true) w := run_neq_func w f x y und1
theorem neq55 (w : World) (f : Fn) (x y : Array Value) : (binOp .neq 55 (.func f x y) .nilFunc).run Tryz.prog w = .ok (.bool true) w := run_neq_func w f x y und55
theorem nil1 (w : World) : (binOp .neq 1 .nilFunc .nilFunc).run Tryz.prog w = .ok (.bool false) w := run_neq_nilf w und1
theorem nil55 (w : World) : (binOp .neq 55 .nilFunc .nilFunc).run Tryz.prog w = .ok (.bool false) w := run_neq_nilf w und55
attribute [local go_sem] neq1 neq55 nil1 nil55
/-- What ends. -/
def overP (p : Pst) (o : Opn) : Pst := match o with
  | .build outs ins imp ord r own => finP p outs ins imp ord r own
  | _ => p
def overE (p : Pst) (o : Opn) (e : Int) : Int := match o with
  | .none => e
  | .rule => needE e (!(lastR p.rules).f1.toList.isEmpty)
  | .pool => needE e (decide (0 < (lastP p.pools).f1))
  | .build outs ins imp ord r own => finE p.outer outs ins r own e
/-- What is small. -/
def Inv (p : Pst) (o : Opn) : Prop := longOk p.outer = true ∧ (∀ x ∈ p.rules, x.f1.size ≤ 1048576) ∧ p.rules.length ≤ 8 ∧ p.pools.length ≤ 4 ∧ p.edges.length ≤ 16 ∧ p.defs.length ≤ 8 ∧ match o with
  | .build outs ins imp ord r own => Small8 outs ∧ Small8 ins ∧ longOk own = true ∧ r.f1.size ≤ 1048576 ∧ p.edges.length < 16
  | _ => True

theorem end_nil {w : World} {base B : Nat} {p : Pst} {vE vP vD vO vR fd fo : Value} {e : Int} (hbB : base ≤ B) (h : Pb w B vE vP vD vO vR fd fo e) (hR : Rows w base p vE vP vD vO vR) :
    Mst ((w.setCell ⟨B, 6, none⟩ .nilFunc).setCell ⟨B, 5, none⟩ .nilFunc) base B p .none e := by
  have hk := Kept.then_ (kept_one w B 6 .nilFunc) (kept_one _ B 5 .nilFunc) (fun k hk => .inl hk)
  exact ⟨vE, vP, vD, vO, vR, _, _, hbB, blk_put (blk_put h 6 .nilFunc rfl) 5 .nilFunc rfl, Rows_kept hR hk (apart_one h (by decide)), rfl, rfl⟩

set_option maxHeartbeats 4000000 in
set_option maxRecDepth 100000 in
theorem end_calls (base B : Nat) (p : Pst) (o : Opn) (e : Int) (w : World) (h : Mst w base B p o e) (hI : Inv p o) (Q tq : Nat) (cq : Array Value) (hQ : w.heap[Q]? = some (.cells cq tq (0, 0))) (htq : (tq == 57) = false ∧ (tq == 124) = false ∧ (42 == tq) = false) :
    Calls Tryz.prog 20 #[.pointer (some ⟨B, 0, none⟩)] w fun x w' => x = .returned (.tuple #[]) ∧ Mst w' base B (overP p o) .none (overE p o e) ∧ Below base w w' ∧ w'.heap[Q]? = some (.cells cq tq (0, 0)) := by
  have HQ := Aside0.mk hQ
  clear hQ
  obtain ⟨vE, vP, vD, vO, vR, fd, fo, hbB, hP, hR, hC⟩ := h
  obtain ⟨i1, i2, i3, i4, i5, i6, i7⟩ := hI
  have hQB : ¬ Q = B := fun q => heap_ne HQ.out hP htq.1 q
  cases o with
  | none =>
    obtain ⟨rfl, rfl⟩ := hC
    have HP := Lib.hid hP
    have HR := Lib.hid hR
    have c5 : w.cell? ⟨B, 5, none⟩ = some .nilFunc := blk_cell hP 5
    have c6 : w.cell? ⟨B, 6, none⟩ = some .nilFunc := blk_cell hP 6
    have f5 := blk_frozen hP 5
    have f6 := blk_frozen hP 6
    clear hP hR
    go_enter Tryz.func20, Tryz.ntmps20
    go_wp2_with fail
    go_end0
    exact ⟨rfl, end_nil hbB HP.out HR.out, ((Below.refl base w).setCell (p := ⟨B, 6, none⟩) hbB _).setCell (p := ⟨B, 5, none⟩) hbB _, blk_kept HQ.out (Kept.then_ (kept_one _ B 6 _) (kept_one _ B 5 _) (fun k hk => .inl hk)) hQB⟩
  | rule =>
    obtain ⟨Bp, Br, g, c, rfl, rfl, hbp, hbr, rfl, hn⟩ := hC
    have hc := (rule_last hR.2.2.2.2 hn).1 1 _ rfl
    have HC := Lib.hid (over82_calls B Bp Br g ((p.rules.length - 1) * 5) vE vP vD vO _ _ _ e (lastR p.rules).f1 w hP (blk_cell hbp 0) (blk_cell hbr 0) hc)
    obtain ⟨cond, hcond⟩ : ∃ q, (!(lastR p.rules).f1.toList.isEmpty) = q := ⟨_, rfl⟩
    have hov : overE p .rule e = needE e cond := by rw [← hcond]; rfl
    rw [hov, show overP p .rule = p from rfl]
    rw [hcond] at HC
    clear hov hcond hc
    have c6 : w.cell? ⟨B, 6, none⟩ = some (.func (.func 82) #[] #[.pointer (some ⟨Bp, 0, none⟩), .pointer (some ⟨Br, 0, none⟩)]) := blk_cell hP 6
    have HP := Lib.hid hP
    have HR := Lib.hid hR
    clear hP hR
    go_enter Tryz.func20, Tryz.ntmps20
    go_wp2_with (first | (go_at_call 82; refine HC.out.mono ?_; rintro x w1 ⟨rfl, hp, hk, hb⟩; have HP1 := Aside0.mk hp; have HQ1 := Aside0.mk (blk_kept HQ.out hk hQB); have HR1 := Aside0.mk (Rows_kept HR.out hk (apart_one HP.out (by decide))); have HB1 := Aside0.mk (hb base hbB); have d5 : w1.cell? ⟨B, 5, none⟩ = some (.func (.func 80) #[] #[.pointer (some ⟨Bp, 0, none⟩), .pointer (some ⟨Br, 0, none⟩)]) := blk_cell HP1.out 5; have d6 : w1.cell? ⟨B, 6, none⟩ = some (.func (.func 82) #[] #[.pointer (some ⟨Bp, 0, none⟩), .pointer (some ⟨Br, 0, none⟩)]) := blk_cell HP1.out 6; have f5 := blk_frozen HP1.out 5; have f6 := blk_frozen HP1.out 6; clear hp hk hb))
    go_end0
    exact ⟨rfl, end_nil hbB HP1.out HR1.out, (HB1.out.setCell (p := ⟨B, 6, none⟩) hbB _).setCell (p := ⟨B, 5, none⟩) hbB _, blk_kept HQ1.out (Kept.then_ (kept_one _ B 6 _) (kept_one _ B 5 _) (fun k hk => .inl hk)) hQB⟩
  | pool =>
    obtain ⟨Bp, Br, g, c, rfl, rfl, hbp, hbr, rfl, hn⟩ := hC
    have hc := (pool_last hR.2.1 hn).1 1 _ rfl
    have HC := Lib.hid (over84_calls B Bp Br g ((p.pools.length - 1) * 2) vE _ vD vO vR _ _ e (lastP p.pools).f1 w hP (blk_cell hbp 0) (blk_cell hbr 0) hc)
    obtain ⟨cond, hcond⟩ : ∃ q, (decide (0 < (lastP p.pools).f1)) = q := ⟨_, rfl⟩
    have hov : overE p .pool e = needE e cond := by rw [← hcond]; rfl
    rw [hov, show overP p .pool = p from rfl]
    rw [hcond] at HC
    clear hov hcond hc
    have c6 : w.cell? ⟨B, 6, none⟩ = some (.func (.func 84) #[] #[.pointer (some ⟨Bp, 0, none⟩), .pointer (some ⟨Br, 0, none⟩)]) := blk_cell hP 6
    have HP := Lib.hid hP
    have HR := Lib.hid hR
    clear hP hR
    go_enter Tryz.func20, Tryz.ntmps20
    go_wp2_with (first | (go_at_call 84; refine HC.out.mono ?_; rintro x w1 ⟨rfl, hp, hk, hb⟩; have HP1 := Aside0.mk hp; have HQ1 := Aside0.mk (blk_kept HQ.out hk hQB); have HR1 := Aside0.mk (Rows_kept HR.out hk (apart_one HP.out (by decide))); have HB1 := Aside0.mk (hb base hbB); have d5 : w1.cell? ⟨B, 5, none⟩ = some (.func (.func 83) #[] #[.pointer (some ⟨Bp, 0, none⟩), .pointer (some ⟨Br, 0, none⟩)]) := blk_cell HP1.out 5; have d6 : w1.cell? ⟨B, 6, none⟩ = some (.func (.func 84) #[] #[.pointer (some ⟨Bp, 0, none⟩), .pointer (some ⟨Br, 0, none⟩)]) := blk_cell HP1.out 6; have f5 := blk_frozen HP1.out 5; have f6 := blk_frozen HP1.out 6; clear hp hk hb))
    go_end0
    exact ⟨rfl, end_nil hbB HP1.out HR1.out, (HB1.out.setCell (p := ⟨B, 6, none⟩) hbB _).setCell (p := ⟨B, 5, none⟩) hbB _, blk_kept HQ1.out (Kept.then_ (kept_one _ B 6 _) (kept_one _ B 5 _) (fun k hk => .inl hk)) hQB⟩
  | build outs ins imp ord r own =>
    obtain ⟨Bp, Bx, X, v0, v1, v2, v3, vS, rfl, rfl, hbp, hbx, hbX, hX, h0, h1, h2, h3, hS⟩ := hC
    obtain ⟨sO, sI, lS, hr, _⟩ := i7
    have HC := Lib.hid (over89_calls base B X Bp Bx p vE vP vD vO vR _ _ v0 v1 v2 v3 vS e outs ins imp ord r own w hbB hbX hP hR hbp hbx hX h0 h1 h2 h3 hS sO sI lS i1 (by omega) (by omega) Q tq cq HQ.out htq)
    rw [show overE p (.build outs ins imp ord r own) e = finE p.outer outs ins r own e from rfl, show overP p (.build outs ins imp ord r own) = finP p outs ins imp ord r own from rfl]
    have c6 : w.cell? ⟨B, 6, none⟩ = some (.func (.func 89) #[] #[.pointer (some ⟨Bp, 0, none⟩), .pointer (some ⟨Bx, 0, none⟩)]) := blk_cell hP 6
    clear hP hR hbp hbx hX h0 h1 h2 h3 hS
    go_enter Tryz.func20, Tryz.ntmps20
    go_wp2_with (first | (go_at_call 89; refine HC.out.mono ?_; rintro x w1 ⟨rfl, ⟨wE, wP, wD, wO, wR, _, hp, hr9⟩, hb, hq1⟩; have HQ1 := Aside0.mk hq1; have HP1 := Aside0.mk hp; have HR1 := Aside0.mk hr9; have HB1 := Aside0.mk hb; have d5 : w1.cell? ⟨B, 5, none⟩ = some (.func (.func 88) #[] #[.pointer (some ⟨Bp, 0, none⟩), .pointer (some ⟨Bx, 0, none⟩)]) := blk_cell HP1.out 5; have d6 : w1.cell? ⟨B, 6, none⟩ = some (.func (.func 89) #[] #[.pointer (some ⟨Bp, 0, none⟩), .pointer (some ⟨Bx, 0, none⟩)]) := blk_cell HP1.out 6; have f5 := blk_frozen HP1.out 5; have f6 := blk_frozen HP1.out 6; clear hp hr9 hb))
    go_end0
    exact ⟨rfl, end_nil hbB HP1.out HR1.out, (HB1.out.setCell (p := ⟨B, 6, none⟩) hbB _).setCell (p := ⟨B, 5, none⟩) hbB _, blk_kept HQ1.out (Kept.then_ (kept_one _ B 6 _) (kept_one _ B 5 _) (fun k hk => .inl hk)) hQB⟩
end Go.Proofs.YtefheailchihaaaGreatDoor.Print

end
section
namespace Go.Proofs.YtefheailchihaaaGreatDoor.Print
open Go.RowKit Go.Lib Go.Shelf Go.Proofs.YtefheailchihaaaGreatDoorW.PrintWords Go.Proofs.YtefheailchihaaaGreatDoorW.PrintLast Go.Proofs.YtefheailchihaaaGreatDoorW.PrintMore
set_option linter.unusedVariables false
set_option linter.unusedSimpArgs false
attribute [local go_sem ↓] Go.wp_at_zero Go.wp_at_succ
attribute [local go_sem] neq1 neq55 nil1 nil55

/-- What the parser is behind a line. -/
def isOpen (o : Opn) : Bool := match o with
  | .none => false
  | _ => true
def deepR (p : Pst) (o : Opn) (k v : ByteArray) : Pst × Opn × Int := match o with
  | .none => (p, .none, 0)
  | .rule => (ruleD p k v, .rule, ruleDE p 0 k v)
  | .pool => (poolD p 0 k v, .pool, poolDE p 0 k v)
  | .build outs ins imp ord r own => (p, .build outs ins imp ord r (putL own k (evalOf v p.outer p.outer).1), tookE (tookE 0 (evalOf v p.outer p.outer).2) (scopeSet own k (evalOf v p.outer p.outer).1).2)
def lineDeep (p : Pst) (o : Opn) (t : ByteArray) : Pst × Opn × Int :=
  if needE (needE 0 (isOpen o)) (bindB t).2.2 = 0 then deepR p o (bindB t).1 (bindB t).2.1 else (p, o, needE (needE 0 (isOpen o)) (bindB t).2.2)
def bindFlat (p : Pst) (t : ByteArray) : Pst × Opn × Int :=
  if needE 0 (bindB t).2.2 = 0 then ({ p with outer := putL p.outer (bindB t).1 (evalOf (bindB t).2.1 p.outer p.outer).1 }, .none, tookE (tookE 0 (evalOf (bindB t).2.1 p.outer p.outer).2) (scopeSet p.outer (bindB t).1 (evalOf (bindB t).2.1 p.outer p.outer).1).2)
  else (p, .none, needE 0 (bindB t).2.2)
def flatR (p : Pst) (t : ByteArray) : Pst × Opn × Int :=
  let c := cutC 32 t
  if (c.1.toList == [114, 117, 108, 101]) = true then ({ p with rules := p.rules ++ [⟨(oneW 0 c.2.1).1, ⟨#[]⟩, ⟨#[]⟩, false, false⟩] }, .rule, ruleE p 0 c.2.1)
  else if (c.1.toList == [112, 111, 111, 108]) = true then ({ p with pools := p.pools ++ [⟨(oneW 0 c.2.1).1, 0⟩] }, .pool, poolE p 0 c.2.1)
  else if (c.1.toList == [98, 117, 105, 108, 100]) = true then (p, buildO p 0 c.2.1, buildE p 0 c.2.1)
  else if (c.1.toList == [100, 101, 102, 97, 117, 108, 116]) = true then (defP p c.2.1, .none, defE p 0 c.2.1)
  else bindFlat p t
def lineR (p : Pst) (o : Opn) (d : Bool) (t : ByteArray) : Pst × Opn × Int :=
  if d = true then lineDeep p o t else if overE p o 0 = 0 then flatR (overP p o) t else (overP p o, .none, overE p o 0)

theorem cutC_size (c : UInt8) (s : ByteArray) : (cutC c s).1.size ≤ s.size ∧ (cutC c s).2.1.size ≤ s.size := by
  unfold cutC
  split
  · constructor
    · rw [ByteArray.size_extract]; omega
    · rw [ByteArray.size_extract]; omega
  · exact ⟨Nat.le_refl _, Nat.zero_le _⟩
theorem bindB_size (t : ByteArray) : (bindB t).1.size ≤ t.size ∧ (bindB t).2.1.size ≤ t.size :=
  ⟨Nat.le_trans (trim_size _) (cutC_size 61 t).1, Nat.le_trans (trim_size _) (cutC_size 61 t).2⟩

/-- What is open is kept where the parser's block alone is written. -/
theorem Cl_kept {w w1 : World} {base B nP nR : Nat} {o : Opn} {vP vD vR fd fo : Value} {S : Nat → Prop} (h : Cl w base B nP nR o vP vD vR fd fo) (hk : Kept w w1 S) (hS : ∀ k, S k → ∃ cells q, w.heap[k]? = some (.cells cells q (0, 0)) ∧ q ∉ [52, 117, 118, 122, 124, 9, 174]) : Cl w1 base B nP nR o vP vD vR fd fo := by
  have ne : ∀ {g t : Nat} {cs : Array Value}, w.heap[g]? = some (.cells cs t (0, 0)) → t ∈ [52, 117, 118, 122, 124, 9, 174] → w1.heap[g]? = some (.cells cs t (0, 0)) := fun {g t cs} hg ht => blk_kept hg hk (fun hs => by
    obtain ⟨cs2, q, h2, hq⟩ := hS g hs
    rw [hg] at h2
    simp only [Option.some.injEq, Obj.cells.injEq] at h2
    exact hq (h2.2.1 ▸ ht))
  have ap : ∀ {l : List Nat}, (∀ q, q ∈ l → q ∈ [52, 117, 118, 122, 124, 9, 174]) → ∀ k, S k → ∃ cells q, w.heap[k]? = some (.cells cells q (0, 0)) ∧ q ∉ l := fun hl k hs => by
    obtain ⟨cs2, q, h2, hq⟩ := hS k hs
    exact ⟨cs2, q, h2, fun h => hq (hl q h)⟩
  cases o with
  | none => exact h
  | rule =>
    obtain ⟨Bp, Br, g, c, h1, h2, h3, h4, h5⟩ := h
    exact ⟨Bp, Br, g, c, h1, h2, ne h3 (by decide), ne h4 (by decide), h5⟩
  | pool =>
    obtain ⟨Bp, Br, g, c, h1, h2, h3, h4, h5⟩ := h
    exact ⟨Bp, Br, g, c, h1, h2, ne h3 (by decide), ne h4 (by decide), h5⟩
  | build outs ins imp ord r own =>
    obtain ⟨Bp, Bx, X, v0, v1, v2, v3, vS, h1, h2, h3, h4, h5, h6, h7, h8, h9, h10, h11⟩ := h
    exact ⟨Bp, Bx, X, v0, v1, v2, v3, vS, h1, h2, ne h3 (by decide), ne h4 (by decide), h5, ne h6 (by decide), R_types h7 hk (ap (by decide)), R_types h8 hk (ap (by decide)), R_types h9 hk (ap (by decide)), R_types h10 hk (ap (by decide)), R_types h11 hk (ap (by decide))⟩
theorem Cl_below {w w1 : World} {base B nP nR : Nat} {o : Opn} {vP vD vR fd fo : Value} (h : Cl w base B nP nR o vP vD vR fd fo) (hb : Below w.heap.size w w1) : Cl w1 base B nP nR o vP vD vR fd fo := Cl_kept h (Kept.of_below hb (fun _ => False)) (fun k hk => hk.elim)

/-- The function that takes a variable, whatever is open. -/
theorem deepAny_calls (base B : Nat) (p : Pst) (o : Opn) (vE vP vD vO vR fd fo : Value) (k v : ByteArray) (w : World) (hbB : base ≤ B) (h : Pb w B vE vP vD vO vR fd fo 0) (hR : Rows w base p vE vP vD vO vR) (hC : Cl w base B p.pools.length p.rules.length o vP vD vR fd fo) (hI : Inv p o) (ho : isOpen o = true) (hv : v.size ≤ 1048576) :
    ∃ f Bp Bx, fd = .func (.func f) #[] #[.pointer (some ⟨Bp, 0, none⟩), .pointer (some ⟨Bx, 0, none⟩)] ∧ (f = 80 ∨ f = 83 ∨ f = 88) ∧
    Calls Tryz.prog f #[.string k, .string v, .pointer (some ⟨Bp, 0, none⟩), .pointer (some ⟨Bx, 0, none⟩)] w fun x w' => x = .returned (.tuple #[]) ∧ Mst w' base B (deepR p o k v).1 (deepR p o k v).2.1 (deepR p o k v).2.2 ∧ Below base w w' := by
  cases o with
  | none => cases ho
  | rule =>
    obtain ⟨Bp, Br, g, c, rfl, rfl, hbp, hbr, rfl, hn⟩ := hC
    exact ⟨80, Bp, Br, rfl, .inl rfl, deep80_calls base B Bp Br g c p vE vP vD vO _ _ 0 k v w hbB (Kd.R_base hR.2.2.2.2 g rfl) h hR hn hbp hbr rfl rfl⟩
  | pool =>
    obtain ⟨Bp, Br, g, c, rfl, rfl, hbp, hbr, rfl, hn⟩ := hC
    exact ⟨83, Bp, Br, rfl, .inr (.inl rfl), deep83_calls base B Bp Br g c p vE vD vO vR _ _ 0 k v w hbB (Kd.R_base hR.2.1 g rfl) h hR hn hbp hbr rfl rfl⟩
  | build outs ins imp ord r own =>
    obtain ⟨Bp, Bx, X, v0, v1, v2, v3, vS, rfl, rfl, hbp, hbx, hbX, hX, h0, h1, h2, h3, hS⟩ := hC
    obtain ⟨i1, _, _, _, _, _, _, _, lS, _⟩ := hI
    have hBxB : Bx ≠ B := fun q => heap_ne hbx h (by decide) q
    have hBp : ¬ Bp = B := fun q => heap_ne hbp h (by decide) q
    have hBpX : ¬ Bp = X := fun q => heap_ne hbp hX (by decide) q
    have hBxX : ¬ Bx = X := fun q => heap_ne hbx hX (by decide) q
    have hbw : base ≤ w.heap.size := Nat.le_trans hbB (Nat.le_of_lt (blk_lt h))
    refine ⟨88, Bp, Bx, rfl, .inr (.inr rfl), (deep88_calls B Bp Bx X vE vP vD vO vR _ _ 0 _ _ _ _ _ _ _ _ _ _ _ _ vS base own p.outer k v w h (blk_cell hbp 0) (blk_cell hbx 0) hBxB (blk_lt hbx) hX hS hR.2.2.2.1 hbw lS i1 (by omega) (Nat.le_trans (evalOf_size _ _ _) (by omega))).mono ?_⟩
    rintro x w1 ⟨v', rfl, hS', hX', hP', hk, hb⟩
    have ap : ∀ k, k = B ∨ k = X → ∃ cells q, w.heap[k]? = some (.cells cells q (0, 0)) ∧ (q = 57 ∨ q = 124) := fun k hk => by
      rcases hk with rfl | rfl
      · exact ⟨_, 57, h, .inl rfl⟩
      · exact ⟨_, 124, hX, .inr rfl⟩
    have ap2 : ∀ {l : List Nat}, 57 ∉ l → 124 ∉ l → ∀ k, k = B ∨ k = X → ∃ cells q, w.heap[k]? = some (.cells cells q (0, 0)) ∧ q ∉ l := fun h1 h2 k hk => by
      obtain ⟨cs, q, hq, hc⟩ := ap k hk
      exact ⟨cs, q, hq, by rcases hc with rfl | rfl <;> assumption⟩
    exact ⟨rfl, ⟨vE, vP, vD, vO, vR, _, _, hbB, hP', Rows_kept hR hk (ap2 (by decide) (by decide)), Bp, Bx, X, v0, v1, v2, v3, v', rfl, rfl, blk_kept hbp hk (fun q => q.elim hBp hBpX), blk_kept hbx hk (fun q => q.elim hBxB hBxX), hbX, hX', R_types h0 hk (ap2 (by decide) (by decide)), R_types h1 hk (ap2 (by decide) (by decide)), R_types h2 hk (ap2 (by decide) (by decide)), R_types h3 hk (ap2 (by decide) (by decide)), hS'⟩, hb base hbB hbX⟩

theorem deepAny_at (base B : Nat) (p : Pst) (o : Opn) (vE vP vD vO vR fo : Value) (f Bp Bx : Nat) (k v : ByteArray) (w : World) (hbB : base ≤ B) (h : Pb w B vE vP vD vO vR (.func (.func f) #[] #[.pointer (some ⟨Bp, 0, none⟩), .pointer (some ⟨Bx, 0, none⟩)]) fo 0) (hR : Rows w base p vE vP vD vO vR) (hC : Cl w base B p.pools.length p.rules.length o vP vD vR (.func (.func f) #[] #[.pointer (some ⟨Bp, 0, none⟩), .pointer (some ⟨Bx, 0, none⟩)]) fo) (hI : Inv p o) (ho : isOpen o = true) (hv : v.size ≤ 1048576) :
    Calls Tryz.prog f #[.string k, .string v, .pointer (some ⟨Bp, 0, none⟩), .pointer (some ⟨Bx, 0, none⟩)] w fun x w' => x = .returned (.tuple #[]) ∧ Mst w' base B (deepR p o k v).1 (deepR p o k v).2.1 (deepR p o k v).2.2 ∧ Below base w w' := by
  obtain ⟨f', Bp', Bx', he, _, hc⟩ := deepAny_calls base B p o vE vP vD vO vR _ fo k v w hbB h hR hC hI ho hv
  simp only [Value.func.injEq, Fn.func.injEq, true_and, Array.mk.injEq, List.cons.injEq, Value.pointer.injEq, Option.some.injEq, Addr.mk.injEq, and_true] at he
  obtain ⟨rfl, rfl, rfl⟩ := he
  exact hc

theorem fd_open {w : World} {base B nP nR : Nat} {o : Opn} {vP vD vR fd fo : Value} (h : Cl w base B nP nR o vP vD vR fd fo) : (isOpen o = false ∧ fd = .nilFunc) ∨ (isOpen o = true ∧ ∃ f Bp Bx, (f = 80 ∨ f = 83 ∨ f = 88) ∧ fd = .func (.func f) #[] #[.pointer (some ⟨Bp, 0, none⟩), .pointer (some ⟨Bx, 0, none⟩)]) := by
  cases o with
  | none => exact .inl ⟨rfl, h.1⟩
  | rule => obtain ⟨Bp, Br, g, c, rfl, _⟩ := h; exact .inr ⟨rfl, _, _, _, by decide, rfl⟩
  | pool => obtain ⟨Bp, Br, g, c, rfl, _⟩ := h; exact .inr ⟨rfl, _, _, _, by decide, rfl⟩
  | build outs ins imp ord r own => obtain ⟨Bp, Bx, X, v0, v1, v2, v3, vS, rfl, _⟩ := h; exact .inr ⟨rfl, _, _, _, by decide, rfl⟩

set_option maxHeartbeats 4000000 in
set_option maxRecDepth 100000 in
theorem lineDeep_calls (base B : Nat) (p : Pst) (o : Opn) (t : ByteArray) (ht : t.size ≤ 1048576) (w : World) (hbw : base ≤ w.heap.size) (h : Mst w base B p o 0) (hI : Inv p o) :
    Calls Tryz.prog 19 #[.pointer (some ⟨B, 0, none⟩), .agg #[.bool true, .string t]] w fun x w' => x = .returned (.tuple #[]) ∧ Mst w' base B (lineDeep p o t).1 (lineDeep p o t).2.1 (lineDeep p o t).2.2 ∧ Below base w w' := by
  obtain ⟨vE, vP, vD, vO, vR, fd, fo, hbB, hP, hR, hC⟩ := h
  have hB := blk_lt hP
  have hQB : ¬ w.heap.size = B := by omega
  have hbs := bindB_size t
  have hmf : ∀ (fn : Fn) (first cap : Array Value) (w : World), (Instr.makeFunc fn first cap).run Tryz.prog w = .ok (.func fn first cap) w := fun _ _ _ _ => rfl
  unfold lineDeep
  rcases fd_open hC with ⟨ho, rfl⟩ | ⟨ho, f, Bp, Bx, hf, rfl⟩
  · rw [ho]
    have hn : ¬ needE (needE 0 false) (bindB t).2.2 = 0 := by
      cases (bindB t).2.2 <;> decide
    rw [if_neg hn]
    have HP := Lib.hid hP
    have HR := Lib.hid hR
    have HCl := Lib.hid hC
    have HA := Aside0.mk ((Below.refl w.heap.size w).alloc (Nat.le_refl _) (.cells #[.bool true, .string t] 59))
    have HPa := Aside0.mk (pb_below HP.out HA.out)
    have HQa := Aside0.mk (blk_new w (.cells #[.bool true, .string t] 59))
    have c5 : (w.alloc (.cells #[.bool true, .string t] 59)).cell? ⟨B, 5, none⟩ = some .nilFunc := blk_cell HPa.out 5
    have HRa := Aside0.mk (Rows_below HR.out HA.out)
    have HCa := Aside0.mk (Cl_below HCl.out HA.out)
    have HBa := Aside0.mk (HA.out.mono hbw)
    have HN := Lib.hid hn
    obtain ⟨e2, he2⟩ : ∃ q, needE (needE 0 false) (bindB t).2.2 = q := ⟨_, rfl⟩
    rw [he2] at hn ⊢
    have HE := Lib.hid he2
    have hnb : (e2 == 0) = false := beq_eq_false_iff_ne.2 hn
    clear hP hR hC HP HR HCl HA he2 hn HN
    go_enter Tryz.func19, Tryz.ntmps19
    go_wp2_with (first | (go_at_call 40; refine (need_calls B vE vP vD vO vR .nilFunc fo 0 false _ HPa.out).mono ?_; rintro x w1 ⟨rfl, hp, hk, hb⟩; have HP1 := Aside0.mk hp; have HR1 := Aside0.mk (Rows_kept HRa.out hk (apart_one HPa.out (by decide))); have HC1 := Aside0.mk (Cl_kept HCa.out hk (pb_type HPa.out (by decide))); have HQ1 := Aside0.mk (blk_kept HQa.out hk hQB); have HB1 := Aside0.mk (HBa.out.trans (hb base hbB)); have q1 : w1.cell? ⟨w.heap.size, 1, none⟩ = some (.string t) := blk_cell HQ1.out 1; clear hp hk hb HPa HRa HCa HQa HBa) | (go_at_call 41; refine (bind_calls B vE vP vD vO vR .nilFunc fo _ t ht _ HP1.out).mono ?_; rw [HE.out]; rintro x w2 ⟨rfl, hp, hk, hb⟩; have HP2 := Aside0.mk hp; have HR2 := Aside0.mk (Rows_kept HR1.out hk (apart_one HP1.out (by decide))); have HC2 := Aside0.mk (Cl_kept HC1.out hk (pb_type HP1.out (by decide))); have HB2 := Aside0.mk (HB1.out.trans (hb base hbB)); have q2 : w2.cell? ⟨B, 7, none⟩ = some (.int .i64 e2) := blk_cell HP2.out 7; clear hp hk hb HP1 HR1 HC1 HQ1 HB1 q1))
    refine bodyPost_ret (results_none rfl _ _ _) rfl ?_
    exact ⟨rfl, ⟨_, _, _, _, _, _, _, hbB, HP2.out, HR2.out, HC2.out⟩, HB2.out⟩
  · rw [ho]
    have hn0 : needE 0 true = 0 := by decide
    rw [hn0]
    obtain ⟨⟨k, v, ok⟩, hbq⟩ : ∃ q, bindB t = q := ⟨_, rfl⟩
    have HBQ := Lib.hid hbq
    rw [hbq] at hbs ⊢
    clear hbq
    simp only at hbs ⊢
    obtain ⟨e2, he2⟩ : ∃ q, needE 0 ok = q := ⟨_, rfl⟩
    rw [he2]
    have HE := Lib.hid he2
    clear he2
    have HP := Lib.hid hP
    have HR := Lib.hid hR
    have HCl := Lib.hid hC
    have HIv := Lib.hid hI
    have HA := Aside0.mk ((Below.refl w.heap.size w).alloc (Nat.le_refl _) (.cells #[.bool true, .string t] 59))
    have HPa := Aside0.mk (pb_below HP.out HA.out)
    have HQa := Aside0.mk (blk_new w (.cells #[.bool true, .string t] 59))
    have c5 : (w.alloc (.cells #[.bool true, .string t] 59)).cell? ⟨B, 5, none⟩ = some (.func (.func f) #[] #[.pointer (some ⟨Bp, 0, none⟩), .pointer (some ⟨Bx, 0, none⟩)]) := blk_cell HPa.out 5
    have HRa := Aside0.mk (Rows_below HR.out HA.out)
    have HCa := Aside0.mk (Cl_below HCl.out HA.out)
    have HBa := Aside0.mk (HA.out.mono hbw)
    have hv : v.size ≤ 1048576 := Nat.le_trans hbs.2 ht
    clear hP hR hC hI HP HR HCl HA hbs
    by_cases h0 : e2 = 0
    · subst h0
      rw [if_pos rfl]
      obtain ⟨⟨P', O', E'⟩, hD⟩ : ∃ q, deepR p o k v = q := ⟨_, rfl⟩
      rw [hD]
      have HD := Lib.hid hD
      clear hD
      simp only
      rcases hf with rfl | rfl | rfl <;> (
        go_enter Tryz.func19, Tryz.ntmps19
        go_wp2_with (first | (go_at_call 40; refine (need_calls B vE vP vD vO vR _ fo 0 true _ HPa.out).mono ?_; rw [hn0]; rintro x w1 ⟨rfl, hp, hk, hb⟩; have HP1 := Aside0.mk hp; have HR1 := Aside0.mk (Rows_kept HRa.out hk (apart_one HPa.out (by decide))); have HC1 := Aside0.mk (Cl_kept HCa.out hk (pb_type HPa.out (by decide))); have HQ1 := Aside0.mk (blk_kept HQa.out hk hQB); have HB1 := Aside0.mk (HBa.out.trans (hb base hbB)); have q1 : w1.cell? ⟨w.heap.size, 1, none⟩ = some (.string t) := blk_cell HQ1.out 1; clear hp hk hb HPa HRa HCa HQa HBa) | (go_at_call 41; refine (bind_calls B vE vP vD vO vR _ fo _ t ht _ HP1.out).mono ?_; rw [HBQ.out]; simp only; rw [HE.out]; rintro x w2 ⟨rfl, hp, hk, hb⟩; have HP2 := Aside0.mk hp; have HR2 := Aside0.mk (Rows_kept HR1.out hk (apart_one HP1.out (by decide))); have HC2 := Aside0.mk (Cl_kept HC1.out hk (pb_type HP1.out (by decide))); have HB2 := Aside0.mk (HB1.out.trans (hb base hbB)); have q2 : w2.cell? ⟨B, 7, none⟩ = some (.int .i64 0) := blk_cell HP2.out 7; have q3 : w2.cell? ⟨B, 5, none⟩ = some (.func (.func _) #[] #[.pointer (some ⟨Bp, 0, none⟩), .pointer (some ⟨Bx, 0, none⟩)]) := blk_cell HP2.out 5; have HCALL := Lib.hid (deepAny_at base B p o vE vP vD vO vR fo _ Bp Bx k v w2 hbB HP2.out HR2.out HC2.out HIv.out ho hv); rw [HD.out] at HCALL; clear hp hk hb HP1 HR1 HC1 HQ1 HB1 q1) | (go_at_call 80; refine HCALL.out.mono ?_; rintro x w3 ⟨rfl, hm, hb⟩; have HM3 := Aside0.mk hm; have HB3 := Aside0.mk (HB2.out.trans hb); clear hm hb) | (go_at_call 83; refine HCALL.out.mono ?_; rintro x w3 ⟨rfl, hm, hb⟩; have HM3 := Aside0.mk hm; have HB3 := Aside0.mk (HB2.out.trans hb); clear hm hb) | (go_at_call 88; refine HCALL.out.mono ?_; rintro x w3 ⟨rfl, hm, hb⟩; have HM3 := Aside0.mk hm; have HB3 := Aside0.mk (HB2.out.trans hb); clear hm hb))
        refine bodyPost_ret (results_none rfl _ _ _) rfl ?_
        exact ⟨rfl, HM3.out, HB3.out⟩)
    · rw [if_neg h0]
      have hnb : (e2 == 0) = false := beq_eq_false_iff_ne.2 h0
      simp only
      go_enter Tryz.func19, Tryz.ntmps19
      go_wp2_with (first | (go_at_call 40; refine (need_calls B vE vP vD vO vR _ fo 0 true _ HPa.out).mono ?_; rw [hn0]; rintro x w1 ⟨rfl, hp, hk, hb⟩; have HP1 := Aside0.mk hp; have HR1 := Aside0.mk (Rows_kept HRa.out hk (apart_one HPa.out (by decide))); have HC1 := Aside0.mk (Cl_kept HCa.out hk (pb_type HPa.out (by decide))); have HQ1 := Aside0.mk (blk_kept HQa.out hk hQB); have HB1 := Aside0.mk (HBa.out.trans (hb base hbB)); have q1 : w1.cell? ⟨w.heap.size, 1, none⟩ = some (.string t) := blk_cell HQ1.out 1; clear hp hk hb HPa HRa HCa HQa HBa) | (go_at_call 41; refine (bind_calls B vE vP vD vO vR _ fo _ t ht _ HP1.out).mono ?_; rw [HBQ.out]; simp only; rw [HE.out]; rintro x w2 ⟨rfl, hp, hk, hb⟩; have HP2 := Aside0.mk hp; have HR2 := Aside0.mk (Rows_kept HR1.out hk (apart_one HP1.out (by decide))); have HC2 := Aside0.mk (Cl_kept HC1.out hk (pb_type HP1.out (by decide))); have HB2 := Aside0.mk (HB1.out.trans (hb base hbB)); have q2 : w2.cell? ⟨B, 7, none⟩ = some (.int .i64 e2) := blk_cell HP2.out 7; clear hp hk hb HP1 HR1 HC1 HQ1 HB1 q1))
      refine bodyPost_ret (results_none rfl _ _ _) rfl ?_
      exact ⟨rfl, ⟨_, _, _, _, _, _, _, hbB, HP2.out, HR2.out, HC2.out⟩, HB2.out⟩
end Go.Proofs.YtefheailchihaaaGreatDoor.Print

end
section
namespace Go.Proofs.YtefheailchihaaaGreatDoor.Print
open Go.RowKit Go.Lib Go.Shelf Go.Proofs.YtefheailchihaaaGreatDoorW.PrintWords Go.Proofs.YtefheailchihaaaGreatDoorW.PrintLast Go.Proofs.YtefheailchihaaaGreatDoorW.PrintMore
set_option linter.unusedVariables false
set_option linter.unusedSimpArgs false
attribute [local go_sem ↓] Go.wp_at_zero Go.wp_at_succ
attribute [local go_sem] neq1 neq55 nil1 nil55

theorem Mst_below {w w1 : World} {base B : Nat} {p : Pst} {o : Opn} {e : Int} (h : Mst w base B p o e) (hb : Below w.heap.size w w1) : Mst w1 base B p o e := by
  obtain ⟨vE, vP, vD, vO, vR, fd, fo, h1, h2, h3, h4⟩ := h
  exact ⟨vE, vP, vD, vO, vR, fd, fo, h1, pb_below h2 hb, Rows_below h3 hb, Cl_below h4 hb⟩
theorem over_same (p : Pst) (o : Opn) : (overP p o).rules = p.rules ∧ (overP p o).pools = p.pools ∧ (overP p o).defs = p.defs ∧ (overP p o).outer = p.outer := by
  cases o <;> exact ⟨rfl, rfl, rfl, rfl⟩

set_option maxHeartbeats 8000000 in
set_option maxRecDepth 100000 in
theorem lineFlat_calls (base B : Nat) (p : Pst) (o : Opn) (t : ByteArray) (ht : t.size ≤ 1048576) (w : World) (hbw : base ≤ w.heap.size) (h : Mst w base B p o 0) (hI : Inv p o) :
    Calls Tryz.prog 19 #[.pointer (some ⟨B, 0, none⟩), .agg #[.bool false, .string t]] w fun x w' => x = .returned (.tuple #[]) ∧ Mst w' base B (lineR p o false t).1 (lineR p o false t).2.1 (lineR p o false t).2.2 ∧ Below base w w' := by
  have hbB : base ≤ B := by obtain ⟨_, _, _, _, _, _, _, hbB, _⟩ := h; exact hbB
  have hmf : ∀ (fn : Fn) (first cap : Array Value) (w : World), (Instr.makeFunc fn first cap).run Tryz.prog w = .ok (.func fn first cap) w := fun _ _ _ _ => rfl
  have hos := over_same p o
  have hlr : (overP p o).rules.length ≤ 1048576 := by rw [hos.1]; have := hI.2.2.1; omega
  have hlp : (overP p o).pools.length ≤ 1048576 := by rw [hos.2.1]; have := hI.2.2.2.1; omega
  have hld : (overP p o).defs.length ≤ 1048576 := by rw [hos.2.2.1]; have := hI.2.2.2.2.2.1; omega
  have hlo : longOk (overP p o).outer = true := by rw [hos.2.2.2]; exact hI.1
  clear hos
  unfold lineR
  rw [if_neg (by decide : ¬ (false = true))]
  have HIv := Lib.hid hI
  have HA := Aside0.mk ((Below.refl w.heap.size w).alloc (Nat.le_refl _) (.cells #[.bool false, .string t] 59))
  have HMa := Aside0.mk (Mst_below h HA.out)
  have HQa := Aside0.mk (blk_new w (.cells #[.bool false, .string t] 59))
  have HBa := Aside0.mk (HA.out.mono hbw)
  have hsz : w.heap.size ≤ (w.alloc (.cells #[.bool false, .string t] 59)).heap.size := HA.out.size
  have HEN := Lib.hid (end_calls base B p o 0 (w.alloc (.cells #[.bool false, .string t] 59)) HMa.out hI w.heap.size 59 _ HQa.out (by decide))
  clear h hI HA
  obtain ⟨e1, he1⟩ : ∃ q, overE p o 0 = q := ⟨_, rfl⟩
  obtain ⟨P1, hP1⟩ : ∃ q, overP p o = q := ⟨_, rfl⟩
  rw [he1, hP1] at HEN
  rw [he1, hP1]
  rw [hP1] at hlr hlp hld hlo
  clear he1 hP1
  by_cases h0 : e1 = 0
  · subst h0
    rw [if_pos rfl]
    obtain ⟨⟨P', O', E'⟩, hF⟩ : ∃ q, flatR P1 t = q := ⟨_, rfl⟩
    rw [hF]
    simp only
    have hcs := cutC_size 32 t
    have HCU : Hid (∀ W, Calls Tryz.prog 36 #[.string t, .string ⟨#[32]⟩] W fun x w' => x = .returned (.tuple #[.string (cutC 32 t).1, .string (cutC 32 t).2.1, .bool (cutC 32 t).2.2]) ∧ ∃ n, w' = W.drewN n) := Lib.hid (fun W => cut_callsC 32 t (by omega) W)
    unfold flatR at hF
    simp only at hF
    obtain ⟨⟨c1, c2, c3⟩, hc⟩ : ∃ q, cutC 32 t = q := ⟨_, rfl⟩
    rw [hc] at hF hcs HCU
    clear hc
    simp only at hF hcs HCU
    have hc2 : c2.size ≤ 1048576 := Nat.le_trans hcs.2 ht
    clear hcs
    have HF := Lib.hid hF
    clear hF
    have HLO := Aside0.mk hlo
    go_enter Tryz.func19, Tryz.ntmps19
    go_upto_region 9 with (first | (go_at_call 20; refine HEN.out.mono ?_; rintro x w1 ⟨rfl, ⟨vE, vP, vD, vO, vR, fd, fo, _, hp, hr, rfl, rfl⟩, hb, hq⟩; have HP1 := Aside0.mk hp; have HR1 := Aside0.mk hr; have HQ1 := Aside0.mk hq; have HB1 := Aside0.mk (HBa.out.trans hb); have q1 : w1.cell? ⟨w.heap.size, 1, none⟩ = some (.string t) := blk_cell HQ1.out 1; have q2 : w1.cell? ⟨B, 7, none⟩ = some (.int .i64 0) := blk_cell HP1.out 7; clear hp hr hb hq HMa HQa HBa) | (go_at_call 36; refine (HCU.out _).mono ?_; rintro x w2 ⟨rfl, n, hw2⟩; have hd := pw_below_drewN (Below.refl w1.heap.size w1) n; rw [← hw2] at hd; have HP2 := Aside0.mk (pb_below HP1.out hd); have HR2 := Aside0.mk (Rows_below HR1.out hd); have HQ2 := Aside0.mk (blk_below HQ1.out hd); have HB2 := Aside0.mk (HB1.out.trans (hd.mono (Nat.le_trans hbw HB1.out.size))); clear hd hw2 HP1 HR1 HQ1 HB1 q1 q2))
    cases k1 : (c1.toList == [114, 117, 108, 101]) with
    | true =>
      have hf := HF.out
      rw [if_pos k1] at hf
      simp only [Prod.mk.injEq] at hf
      obtain ⟨f1, f2, f3⟩ := hf
      have hC := ruleLine_calls base B P1 vE vP vD vO vR .nilFunc .nilFunc 0 c2 hc2 hlr w2 hbB (Nat.le_trans hbw HB2.out.size) HP2.out HR2.out
      rw [f1, f2, f3] at hC
      have HC := Lib.hid hC
      clear hC f1 f2 f3
      go_wp2_with (first | (go_at_call 42; refine HC.out.mono ?_; rintro x w3 ⟨rfl, hm, hb⟩; have HM3 := Aside0.mk hm; have HB3 := Aside0.mk (HB2.out.trans hb); clear hm hb))
      go_end0
      exact ⟨rfl, HM3.out, HB3.out⟩
    | false =>
    cases k2 : (c1.toList == [112, 111, 111, 108]) with
    | true =>
      have hf := HF.out
      rw [if_neg (by rw [k1]; decide), if_pos k2] at hf
      simp only [Prod.mk.injEq] at hf
      obtain ⟨f1, f2, f3⟩ := hf
      have hC := poolLine_calls base B P1 vE vP vD vO vR .nilFunc .nilFunc 0 c2 hc2 hlp w2 hbB (Nat.le_trans hbw HB2.out.size) HP2.out HR2.out
      rw [f1, f2, f3] at hC
      have HC := Lib.hid hC
      clear hC f1 f2 f3
      go_wp2_with (first | (go_at_call 43; refine HC.out.mono ?_; rintro x w3 ⟨rfl, hm, hb⟩; have HM3 := Aside0.mk hm; have HB3 := Aside0.mk (HB2.out.trans hb); clear hm hb))
      go_end0
      exact ⟨rfl, HM3.out, HB3.out⟩
    | false =>
    cases k3 : (c1.toList == [98, 117, 105, 108, 100]) with
    | true =>
      have hf := HF.out
      rw [if_neg (by rw [k1]; decide), if_neg (by rw [k2]; decide), if_pos k3] at hf
      simp only [Prod.mk.injEq] at hf
      obtain ⟨f1, f2, f3⟩ := hf
      have hC := buildLine_calls base B P1 vE vP vD vO vR 0 c2 hc2 w2 hbB (Nat.le_trans hbw HB2.out.size) HP2.out HR2.out
      rw [f2, f3] at hC
      have HC := Lib.hid hC
      subst f1
      clear hC f2 f3
      go_wp2_with (first | (go_at_call 44; refine HC.out.mono ?_; rintro x w3 ⟨rfl, hm, hb⟩; have HM3 := Aside0.mk hm; have HB3 := Aside0.mk (HB2.out.trans hb); clear hm hb))
      go_end0
      exact ⟨rfl, HM3.out, HB3.out⟩
    | false =>
    cases k4 : (c1.toList == [100, 101, 102, 97, 117, 108, 116]) with
    | true =>
      have hf := HF.out
      rw [if_neg (by rw [k1]; decide), if_neg (by rw [k2]; decide), if_neg (by rw [k3]; decide), if_pos k4] at hf
      simp only [Prod.mk.injEq] at hf
      obtain ⟨f1, f2, f3⟩ := hf
      have hC := defaultLine_calls base B P1 vE vP vD vO vR 0 c2 hc2 hld w2 hbB HP2.out HR2.out
      rw [f1, f2, f3] at hC
      have HC := Lib.hid hC
      clear hC f1 f2 f3
      go_wp2_with (first | (go_at_call 45; refine HC.out.mono ?_; rintro x w3 ⟨rfl, hm, hb⟩; have HM3 := Aside0.mk hm; have HB3 := Aside0.mk (HB2.out.trans hb); clear hm hb))
      go_end0
      exact ⟨rfl, HM3.out, HB3.out⟩
    | false =>
      have hf := HF.out
      rw [if_neg (by rw [k1]; decide), if_neg (by rw [k2]; decide), if_neg (by rw [k3]; decide), if_neg (by rw [k4]; decide)] at hf
      unfold bindFlat at hf
      have hbs := bindB_size t
      obtain ⟨⟨k, v, ok⟩, hbq⟩ : ∃ q, bindB t = q := ⟨_, rfl⟩
      have HBQ := Lib.hid hbq
      rw [hbq] at hbs hf
      clear hbq
      simp only at hbs hf
      have hv : v.size ≤ 1048576 := Nat.le_trans hbs.2 ht
      clear hbs
      have q3 : w2.cell? ⟨w.heap.size, 1, none⟩ = some (.string t) := blk_cell HQ2.out 1
      by_cases hok : needE 0 ok = 0
      · rw [if_pos hok] at hf
        simp only [Prod.mk.injEq] at hf
        obtain ⟨f1, f2, f3⟩ := hf
        obtain ⟨Ao, co, rfl⟩ := Kd.R_slice HR2.out.2.2.2.1
        have F1 := Lib.hid f1
        have F3 := Lib.hid f3
        subst f2
        clear f1 f3
        go_wp2_with (first | (go_at_call 41; refine (bind_calls B vE vP vD _ vR .nilFunc .nilFunc 0 t ht _ HP2.out).mono ?_; rw [HBQ.out]; simp only; rw [hok]; rintro x w3 ⟨rfl, hp, hk, hb⟩; have HP3 := Aside0.mk hp; have HR3 := Aside0.mk (Rows_kept HR2.out hk (apart_one HP2.out (by decide))); have HB3 := Aside0.mk (HB2.out.trans (hb base hbB)); have q4 : w3.cell? ⟨B, 7, none⟩ = some (.int .i64 0) := blk_cell HP3.out 7; have q5 : w3.cell? ⟨B, 3, none⟩ = some (.slice Ao P1.outer.length co) := blk_cell HP3.out 3; clear hp hk hb HP2 HR2 HB2 q3) | (go_at_call 46; refine (setv_calls B vE vP vD _ vR .nilFunc .nilFunc 0 base _ P1.outer P1.outer k v _ HP3.out HR3.out.2.2.2.1 HR3.out.2.2.2.1 (Nat.le_trans hbw HB3.out.size) HLO.out HLO.out (by omega) (Nat.le_trans (evalOf_size _ _ _) (by omega))).mono ?_; rw [F3.out]; rintro x w4 ⟨v', rfl, hrow, hp, hk, hb⟩; obtain ⟨A5, c5, rfl⟩ := Kd.R_slice hrow; have HP4 := Aside0.mk hp; have HR4 := Aside0.mk (Rows_kept HR3.out hk (apart_one HP3.out (by decide))); have HB4 := Aside0.mk (HB3.out.trans (hb base hbB)); have RS4 := Aside0.mk hrow; have q6 := blk_cell HP4.out 3; have q7 := blk_frozen HP4.out 3; clear hrow hp hk hb HP3 HR3 HB3 q4 q5))
        go_end0
        rw [← F1.out]
        obtain ⟨r1, r2, r3, _, r5⟩ := HR4.out
        have hk := kept_one w4 B 3 (.slice A5 (putL P1.outer k (evalOf v P1.outer P1.outer).1).length c5)
        exact ⟨rfl, ⟨vE, vP, vD, _, vR, _, _, hbB, blk_put HP4.out 3 _ rfl, Rows_kept (show Rows _ base { P1 with outer := putL P1.outer k (evalOf v P1.outer P1.outer).1 } vE vP vD (.slice A5 (putL P1.outer k (evalOf v P1.outer P1.outer).1).length c5) vR from ⟨r1, r2, r3, RS4.out, r5⟩) hk (apart_one HP4.out (by decide)), rfl, rfl⟩, HB4.out.setCell (p := ⟨B, 3, none⟩) hbB _⟩
      · rw [if_neg hok] at hf
        simp only [Prod.mk.injEq] at hf
        obtain ⟨rfl, rfl, f3⟩ := hf
        rw [f3] at hok
        have hokb : (E' == 0) = false := beq_eq_false_iff_ne.2 hok
        have F3 := Lib.hid f3
        clear f3
        go_wp2_with (first | (go_at_call 41; refine (bind_calls B vE vP vD vO vR .nilFunc .nilFunc 0 t ht _ HP2.out).mono ?_; rw [HBQ.out]; simp only; rw [F3.out]; rintro x w3 ⟨rfl, hp, hk, hb⟩; have HP3 := Aside0.mk hp; have HR3 := Aside0.mk (Rows_kept HR2.out hk (apart_one HP2.out (by decide))); have HB3 := Aside0.mk (HB2.out.trans (hb base hbB)); have q4 : w3.cell? ⟨B, 7, none⟩ = some (.int .i64 E') := blk_cell HP3.out 7; clear hp hk hb HP2 HR2 HB2 q3))
        go_end0
        exact ⟨rfl, ⟨vE, vP, vD, vO, vR, _, _, hbB, HP3.out, HR3.out, rfl, rfl⟩, HB3.out⟩
  · rw [if_neg h0]
    simp only
    have h0b : (e1 != 0) = true := bne_iff_ne.2 h0
    go_enter Tryz.func19, Tryz.ntmps19
    go_wp2_with (first | (go_at_call 20; refine HEN.out.mono ?_; rintro x w1 ⟨rfl, hm, hb, hq⟩; have HM1 := Aside0.mk hm; have HB1 := Aside0.mk (HBa.out.trans hb); obtain ⟨vE, vP, vD, vO, vR, fd, fo, _, hp, _⟩ := hm; have q2 : w1.cell? ⟨B, 7, none⟩ = some (.int .i64 e1) := blk_cell hp 7; clear hp hb hq HMa HQa HBa))
    refine bodyPost_ret (results_none rfl _ _ _) rfl ?_
    exact ⟨rfl, HM1.out, HB1.out⟩

theorem line_calls (base B : Nat) (p : Pst) (o : Opn) (d : Bool) (t : ByteArray) (ht : t.size ≤ 1048576) (w : World) (hbw : base ≤ w.heap.size) (h : Mst w base B p o 0) (hI : Inv p o) :
    Calls Tryz.prog 19 #[.pointer (some ⟨B, 0, none⟩), .agg #[.bool d, .string t]] w fun x w' => x = .returned (.tuple #[]) ∧ Mst w' base B (lineR p o d t).1 (lineR p o d t).2.1 (lineR p o d t).2.2 ∧ Below base w w' := by
  cases d with
  | true => exact lineDeep_calls base B p o t ht w hbw h hI
  | false => exact lineFlat_calls base B p o t ht w hbw h hI
end Go.Proofs.YtefheailchihaaaGreatDoor.Print

end
section
namespace Go.Proofs.YtefheailchihaaaGreatDoor.Print
open Go.RowKit Go.Lib Go.Shelf Go.Proofs.YtefheailchihaaaGreatDoorW.PrintWords Go.Proofs.YtefheailchihaaaGreatDoorW.PrintLast Go.Proofs.YtefheailchihaaaGreatDoorW.PrintMore
set_option linter.unusedVariables false
set_option linter.unusedSimpArgs false

def pst0 : Pst := ⟨[], [], [], [], []⟩
def parseGo : List S59 → Pst → Opn → Pst × Opn × Int
  | [], p, o => (p, o, 0)
  | x :: l, p, o => if (lineR p o x.f0 x.f1).2.2 = 0 then parseGo l (lineR p o x.f0 x.f1).1 (lineR p o x.f0 x.f1).2.1 else lineR p o x.f0 x.f1
def parseEnd (r : Pst × Opn × Int) : List S42 × List S44 × List ByteArray × Int :=
  if r.2.2 = 0 then (if overE r.1 r.2.1 0 = 0 then ((overP r.1 r.2.1).edges, (overP r.1 r.2.1).pools, (overP r.1 r.2.1).defs, 0) else ([], [], [], overE r.1 r.2.1 0)) else ([], [], [], r.2.2)
def parseB (s : ByteArray) : List S42 × List S44 × List ByteArray × Int := if (linesCut s).2 = 0 then parseEnd (parseGo (linesCut s).1 pst0 .none) else ([], [], [], 800)

theorem needE_zero {e : Int} {b : Bool} (h : needE e b = 0) : e = 0 ∧ b = true := by
  unfold needE at h
  split at h
  · exact absurd h (by decide)
  · rename_i hn
    cases b
    · exact absurd ⟨rfl, h⟩ hn
    · exact ⟨h, rfl⟩
theorem roomE_zero {e : Int} {b : Bool} (h : roomE e b = 0) : e = 0 ∧ b = true := by
  unfold roomE at h
  split at h
  · exact absurd h (by decide)
  · rename_i hn
    cases b
    · exact absurd ⟨rfl, h⟩ hn
    · exact ⟨h, rfl⟩
theorem tookE_zero {e c : Int} (h : tookE e c = 0) : e = 0 ∧ c = 0 := by
  obtain ⟨h1, h2⟩ := needE_zero h
  exact ⟨(roomE_zero h1).1, by simpa using h2⟩

theorem cleanGo_mem : ∀ (l kept r : List ByteArray), cleanGo kept l = some r → (∀ x ∈ r, x ∈ kept ∨ x ∈ l) ∧ r.length ≤ kept.length + l.length
  | [], kept, r, h => by
    simp only [cleanGo, Option.some.injEq] at h
    subst h
    exact ⟨fun x hx => .inl hx, by simp⟩
  | p :: l, kept, r, h => by
    unfold cleanGo at h
    split at h
    · obtain ⟨h1, h2⟩ := cleanGo_mem l kept r h
      exact ⟨fun x hx => (h1 x hx).imp id (List.mem_cons_of_mem _), by simp only [List.length_cons]; omega⟩
    split at h
    · obtain ⟨h1, h2⟩ := cleanGo_mem l _ r h
      refine ⟨fun x hx => ?_, by simp only [List.length_append, List.length_cons, List.length_nil] at h2 ⊢; omega⟩
      rcases h1 x hx with h3 | h3
      · rcases List.mem_append.1 h3 with h3 | h3
        · exact .inl h3
        · rw [List.mem_singleton.1 h3]; exact .inr List.mem_cons_self
      · exact .inr (List.mem_cons_of_mem _ h3)
    split at h
    · cases h
    · obtain ⟨h1, h2⟩ := cleanGo_mem l _ r h
      refine ⟨fun x hx => (h1 x hx).imp (fun h3 => List.mem_of_mem_take h3) (List.mem_cons_of_mem _), by simp only [List.length_take, List.length_cons] at h2 ⊢; omega⟩
theorem cleanB_size (s : ByteArray) : (cleanB s).1.size ≤ 1048576 := by
  unfold cleanB
  split
  · rename_i hm
    have hs : s.size ≤ 16 := by
      have := hm.1
      unfold nameMay at this
      simp only [Bool.and_eq_true, decide_eq_true_eq] at this
      exact this.2.1
    cases hc : cleanGo [] (splitB 47 s.data.toList) with
    | none => exact Nat.zero_le _
    | some kept =>
      simp only
      split
      · exact Nat.zero_le _
      · obtain ⟨h1, h2⟩ := cleanGo_mem _ _ _ hc
        have hk : ∀ y ∈ kept, y.size ≤ 16 := fun y hy => by
          rcases h1 y hy with h3 | h3
          · simp at h3
          · have := splitB_size 47 s.data.toList y h3
            have h5 := Lib.size_eq s
            omega
        have hl : kept.length ≤ 17 := by
          rw [splitB_len] at h2
          have h4 : s.data.toList.count 47 ≤ s.data.toList.length := List.count_le_length
          have h5 := Lib.size_eq s
          simp only [List.length_nil] at h2
          omega
        have h4 := join_le 16 kept [47] hk
        show (Lib.join (kept.map (·.data.toList)) [47]).toArray.size ≤ _
        rw [List.size_toArray]
        simp only [List.length_cons, List.length_nil] at h4
        omega
  · exact Nat.zero_le _
theorem small_clean {xs : List ByteArray} (h : Small8 xs) : Small8 (cleanOut xs) := by
  refine ⟨fun x hx => ?_, by unfold cleanOut; rw [List.length_map]; exact h.2⟩
  unfold cleanOut at hx
  obtain ⟨y, _, rfl⟩ := List.mem_map.1 hx
  exact cleanB_size y

theorem joinGo_size : ∀ (rs : List ByteArray) (line last l : ByteArray) (rest : List ByteArray), joinGo line last rs = some (l, rest) → l.size ≤ line.size + (unrows rs).length ∧ (unrows rest).length ≤ (unrows rs).length
  | [], line, last, l, rest, h => by
    unfold joinGo at h
    split at h
    · cases h
    · simp only [Option.some.injEq, Prod.mk.injEq] at h
      obtain ⟨rfl, rfl⟩ := h
      exact ⟨Nat.le_add_right _ _, Nat.le_refl _⟩
  | r :: rs, line, last, l, rest, h => by
    unfold joinGo at h
    have hu := unrows_len r rs
    split at h
    · obtain ⟨h1, h2⟩ := joinGo_size rs _ _ l rest h
      have hf := front_size r
      rw [ByteArray.size_append, ByteArray.size_extract] at h1
      exact ⟨by omega, by omega⟩
    · simp only [Option.some.injEq, Prod.mk.injEq] at h
      obtain ⟨rfl, rfl⟩ := h
      exact ⟨Nat.le_add_right _ _, Nat.le_refl _⟩
theorem linesGo_size (M : Nat) : ∀ (k : Nat) (rs : List ByteArray) (out : List S59), (unrows rs).length ≤ M → (∀ x ∈ out, x.f1.size ≤ M) → ∀ x ∈ (linesGo k rs out).1, x.f1.size ≤ M
  | 0, rs, out, _, ho => by cases rs <;> exact ho
  | _ + 1, [], out, _, ho => ho
  | k + 1, r :: rs, out, hM, ho => by
    unfold linesGo
    have hu := unrows_len r rs
    cases hj : joinGo r r rs with
    | none => intro x hx; simp at hx
    | some q =>
      obtain ⟨l, rest⟩ := q
      obtain ⟨h1, h2⟩ := joinGo_size rs r r l rest hj
      refine linesGo_size M k rest _ (by omega) (fun x hx => ?_)
      unfold addLine at hx
      split at hx
      · exact ho x hx
      · rcases List.mem_append.1 hx with hx | hx
        · exact ho x hx
        · rw [List.mem_singleton.1 hx]
          have := trim_size l
          show (trimBB l).size ≤ M
          omega
theorem lines_size (s : ByteArray) : ∀ x ∈ (linesCut s).1, x.f1.size ≤ 1048576 := by
  unfold linesCut
  split
  · rename_i hm
    unfold mayB at hm
    simp only [Bool.and_eq_true, Bool.or_eq_true, decide_eq_true_eq] at hm
    obtain ⟨h1, _, h2⟩ := hm
    have hu := rows_unrows s h2
    intro x hx
    have h3 := linesGo_size 2048 (rowsOf s).length (rowsOf s) [] (by rw [hu, ← Lib.size_eq]; exact h1) (fun x hx => by simp at hx) x hx
    omega
  · intro x hx; simp at hx
theorem idx_mem (p : Pst) (s : ByteArray) (h : 0 ≤ idxP (fun x : S116 => x.f0.toList == s.toList) p.rules) : rd_T116 p.rules (idxP (fun x : S116 => x.f0.toList == s.toList) p.rules) ∈ p.rules := by
  have hlt := idxP_lt (fun x : S116 => x.f0.toList == s.toList) p.rules
  have hl : (idxP (fun x : S116 => x.f0.toList == s.toList) p.rules).toNat < p.rules.length := by omega
  unfold rd_T116
  rw [List.getD_eq_getElem?_getD, List.getElem?_eq_getElem hl]
  exact List.getElem_mem hl
theorem inv_over {p : Pst} {o : Opn} (h : Inv p o) : Inv (overP p o) .none := by
  obtain ⟨h1, h2, h3, h4, h5, h6, h7⟩ := h
  cases o with
  | build outs ins imp ord r own =>
    refine ⟨h1, h2, h3, h4, ?_, h6, trivial⟩
    show (p.edges ++ [_]).length ≤ 16
    rw [List.length_append, List.length_singleton]
    exact h7.2.2.2.2
  | none => exact ⟨h1, h2, h3, h4, h5, h6, trivial⟩
  | rule => exact ⟨h1, h2, h3, h4, h5, h6, trivial⟩
  | pool => exact ⟨h1, h2, h3, h4, h5, h6, trivial⟩
theorem lastR_small {l : List S116} (h : ∀ x ∈ l, x.f1.size ≤ 1048576) : (lastR l).f1.size ≤ 1048576 := by
  unfold lastR
  rw [List.getD_eq_getElem?_getD]
  cases hx : l[l.length - 1]? with
  | none => exact Nat.zero_le _
  | some x => exact h x (List.mem_of_getElem? hx)
theorem inv_deep {p : Pst} {o : Opn} {k v : ByteArray} (hv : v.size ≤ 1048576) (h : Inv p o) : Inv (deepR p o k v).1 (deepR p o k v).2.1 := by
  obtain ⟨h1, h2, h3, h4, h5, h6, h7⟩ := h
  cases o with
  | none => exact ⟨h1, h2, h3, h4, h5, h6, trivial⟩
  | rule =>
    refine ⟨h1, fun x hx => ?_, ?_, h4, h5, h6, trivial⟩
    · have hx' : x ∈ p.rules.set (p.rules.length - 1) (ruleD1 p.pools (lastR p.rules) k v).1 := hx
      rcases List.mem_or_eq_of_mem_set hx' with hx' | rfl
      · exact h2 x hx'
      · have hl := lastR_small h2
        unfold ruleD1
        split
        · exact hv
        split
        · exact hl
        split
        · exact hl
        · exact hl
    · show (p.rules.set (p.rules.length - 1) _).length ≤ 8
      rw [List.length_set]
      exact h3
  | pool =>
    show Inv (poolD p 0 k v) .pool
    unfold poolD
    split
    · refine ⟨h1, h2, h3, ?_, h5, h6, trivial⟩
      show (p.pools.set (p.pools.length - 1) _).length ≤ 4
      rw [List.length_set]
      exact h4
    · exact ⟨h1, h2, h3, h4, h5, h6, trivial⟩
  | build outs ins imp ord r own =>
    obtain ⟨i1, i2, i3, i4, i5⟩ := h7
    exact ⟨h1, h2, h3, h4, h5, h6, i1, i2, long_put i3 _ _ (Nat.le_trans (evalOf_size _ _ _) (by omega)), i4, i5⟩
theorem inv_flat {p : Pst} {t : ByteArray} (ht : t.size ≤ 1048576) (h : Inv p .none) (he : (flatR p t).2.2 = 0) : Inv (flatR p t).1 (flatR p t).2.1 := by
  obtain ⟨h1, h2, h3, h4, h5, h6, _⟩ := h
  have hcs := cutC_size 32 t
  unfold flatR at he ⊢
  simp only at he ⊢
  generalize cutC 32 t = c at *
  split at he
  · rename_i hk
    rw [if_pos hk]
    have hr : ruleE p 0 c.2.1 = 0 := he
    have hl := (roomE_zero hr).2
    simp only [decide_eq_true_eq] at hl
    refine ⟨h1, fun x hx => ?_, ?_, h4, h5, h6, trivial⟩
    · have hx' : x ∈ p.rules ++ [⟨(oneW 0 c.2.1).1, ⟨#[]⟩, ⟨#[]⟩, false, false⟩] := hx
      rcases List.mem_append.1 hx' with hx' | hx'
      · exact h2 x hx'
      · rw [List.mem_singleton.1 hx']; exact Nat.zero_le _
    · show (p.rules ++ [_]).length ≤ 8
      rw [List.length_append, List.length_singleton]
      omega
  rename_i k1
  rw [if_neg k1]
  split at he
  · rename_i hk
    rw [if_pos hk]
    have hr : poolE p 0 c.2.1 = 0 := he
    have hl := (roomE_zero hr).2
    simp only [decide_eq_true_eq] at hl
    refine ⟨h1, h2, h3, ?_, h5, h6, trivial⟩
    show (p.pools ++ [_]).length ≤ 4
    rw [List.length_append, List.length_singleton]
    omega
  rename_i k2
  rw [if_neg k2]
  split at he
  · rename_i hk
    rw [if_pos hk]
    have hr : buildE2 p (buildR c.2.1) (buildE1 p 0 (buildR c.2.1)) = 0 := he
    show Inv p (buildO2 p (buildR c.2.1) (buildE1 p 0 (buildR c.2.1)))
    unfold buildE2 at hr
    unfold buildO2
    split at hr
    · rename_i h0
      rw [if_pos h0]
      have hl := (roomE_zero hr).2
      simp only [decide_eq_true_eq] at hl
      have hi := (needE_zero h0).2
      simp only [decide_eq_true_eq] at hi
      obtain ⟨s1, s2, _, _⟩ := buildR_small c.2.1 (by omega)
      exact ⟨h1, h2, h3, h4, h5, h6, small_clean s1, small_clean s2, rfl, h2 _ (idx_mem p _ hi), by omega⟩
    · rename_i h0
      exact absurd hr h0
  rename_i k3
  rw [if_neg k3]
  split at he
  · rename_i hk
    rw [if_pos hk]
    have hr : defE p 0 c.2.1 = 0 := he
    have hl := (roomE_zero hr).2
    simp only [decide_eq_true_eq] at hl
    refine ⟨h1, h2, h3, h4, h5, ?_, trivial⟩
    show (p.defs ++ cleanOut (wordsOf c.2.1)).length ≤ 8
    omega
  rename_i k4
  rw [if_neg k4]
  unfold bindFlat at he ⊢
  split at he
  · rename_i h0
    rw [if_pos h0]
    exact ⟨long_put h1 _ _ (Nat.le_trans (evalOf_size _ _ _) (by omega)), h2, h3, h4, h5, h6, trivial⟩
  · rename_i h0
    exact absurd he h0
theorem inv_line {p : Pst} {o : Opn} {d : Bool} {t : ByteArray} (ht : t.size ≤ 1048576) (h : Inv p o) (he : (lineR p o d t).2.2 = 0) : Inv (lineR p o d t).1 (lineR p o d t).2.1 := by
  unfold lineR at he ⊢
  split at he
  · rename_i hd
    rw [if_pos hd]
    unfold lineDeep at he ⊢
    split at he
    · rename_i h0
      rw [if_pos h0]
      exact inv_deep (Nat.le_trans (bindB_size t).2 ht) h
    · rename_i h0
      exact absurd he h0
  · rename_i hd
    rw [if_neg hd]
    split at he
    · rename_i h0
      rw [if_pos h0]
      exact inv_flat ht (inv_over h) he
    · rename_i h0
      exact absurd he h0
theorem inv0 : Inv pst0 .none := ⟨rfl, fun x hx => by simp [pst0] at hx, by decide, by decide, by decide, by decide, trivial⟩
end Go.Proofs.YtefheailchihaaaGreatDoor.Print

end
