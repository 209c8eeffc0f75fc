import Derived.Laws.Cover1
import Derived.BigRegion
import Derived.Test.YtefheailchihaaaGreatDoorSg11
set_option maxHeartbeats 8000000
set_option maxRecDepth 100000
set_option linter.unusedVariables false
set_option linter.unusedSimpArgs false
section
namespace Go.Proofs.YtefheailchihaaaGreatDoor.Print
open Go.RowKit Go.Lib Go.Shelf Go.Proofs.YtefheailchihaaaGreatDoorW.PrintWords Go.Proofs.YtefheailchihaaaGreatDoorW.PrintLast Go.Proofs.YtefheailchihaaaGreatDoorW.PrintMore
attribute [local go_sem ↓] Go.wp_at_zero Go.wp_at_succ
def C8 (l : List S44) : S44 := l.getD (l.length - 1) z44
def cells44 (x : S44) : List Value := [.string x.f0, .int .i64 x.f1]
theorem G6 {w : World} {base g c : Nat} {ok : Nat → Prop} {xs : List S44} (h : Kd.R k44 44 w base ok (.slice (some ⟨g, 0, none⟩) xs.length c) xs) (hn : 1 ≤ xs.length) :
 (∀ j u, (cells44 (C8 xs))[j]? = some u → w.cell? ⟨g, (xs.length - 1) * 2 + j, none⟩ = some u) ∧ (∀ j, w.frozen? ⟨g, (xs.length - 1) * 2 + j, none⟩ = false) ∧
 (∀ j u x', j < 2 → (cells44 (C8 xs)).set j u = cells44 x' → Kd.R k44 44 (w.setCell ⟨g, (xs.length - 1) * 2 + j, none⟩ u) base ok (.slice (some ⟨g, 0, none⟩) xs.length c) (xs.set (xs.length - 1) x')) := by
 obtain ⟨cs, hcl, hM, hcc, hfr⟩ := Kd.R_elem h z44 ((xs.length - 1 : Nat) : Int) (by omega) (by omega)
 have hx : xs.getD ((xs.length - 1 : Nat) : Int).toNat z44 = C8 xs := by rw [Int.toNat_natCast]; rfl
 rw [hx] at hM
 obtain rfl := k44_openM hM
 refine ⟨fun j u hj => by have := hcc j u hj; rwa [Int.toNat_natCast] at this, fun j => by have := hfr j; rwa [Int.toNat_natCast] at this, fun j u x' hj hset => ?_⟩
 have hseg := (Kd.R_seg h ((xs.length - 1 : Nat) : Int) (by omega) (by omega) (seg := [u]) (j := j) hcl hcc (show j + 1 ≤ 2 from hj) (x' := x') (okp := fun _ => False) ?_ (fun k hk => hk.elim)).1
 ·rw [Int.toNat_natCast] at hseg
  exact hseg
 ·have he : [Value.string (C8 xs).f0, .int .i64 (C8 xs).f1].take j ++ [u] ++ [Value.string (C8 xs).f0, .int .i64 (C8 xs).f1].drop (j + [u].length) = cells44 x' := by
   rw [← hset]
   show List.take j (cells44 (C8 xs)) ++ [u] ++ List.drop (j + 1) (cells44 (C8 xs)) = _
   rw [List.set_eq_take_append_cons_drop, if_pos (show j < (cells44 (C8 xs)).length from hj), List.append_assoc]
   rfl
  rw [he]
  exact k44_mkM _ _ _ _
theorem Rows_pools {w w1 : World} {base : Nat} {p : Pst} {vE vP vP' vD vO vR : Value} {S : Nat → Prop} {L : List S44} (h : Rows w base p vE vP vD vO vR) (h5 : Kd.R k44 44 w1 base (fun _ => True) vP' L) (hk : Kept w w1 S) (hS : ∀ k, S k → ∃ cells, w.heap[k]? = some (.cells cells 44 (0, 0))) : Rows w1 base { p with pools := L } vE vP' vD vO vR := by
 obtain ⟨h1, h2, h3, h4, h6⟩ := h
 have ap : ∀ {l : List Nat}, 44 ∉ l → ∀ k, S k → ∃ cells q, w.heap[k]? = some (.cells cells q (0, 0)) ∧ q ∉ l := fun hl k hk => by
  obtain ⟨cs, hc⟩ := hS k hk
  exact ⟨cs, 44, hc, hl⟩
 exact ⟨Bf h1 hk (ap (by decide)), h5, Bf h3 hk (ap (by decide)), Bf h4 hk (ap (by decide)), Bf h6 hk (ap (by decide))⟩
theorem Gf (l : List S44) (hn : 1 ≤ l.length) : l.set (l.length - 1) (C8 l) = l := by
 unfold C8
 rw [List.getD_eq_getElem?_getD, List.getElem?_eq_getElem (by omega)]
 exact List.set_getElem_self (by omega)
theorem pool_done {w : World} {base B Bp Br g c : Nat} {p : Pst} {vE vD vO vR fd fo : Value} {e : Int} {r : S44} (hbB : base ≤ B) (h : Pb w B vE (.slice (some ⟨g, 0, none⟩) p.pools.length c) vD vO vR fd fo e) (hR : Rows w base { p with pools := p.pools.set (p.pools.length - 1) r } vE (.slice (some ⟨g, 0, none⟩) p.pools.length c) vD vO vR)
 (bp : w.heap[Bp]? = some (.cells #[.pointer (some ⟨B, 0, none⟩)] 52 (0, 0))) (br : w.heap[Br]? = some (.cells #[.pointer (some ⟨g, (p.pools.length - 1) * 2, none⟩)] 118 (0, 0)))
 (hfd : fd = .func (.func 83) #[] #[.pointer (some ⟨Bp, 0, none⟩), .pointer (some ⟨Br, 0, none⟩)]) (hfo : fo = .func (.func 84) #[] #[.pointer (some ⟨Bp, 0, none⟩), .pointer (some ⟨Br, 0, none⟩)]) (hn : 1 ≤ p.pools.length) :
 Mst w base B { p with pools := p.pools.set (p.pools.length - 1) r } .pool e := by
 have hl : (p.pools.set (p.pools.length - 1) r).length = p.pools.length := List.length_set
 refine ⟨vE, _, vD, vO, vR, fd, fo, hbB, h, hR, Bp, Br, g, c, hfd, hfo, bp, ?_, ?_, ?_⟩
 ·show _ = some (Obj.cells #[Value.pointer (some ⟨g, ((p.pools.set (p.pools.length - 1) r).length - 1) * 2, none⟩)] 118 (0, 0))
  rw [hl]
  exact br
 ·show _ = Value.slice _ (p.pools.set (p.pools.length - 1) r).length _
  rw [hl]
 ·show 0 < (p.pools.set (p.pools.length - 1) r).length
  rw [hl]
  exact hn
def Fz (x : S44) (key value : ByteArray) : Bool :=
 (key.toList == [100, 101, 112, 116, 104]) && (x.f1 == 0) && ((value.size : Int) == 1) && !(Op.bytesLess value.toList [49]) && (Op.bytesLess value.toList [56] || value.toList == [56])
def poolDE (p : Pst) (e : Int) (key value : ByteArray) : Int := B9 e (Fz (C8 p.pools) key value)
def poolD (p : Pst) (e : Int) (key value : ByteArray) : Pst := if poolDE p e key value = 0 then { p with pools := p.pools.set (p.pools.length - 1) { C8 p.pools with f1 := IntKind.i64.wrap (IntKind.u8.wrap (bt value 0 - 48)) } } else p
theorem needE_false (e : Int) : ¬ B9 e false = 0 := by
 unfold B9
 split
 ·decide
 ·rename_i h
  exact fun h0 => h ⟨rfl, h0⟩
theorem deep83_calls (base B Bp Br g c : Nat) (p : Pst) (vE vD vO vR fd fo : Value) (e : Int) (key value : ByteArray) (w : World) (hbB : base ≤ B) (hbg : base ≤ g) (h : Pb w B vE (.slice (some ⟨g, 0, none⟩) p.pools.length c) vD vO vR fd fo e) (hR : Rows w base p vE (.slice (some ⟨g, 0, none⟩) p.pools.length c) vD vO vR) (hn : 1 ≤ p.pools.length)
 (bp : w.heap[Bp]? = some (.cells #[.pointer (some ⟨B, 0, none⟩)] 52 (0, 0))) (br : w.heap[Br]? = some (.cells #[.pointer (some ⟨g, (p.pools.length - 1) * 2, none⟩)] 118 (0, 0)))
 (hfd : fd = .func (.func 83) #[] #[.pointer (some ⟨Bp, 0, none⟩), .pointer (some ⟨Br, 0, none⟩)]) (hfo : fo = .func (.func 84) #[] #[.pointer (some ⟨Bp, 0, none⟩), .pointer (some ⟨Br, 0, none⟩)]) :
 Calls Tryz.prog 83 #[.string key, .string value, .pointer (some ⟨Bp, 0, none⟩), .pointer (some ⟨Br, 0, none⟩)] w fun x w' => x = .returned (.tuple #[]) ∧ Mst w' base B (poolD p e key value) .pool (poolDE p e key value) ∧ Below base w w' := by
 have hBpB : ¬ Bp = B := fun q => Du bp h (by decide) q
 have hBrB : ¬ Br = B := fun q => Du br h (by decide) q
 have hBpg : ¬ Bp = g := by
  obtain ⟨cs, hg⟩ := Da hR.2.1 (k := g) rfl
  exact fun q => Du bp hg (by decide) q
 have hBrg : ¬ Br = g := by
  obtain ⟨cs, hg⟩ := Da hR.2.1 (k := g) rfl
  exact fun q => Du br hg (by decide) q
 have hBg : ¬ B = g := by
  obtain ⟨cs, hg⟩ := Da hR.2.1 (k := g) rfl
  exact fun q => Du h hg (by decide) q
 have hbw : base ≤ w.heap.size := Nat.le_trans hbB (Nat.le_of_lt (Cq h))
 have HRW := Aa.mk hR
 have HPW := Aa.mk h
 have BPW := Aa.mk bp
 have BRW := Aa.mk br
 have HFD := Aa.mk hfd
 have HFO := Aa.mk hfo
 obtain ⟨lc, lf, _⟩ := G6 hR.2.1 hn
 have z0 : w.cell? ⟨Bp, 0, none⟩ = some (.pointer (some ⟨B, 0, none⟩)) := Ab bp 0
 have z1 : w.cell? ⟨Br, 0, none⟩ = some (.pointer (some ⟨g, (p.pools.length - 1) * 2, none⟩)) := Ab br 0
 have c1 := lc 1 _ rfl
 have hEQ : poolDE p e key value = B9 e (Fz (C8 p.pools) key value) := rfl
 have hPQ : poolD p e key value = if poolDE p e key value = 0 then { p with pools := p.pools.set (p.pools.length - 1) { C8 p.pools with f1 := IntKind.i64.wrap (IntKind.u8.wrap (bt value 0 - 48)) } } else p := rfl
 unfold Fz at hEQ
 have HEQ := Aa.mk hEQ
 have HPQ := Aa.mk hPQ
 obtain ⟨E', hE'⟩ : ∃ E', poolDE p e key value = E' := ⟨_, rfl⟩
 obtain ⟨P', hP'⟩ : ∃ P', poolD p e key value = P' := ⟨_, rfl⟩
 rw [hE'] at HEQ HPQ ⊢
 rw [hP'] at HPQ ⊢
 clear h hR bp br hfd hfo lc lf hEQ hPQ hE' hP'
 obtain ⟨r, hr⟩ : ∃ r, C8 p.pools = r := ⟨_, rfl⟩
 rw [hr] at c1 HEQ HPQ
 have HRR := Aa.mk hr
 clear hr
 obtain ⟨o, ho⟩ : ∃ o, (p.pools.length - 1) * 2 = o := ⟨_, rfl⟩
 have HOO := Aa.mk ho
 rw [ho] at z1 c1
 clear ho
 go_enter Tryz.func83, Tryz.ntmps83
 go_upto_region 0 with (fail)
 cases t0 : (key.toList == [100, 101, 112, 116, 104]) with
 | false =>
  refine sX 24 (S := fun w' => w'.cell? ⟨Bp, 0, none⟩ = some (.pointer (some ⟨B, 0, none⟩)) ∧ w'.cell? ⟨Br, 0, none⟩ = some (.pointer (some ⟨g, o, none⟩)) ∧ w'.cell? ⟨g, o + 1, none⟩ = some (.int .i64 r.f1)) (ds := [23]) ⟨z0, z1, c1⟩ (fun hHeld => ?_)
  have HPd := Aa.mk (Cf HPW.out (Below.refl _ _).drew)
  have HRd := Aa.mk (Cb HRW.out (Below.refl _ _).drew)
  have BPd := Aa.mk (Aj BPW.out (Below.refl _ _).drew)
  have BRd := Aa.mk (Aj BRW.out (Below.refl _ _).drew)
  have HBd := Aa.mk ((Below.refl base w).drew)
  generalize w.drew = wd at HPd HRd BPd BRd HBd hHeld ⊢
  refine pX 1 7 ?_
  refine pX 2 8 ?_
  refine pX 3 9 ?_
  refine qX 4 10 ?_
  refine qX 5 11 ?_
  refine qX 6 12 ?_
  refine qX 7 13 ?_
  refine qX 8 14 ?_
  refine pX 9 15 ?_
  refine pX 10 16 ?_
  refine qX 11 17 ?_
  refine qX 12 18 ?_
  refine qX 13 19 ?_
  refine pX 14 20 ?_
  refine pX 15 21 ?_
  refine qX 16 22 ?_
  refine qX 17 23 ?_
  refine pX 18 24 ?_
  refine pX 19 25 ?_
  refine qX 20 26 ?_
  refine qX 21 27 ?_
  refine pX 22 28 ?_
  refine tX 0 6 hHeld ?_
  refine lX 23 (some 29) (fun K hK => ?_)
  refine gX Tryz.func40 #[.pointer (some ⟨B, 0, none⟩), .bool false] ?_
  with_reducible refine (C6 B vE (.slice (some ⟨g, 0, none⟩) p.pools.length c) vD vO vR fd fo e false _ HPd.out).mono ?_
  rintro x w3 ⟨rfl, hp, hk, hb⟩
  refine ⟨_, rfl, ?_⟩
  have HP3 := Aa.mk hp
  have HR3 := Aa.mk (B4 HRd.out hk (Ca HPd.out (by decide)))
  have BP3 := Aa.mk (Bc BPd.out hk hBpB)
  have BR3 := Aa.mk (Bc BRd.out hk hBrB)
  have HB3 := Aa.mk (HBd.out.trans (hb base hbB))
  clear hp hk hb HPd HRd BPd BRd HBd
  refine hK.out _ _ ?_
  clear hK K
  refine nX ?_
  refine dX ?_
  have h0 := needE_false e
  have c5 : w3.cell? ⟨B, 7, none⟩ = some (.int .i64 (B9 e false)) := Ab HP3.out 7
  have y0 : w3.cell? ⟨Bp, 0, none⟩ = some (.pointer (some ⟨B, 0, none⟩)) := Ab BP3.out 0
  have hE : B9 e false = E' := by rw [HEQ.out]; simp [*]
  have HE := Aa.mk hE
  clear hE
  obtain ⟨q, hq⟩ : ∃ q, B9 e false = q := ⟨_, rfl⟩
  rw [hq] at HP3 HE h0 c5
  clear hq
  have h0b : (q == 0) = false := beq_eq_false_iff_ne.2 h0
  go_wp2_with fail
  go_end0
  refine ⟨rfl, ?_, HB3.out⟩
  have hP : { p with pools := p.pools.set (p.pools.length - 1) (C8 p.pools) } = P' := by rw [HPQ.out, if_neg (by rw [← HE.out]; exact h0), Gf _ hn]
  rw [← HE.out, ← hP]
  exact pool_done hbB HP3.out (show Rows _ _ { p with pools := p.pools.set (p.pools.length - 1) (C8 p.pools) } _ _ _ _ _ by rw [Gf _ hn]; exact HR3.out) BP3.out BR3.out HFD.out HFO.out hn
 | true =>
  cases t1 : (r.f1 == 0) with
  | false =>
   refine sX 24 (S := fun w' => w'.cell? ⟨Bp, 0, none⟩ = some (.pointer (some ⟨B, 0, none⟩)) ∧ w'.cell? ⟨Br, 0, none⟩ = some (.pointer (some ⟨g, o, none⟩)) ∧ w'.cell? ⟨g, o + 1, none⟩ = some (.int .i64 r.f1)) (ds := [23]) ⟨z0, z1, c1⟩ (fun hHeld => ?_)
   have HPd := Aa.mk (Cf HPW.out (Below.refl _ _).drew)
   have HRd := Aa.mk (Cb HRW.out (Below.refl _ _).drew)
   have BPd := Aa.mk (Aj BPW.out (Below.refl _ _).drew)
   have BRd := Aa.mk (Aj BRW.out (Below.refl _ _).drew)
   have HBd := Aa.mk ((Below.refl base w).drew)
   generalize w.drew = wd at HPd HRd BPd BRd HBd hHeld ⊢
   refine pX 1 7 ?_
   refine pX 2 8 ?_
   refine pX 3 9 ?_
   refine tX 0 6 hHeld ?_
   refine tX 4 10 hHeld ?_
   refine pX 5 11 ?_
   refine pX 6 12 ?_
   refine tX 7 13 hHeld ?_
   refine pX 8 14 ?_
   refine pX 9 15 ?_
   refine pX 10 16 ?_
   refine qX 11 17 ?_
   refine qX 12 18 ?_
   refine qX 13 19 ?_
   refine pX 14 20 ?_
   refine pX 15 21 ?_
   refine qX 16 22 ?_
   refine qX 17 23 ?_
   refine pX 18 24 ?_
   refine pX 19 25 ?_
   refine qX 20 26 ?_
   refine qX 21 27 ?_
   refine pX 22 28 ?_
   refine lX 23 (some 29) (fun K hK => ?_)
   refine gX Tryz.func40 #[.pointer (some ⟨B, 0, none⟩), .bool false] ?_
   with_reducible refine (C6 B vE (.slice (some ⟨g, 0, none⟩) p.pools.length c) vD vO vR fd fo e false _ HPd.out).mono ?_
   rintro x w3 ⟨rfl, hp, hk, hb⟩
   refine ⟨_, rfl, ?_⟩
   have HP3 := Aa.mk hp
   have HR3 := Aa.mk (B4 HRd.out hk (Ca HPd.out (by decide)))
   have BP3 := Aa.mk (Bc BPd.out hk hBpB)
   have BR3 := Aa.mk (Bc BRd.out hk hBrB)
   have HB3 := Aa.mk (HBd.out.trans (hb base hbB))
   clear hp hk hb HPd HRd BPd BRd HBd
   refine hK.out _ _ ?_
   clear hK K
   refine nX ?_
   refine dX ?_
   have h0 := needE_false e
   have c5 : w3.cell? ⟨B, 7, none⟩ = some (.int .i64 (B9 e false)) := Ab HP3.out 7
   have y0 : w3.cell? ⟨Bp, 0, none⟩ = some (.pointer (some ⟨B, 0, none⟩)) := Ab BP3.out 0
   have hE : B9 e false = E' := by rw [HEQ.out]; simp [*]
   have HE := Aa.mk hE
   clear hE
   obtain ⟨q, hq⟩ : ∃ q, B9 e false = q := ⟨_, rfl⟩
   rw [hq] at HP3 HE h0 c5
   clear hq
   have h0b : (q == 0) = false := beq_eq_false_iff_ne.2 h0
   go_wp2_with fail
   go_end0
   refine ⟨rfl, ?_, HB3.out⟩
   have hP : { p with pools := p.pools.set (p.pools.length - 1) (C8 p.pools) } = P' := by rw [HPQ.out, if_neg (by rw [← HE.out]; exact h0), Gf _ hn]
   rw [← HE.out, ← hP]
   exact pool_done hbB HP3.out (show Rows _ _ { p with pools := p.pools.set (p.pools.length - 1) (C8 p.pools) } _ _ _ _ _ by rw [Gf _ hn]; exact HR3.out) BP3.out BR3.out HFD.out HFO.out hn
  | true =>
   cases t2 : ((value.size : Int) == 1) with
   | false =>
    refine sX 24 (S := fun w' => w'.cell? ⟨Bp, 0, none⟩ = some (.pointer (some ⟨B, 0, none⟩)) ∧ w'.cell? ⟨Br, 0, none⟩ = some (.pointer (some ⟨g, o, none⟩)) ∧ w'.cell? ⟨g, o + 1, none⟩ = some (.int .i64 r.f1)) (ds := [23]) ⟨z0, z1, c1⟩ (fun hHeld => ?_)
    have HPd := Aa.mk (Cf HPW.out (Below.refl _ _).drew)
    have HRd := Aa.mk (Cb HRW.out (Below.refl _ _).drew)
    have BPd := Aa.mk (Aj BPW.out (Below.refl _ _).drew)
    have BRd := Aa.mk (Aj BRW.out (Below.refl _ _).drew)
    have HBd := Aa.mk ((Below.refl base w).drew)
    generalize w.drew = wd at HPd HRd BPd BRd HBd hHeld ⊢
    refine pX 1 7 ?_
    refine pX 2 8 ?_
    refine pX 3 9 ?_
    refine tX 0 6 hHeld ?_
    refine tX 4 10 hHeld ?_
    refine pX 5 11 ?_
    refine pX 6 12 ?_
    refine tX 7 13 hHeld ?_
    refine pX 8 14 ?_
    refine pX 9 15 ?_
    refine pX 10 16 ?_
    refine pX 11 17 ?_
    refine pX 12 18 ?_
    refine pX 13 19 ?_
    refine pX 14 20 ?_
    refine pX 15 21 ?_
    refine qX 16 22 ?_
    refine qX 17 23 ?_
    refine pX 18 24 ?_
    refine pX 19 25 ?_
    refine qX 20 26 ?_
    refine qX 21 27 ?_
    refine pX 22 28 ?_
    refine lX 23 (some 29) (fun K hK => ?_)
    refine gX Tryz.func40 #[.pointer (some ⟨B, 0, none⟩), .bool false] ?_
    with_reducible refine (C6 B vE (.slice (some ⟨g, 0, none⟩) p.pools.length c) vD vO vR fd fo e false _ HPd.out).mono ?_
    rintro x w3 ⟨rfl, hp, hk, hb⟩
    refine ⟨_, rfl, ?_⟩
    have HP3 := Aa.mk hp
    have HR3 := Aa.mk (B4 HRd.out hk (Ca HPd.out (by decide)))
    have BP3 := Aa.mk (Bc BPd.out hk hBpB)
    have BR3 := Aa.mk (Bc BRd.out hk hBrB)
    have HB3 := Aa.mk (HBd.out.trans (hb base hbB))
    clear hp hk hb HPd HRd BPd BRd HBd
    refine hK.out _ _ ?_
    clear hK K
    refine nX ?_
    refine dX ?_
    have h0 := needE_false e
    have c5 : w3.cell? ⟨B, 7, none⟩ = some (.int .i64 (B9 e false)) := Ab HP3.out 7
    have y0 : w3.cell? ⟨Bp, 0, none⟩ = some (.pointer (some ⟨B, 0, none⟩)) := Ab BP3.out 0
    have hE : B9 e false = E' := by rw [HEQ.out]; simp [*]
    have HE := Aa.mk hE
    clear hE
    obtain ⟨q, hq⟩ : ∃ q, B9 e false = q := ⟨_, rfl⟩
    rw [hq] at HP3 HE h0 c5
    clear hq
    have h0b : (q == 0) = false := beq_eq_false_iff_ne.2 h0
    go_wp2_with fail
    go_end0
    refine ⟨rfl, ?_, HB3.out⟩
    have hP : { p with pools := p.pools.set (p.pools.length - 1) (C8 p.pools) } = P' := by rw [HPQ.out, if_neg (by rw [← HE.out]; exact h0), Gf _ hn]
    rw [← HE.out, ← hP]
    exact pool_done hbB HP3.out (show Rows _ _ { p with pools := p.pools.set (p.pools.length - 1) (C8 p.pools) } _ _ _ _ _ by rw [Gf _ hn]; exact HR3.out) BP3.out BR3.out HFD.out HFO.out hn
   | true =>
    cases t3 : (Op.bytesLess value.toList [49]) with
    | true =>
     refine sX 24 (S := fun w' => w'.cell? ⟨Bp, 0, none⟩ = some (.pointer (some ⟨B, 0, none⟩)) ∧ w'.cell? ⟨Br, 0, none⟩ = some (.pointer (some ⟨g, o, none⟩)) ∧ w'.cell? ⟨g, o + 1, none⟩ = some (.int .i64 r.f1)) (ds := [23]) ⟨z0, z1, c1⟩ (fun hHeld => ?_)
     have HPd := Aa.mk (Cf HPW.out (Below.refl _ _).drew)
     have HRd := Aa.mk (Cb HRW.out (Below.refl _ _).drew)
     have BPd := Aa.mk (Aj BPW.out (Below.refl _ _).drew)
     have BRd := Aa.mk (Aj BRW.out (Below.refl _ _).drew)
     have HBd := Aa.mk ((Below.refl base w).drew)
     generalize w.drew = wd at HPd HRd BPd BRd HBd hHeld ⊢
     refine pX 1 7 ?_
     refine pX 2 8 ?_
     refine pX 3 9 ?_
     refine tX 0 6 hHeld ?_
     refine tX 4 10 hHeld ?_
     refine pX 5 11 ?_
     refine pX 6 12 ?_
     refine tX 7 13 hHeld ?_
     refine pX 8 14 ?_
     refine pX 9 15 ?_
     refine pX 10 16 ?_
     refine pX 11 17 ?_
     refine pX 12 18 ?_
     refine pX 13 19 ?_
     refine pX 14 20 ?_
     refine pX 15 21 ?_
     refine pX 16 22 ?_
     refine pX 17 23 ?_
     refine pX 18 24 ?_
     refine pX 19 25 ?_
     refine qX 20 26 ?_
     refine qX 21 27 ?_
     refine pX 22 28 ?_
     refine lX 23 (some 29) (fun K hK => ?_)
     refine gX Tryz.func40 #[.pointer (some ⟨B, 0, none⟩), .bool false] ?_
     with_reducible refine (C6 B vE (.slice (some ⟨g, 0, none⟩) p.pools.length c) vD vO vR fd fo e false _ HPd.out).mono ?_
     rintro x w3 ⟨rfl, hp, hk, hb⟩
     refine ⟨_, rfl, ?_⟩
     have HP3 := Aa.mk hp
     have HR3 := Aa.mk (B4 HRd.out hk (Ca HPd.out (by decide)))
     have BP3 := Aa.mk (Bc BPd.out hk hBpB)
     have BR3 := Aa.mk (Bc BRd.out hk hBrB)
     have HB3 := Aa.mk (HBd.out.trans (hb base hbB))
     clear hp hk hb HPd HRd BPd BRd HBd
     refine hK.out _ _ ?_
     clear hK K
     refine nX ?_
     refine dX ?_
     have h0 := needE_false e
     have c5 : w3.cell? ⟨B, 7, none⟩ = some (.int .i64 (B9 e false)) := Ab HP3.out 7
     have y0 : w3.cell? ⟨Bp, 0, none⟩ = some (.pointer (some ⟨B, 0, none⟩)) := Ab BP3.out 0
     have hE : B9 e false = E' := by rw [HEQ.out]; simp [*]
     have HE := Aa.mk hE
     clear hE
     obtain ⟨q, hq⟩ : ∃ q, B9 e false = q := ⟨_, rfl⟩
     rw [hq] at HP3 HE h0 c5
     clear hq
     have h0b : (q == 0) = false := beq_eq_false_iff_ne.2 h0
     go_wp2_with fail
     go_end0
     refine ⟨rfl, ?_, HB3.out⟩
     have hP : { p with pools := p.pools.set (p.pools.length - 1) (C8 p.pools) } = P' := by rw [HPQ.out, if_neg (by rw [← HE.out]; exact h0), Gf _ hn]
     rw [← HE.out, ← hP]
     exact pool_done hbB HP3.out (show Rows _ _ { p with pools := p.pools.set (p.pools.length - 1) (C8 p.pools) } _ _ _ _ _ by rw [Gf _ hn]; exact HR3.out) BP3.out BR3.out HFD.out HFO.out hn
    | false =>
     refine sX 24 (S := fun w' => w'.cell? ⟨Bp, 0, none⟩ = some (.pointer (some ⟨B, 0, none⟩)) ∧ w'.cell? ⟨Br, 0, none⟩ = some (.pointer (some ⟨g, o, none⟩)) ∧ w'.cell? ⟨g, o + 1, none⟩ = some (.int .i64 r.f1)) (ds := [23]) ⟨z0, z1, c1⟩ (fun hHeld => ?_)
     have HPd := Aa.mk (Cf HPW.out (Below.refl _ _).drew)
     have HRd := Aa.mk (Cb HRW.out (Below.refl _ _).drew)
     have BPd := Aa.mk (Aj BPW.out (Below.refl _ _).drew)
     have BRd := Aa.mk (Aj BRW.out (Below.refl _ _).drew)
     have HBd := Aa.mk ((Below.refl base w).drew)
     generalize w.drew = wd at HPd HRd BPd BRd HBd hHeld ⊢
     refine pX 1 7 ?_
     refine pX 2 8 ?_
     refine pX 3 9 ?_
     refine tX 0 6 hHeld ?_
     refine tX 4 10 hHeld ?_
     refine pX 5 11 ?_
     refine pX 6 12 ?_
     refine tX 7 13 hHeld ?_
     refine pX 8 14 ?_
     refine pX 9 15 ?_
     refine pX 10 16 ?_
     refine pX 11 17 ?_
     refine pX 12 18 ?_
     refine pX 13 19 ?_
     refine pX 14 20 ?_
     refine pX 15 21 ?_
     refine pX 16 22 ?_
     refine pX 17 23 ?_
     refine pX 18 24 ?_
     refine pX 19 25 ?_
     refine pX 20 26 ?_
     refine pX 21 27 ?_
     refine pX 22 28 ?_
     refine lX 23 (some 29) (fun K hK => ?_)
     refine gX Tryz.func40 #[.pointer (some ⟨B, 0, none⟩), .bool (Op.bytesLess value.toList [56] || value.toList == [56])] ?_
     with_reducible refine (C6 B vE (.slice (some ⟨g, 0, none⟩) p.pools.length c) vD vO vR fd fo e (Op.bytesLess value.toList [56] || value.toList == [56]) _ HPd.out).mono ?_
     rintro x w3 ⟨rfl, hp, hk, hb⟩
     refine ⟨_, rfl, ?_⟩
     have HP3 := Aa.mk hp
     have HR3 := Aa.mk (B4 HRd.out hk (Ca HPd.out (by decide)))
     have BP3 := Aa.mk (Bc BPd.out hk hBpB)
     have BR3 := Aa.mk (Bc BRd.out hk hBrB)
     have HB3 := Aa.mk (HBd.out.trans (hb base hbB))
     clear hp hk hb HPd HRd BPd BRd HBd
     refine hK.out _ _ ?_
     clear hK K
     refine nX ?_
     refine dX ?_
     have hE : B9 e (Op.bytesLess value.toList [56] || value.toList == [56]) = E' := by rw [HEQ.out]; simp [*]
     have HE := Aa.mk hE
     clear hE
     obtain ⟨q, hq⟩ : ∃ q, B9 e (Op.bytesLess value.toList [56] || value.toList == [56]) = q := ⟨_, rfl⟩
     rw [hq] at HP3 HE
     clear hq
     have c5 : w3.cell? ⟨B, 7, none⟩ = some (.int .i64 q) := Ab HP3.out 7
     have y0 : w3.cell? ⟨Bp, 0, none⟩ = some (.pointer (some ⟨B, 0, none⟩)) := Ab BP3.out 0
     by_cases h0 : q = 0
     ·subst h0
      have y1 : w3.cell? ⟨Br, 0, none⟩ = some (.pointer (some ⟨g, o, none⟩)) := by have := Ab BR3.out 0; rw [HOO.out] at this; exact this
      have hsz0 : (value.size : Int) = 1 := by simpa using t2
      have hsz : value.size = 1 := by omega
      have hs1 : 0 < value.size := by omega
      have hs2 : (0 : Int) < value.size := by omega
      clear hsz hsz0
      go_upto_region 2 with (fail)
      refine sX 8 (S := fun w' => w'.cell? ⟨Br, 0, none⟩ = some (.pointer (some ⟨g, o, none⟩))) (ds := [7]) (y1) (fun hHeld => ?_)
      have HPd := Aa.mk (Cf HP3.out (Below.refl _ _).drew)
      have HRd := Aa.mk (Cb HR3.out (Below.refl _ _).drew)
      have BPd := Aa.mk (Aj BP3.out (Below.refl _ _).drew)
      have BRd := Aa.mk (Aj BR3.out (Below.refl _ _).drew)
      have HBd := Aa.mk (HB3.out.drew)
      obtain ⟨lc, lf, lset⟩ := G6 HRd.out.2.1 hn
      rw [HRR.out, HOO.out] at lc
      rw [HOO.out] at lf lset
      rw [HRR.out] at lset
      have y2 := lc 1 _ rfl
      have y3 := lf 1
      have LS := Aa.mk (lset 1 (.int .i64 (IntKind.i64.wrap (IntKind.u8.wrap (bt value 0 - 48)))) { r with f1 := IntKind.i64.wrap (IntKind.u8.wrap (bt value 0 - 48)) } (by decide) rfl)
      clear lc lf lset y0 y1 c5
      generalize w3.drew = wq at HPd HRd BPd BRd HBd LS y2 y3 hHeld ⊢
      clear HP3 HR3 BP3 BR3 HB3
      refine pX 1 36 ?_
      refine tX 0 35 hHeld ?_
      refine tX 2 37 hHeld ?_
      refine pX 3 38 ?_
      refine pX 4 39 ?_
      refine pX 5 40 ?_
      refine pX 6 41 ?_
      refine lX 7 none (fun K hK => ?_)
      refine kX ?_
      refine hK.out _ _ ?_
      clear hK K
      refine dX ?_
      go_end0
      obtain ⟨Z, hZ⟩ : ∃ Z, IntKind.i64.wrap (IntKind.u8.wrap (bt value 0 - 48)) = Z := ⟨_, rfl⟩
      have hZ2 : wrap64 (IntKind.u8.wrap (((value[0]'hs1).toNat : Int) - 48)) = Z := by rw [← hZ, G8, bt_zero value hs1]
      rw [hZ2]
      rw [hZ] at LS HPQ
      have hk := Bm wq g (o + 1) (.int .i64 Z)
      refine ⟨rfl, ?_, HBd.out.setCell (p := ⟨g, o + 1, none⟩) hbg _⟩
      have hP : { p with pools := p.pools.set (p.pools.length - 1) { r with f1 := Z } } = P' := by rw [HPQ.out, if_pos HE.out.symm]
      rw [← HE.out, ← hP]
      exact pool_done hbB (E9 HPd.out hBg _) (Rows_pools HRd.out LS.out hk (fun k hk => by have hk' : k = g := hk; subst hk'; exact Da HRd.out.2.1 rfl)) (Bc BPd.out hk hBpg) (Bc BRd.out hk hBrg) HFD.out HFO.out hn
     ·have h0b : (q == 0) = false := beq_eq_false_iff_ne.2 h0
      go_wp2_with fail
      go_end0
      refine ⟨rfl, ?_, HB3.out⟩
      have hP : { p with pools := p.pools.set (p.pools.length - 1) (C8 p.pools) } = P' := by rw [HPQ.out, if_neg (by rw [← HE.out]; exact h0), Gf _ hn]
      rw [← HE.out, ← hP]
      exact pool_done hbB HP3.out (show Rows _ _ { p with pools := p.pools.set (p.pools.length - 1) (C8 p.pools) } _ _ _ _ _ by rw [Gf _ hn]; exact HR3.out) BP3.out BR3.out HFD.out HFO.out hn
abbrev Bl := List ByteArray × ByteArray × List ByteArray × List ByteArray × List ByteArray × Int
def Im (p : Pst) (b : Bl) (e : Int) : Opn := if e = 0 then .build (Bz b.1) (Bz b.2.2.1) (Bz b.2.2.2.1) (Bz b.2.2.2.2.1) (Eh p.rules (idxP (fun x : S116 => x.f0.toList == b.2.1.toList) p.rules)) [] else .none
def Io (p : Pst) (b : Bl) (e : Int) : Int := if e = 0 then Gr (Dm (Dm (Dm (Dm e b.1) b.2.2.1) b.2.2.2.1) b.2.2.2.2.1) (decide ((p.edges.length : Int) < 16)) else e
def Ip (p : Pst) (e : Int) (b : Bl) : Int := B9 (Db e b.2.2.2.2.2) (decide (0 ≤ idxP (fun x : S116 => x.f0.toList == b.2.1.toList) p.rules))
def buildO (p : Pst) (e : Int) (s : ByteArray) : Opn := Im p (Cr s) (Ip p e (Cr s))
def Hv (p : Pst) (e : Int) (s : ByteArray) : Int := Io p (Cr s) (Ip p e (Cr s))
def F4 (xs : List ByteArray) : Prop := (∀ x ∈ xs, x.size ≤ 1048576) ∧ xs.length ≤ 1048577
theorem Fy {xs : List ByteArray} (h : F4 xs) : ∀ x ∈ xs, x.size ≤ 1048576 := h.1
theorem E0 {xs : List ByteArray} (h : F4 xs) : xs.length ≤ 1048577 := h.2
theorem Hj {xs ys : List ByteArray} (h : F4 ys) (hs : xs.Sublist ys) : F4 xs := ⟨fun x hx => h.1 x (hs.subset hx), Nat.le_trans hs.length_le h.2⟩
theorem Ed (s : ByteArray) (hs : s.size ≤ 1048576) : F4 (Cj s) := by
 refine ⟨fun x hx => ?_, by have := wordsOf_len s; omega⟩
 have hx' : x ∈ splitB 32 s.data.toList := by
  unfold Cj at hx
  exact (List.mem_filter.1 hx).1
 have := splitB_size 32 s.data.toList x hx'
 rw [Lib.size_eq] at hs
 omega
theorem part_sub (ws : List ByteArray) (s : ByteArray) : ((E7 ws s).1.Sublist ws) ∧ ((E7 ws s).2.1.Sublist ws) := by
 unfold E7
 split
 ·exact ⟨(List.take_sublist _ _).trans (List.drop_sublist _ _), (List.drop_sublist _ _).trans (List.drop_sublist _ _)⟩
 ·exact ⟨List.nil_sublist _, List.Sublist.refl _⟩
theorem buildR_small (s : ByteArray) (hs : s.size ≤ 1048576) : F4 (Cr s).1 ∧ F4 (Cr s).2.2.1 ∧ F4 (Cr s).2.2.2.1 ∧ F4 (Cr s).2.2.2.2.1 := by
 have hw := Ed s hs
 have h0 : F4 [] := ⟨fun x hx => by simp at hx, by simp⟩
 cases hb : buildB s with
 | none => rw [show Cr s = ([], ⟨#[]⟩, [], [], [], 700) by unfold Cr; rw [hb]]; exact ⟨h0, h0, h0, h0⟩
 | some t =>
  obtain ⟨a, b, c, d, e⟩ := t
  rw [show Cr s = (a, b, c, d, e, 0) by unfold Cr; rw [hb]]
  unfold buildB at hb
  simp only at hb
  split at hb
  ·simp at hb
  split at hb
  ·simp at hb
  split at hb
  ·simp at hb
  rename_i r ws3 hd
  split at hb
  ·simp at hb
  split at hb
  ·simp at hb
  simp only [Option.some.injEq, Prod.mk.injEq] at hb
  obtain ⟨rfl, rfl, rfl, rfl, rfl⟩ := hb
  have s3 : ws3.Sublist (Cj s) := ((List.sublist_cons_self r ws3).trans (hd ▸ List.drop_sublist _ _)).trans (List.drop_sublist _ _)
  have sd : (ws3.drop (Cm ws3)).Sublist (Cj s) := (List.drop_sublist _ _).trans s3
  exact ⟨Hj hw (List.take_sublist _ _), Hj hw ((List.take_sublist _ _).trans s3), Hj hw ((part_sub _ _).1.trans sd), Hj hw ((part_sub _ _).1.trans ((part_sub _ _).2.trans sd))⟩
theorem idxP_lt {α : Type} (f : α → Bool) (l : List α) : idxP f l < l.length := by
 have h : ∀ (l : List α) (k : Nat), Dy f l k < (k + l.length : Nat) := by
  intro l
  induction l with
  | nil => intro k; unfold Dy; simp; omega
  | cons x l ih =>
   intro k
   unfold Dy
   split
   ·simp; omega
   ·have := ih (k + 1); simp only [List.length_cons]; omega
 have := h l 0
 simpa [idxP] using this
theorem vs_off {a b k B : Nat} (hk : b ≤ k) (hB : B < a) (hab : a ≤ b) : k ≠ B := by omega
theorem row_new {α β : Type} {d : Kd α} {d' : Kd β} {e t base : Nat} {ok ok' : Nat → Prop} {W w1 : World} {v vD : Value} {xs : List α} {ys : List β} (h : d.R e w1 W.heap.size ok v xs) (hD : d'.R t W base ok' vD ys) (hb : base ≤ W.heap.size) : d.R e w1 base (fun k => some k ≠ vD.ownBlock) v xs :=
 Kd.Dv (Kd.De (Kd.Ex h) (fun k hk he => by have := Kd.R_lt hD k he.symm; have := hk.2.1; omega)) hb
theorem buildLine_calls (base B : Nat) (p : Pst) (vE vP vD vO vR : Value) (e : Int) (s : ByteArray) (hs : s.size ≤ 1048576) (w : World) (hbB : base ≤ B) (hbw : base ≤ w.heap.size) (h : Pb w B vE vP vD vO vR .nilFunc .nilFunc e) (hR : Rows w base p vE vP vD vO vR) :
 Calls Tryz.prog 44 #[.pointer (some ⟨B, 0, none⟩), .string s] w fun x w' => x = .returned (.tuple #[]) ∧ Mst w' base B p (buildO p e s) (Hv p e s) ∧ Below base w w' := by
 have hmf : ∀ (fn : Fn) (first cap : Array Value) (w : World), (Instr.makeFunc fn first cap).run Tryz.prog w = .ok (.func fn first cap) w := fun _ _ _ _ => rfl
 obtain ⟨A, c, rfl, _⟩ := Kd.Dl hR.2.2.2.2
 have hB := Cq h
 have hneBP : ¬ w.heap.size = B := by omega
 have H := Aa.mk h
 have HR := Aa.mk hR
 clear h hR
 have hBu := buildR_small s hs
 have hEq : Hv p e s = _ := rfl
 have hOq : buildO p e s = _ := rfl
 rw [show Hv p e s = Io p (Cr s) (B9 (Db e (Cr s).2.2.2.2.2) (decide (0 ≤ idxP (fun x : S116 => x.f0.toList == (Cr s).2.1.toList) p.rules))) from rfl, show buildO p e s = Im p (Cr s) (B9 (Db e (Cr s).2.2.2.2.2) (decide (0 ≤ idxP (fun x : S116 => x.f0.toList == (Cr s).2.1.toList) p.rules))) from rfl]
 have HBC := Lib.hid (build_calls s hs (w.alloc (.cells #[.pointer (some ⟨B, 0, none⟩)] 52)))
 clear hEq hOq
 obtain ⟨⟨b1, b2, b3, b4, b5, b6⟩, hb⟩ : ∃ b, Cr s = b := ⟨_, rfl⟩
 rw [hb] at hBu HBC ⊢
 clear hb
 simp only at hBu HBC ⊢
 obtain ⟨I, hI⟩ : ∃ I, idxP (fun x : S116 => x.f0.toList == b2.toList) p.rules = I := ⟨_, rfl⟩
 have hIlt := idxP_lt (fun x : S116 => x.f0.toList == b2.toList) p.rules
 rw [hI] at hIlt ⊢
 have HI := Lib.hid hI
 clear hI
 obtain ⟨e1, he1⟩ : ∃ e1, Db e b6 = e1 := ⟨_, rfl⟩
 rw [he1]
 have HE1 := Lib.hid he1
 clear he1
 obtain ⟨e2, he2⟩ : ∃ e2, B9 e1 (decide (0 ≤ I)) = e2 := ⟨_, rfl⟩
 rw [he2]
 have HE2 := Lib.hid he2
 have hI0 : e2 = 0 → 0 ≤ I := fun h0 => by
  rw [h0] at he2
  by_cases hi : 0 ≤ I
  ·exact hi
  ·rw [decide_eq_false hi] at he2
   exact absurd he2 (needE_false e1)
 clear he2
 have HBU := Aa.mk hBu
 clear hBu
 obtain ⟨O', hO'⟩ : ∃ O', Im p (b1, b2, b3, b4, b5, b6) e2 = O' := ⟨_, rfl⟩
 obtain ⟨E', hE'⟩ : ∃ E', Io p (b1, b2, b3, b4, b5, b6) e2 = E' := ⟨_, rfl⟩
 rw [hO', hE']
 have HO := Lib.hid hO'
 have HE := Lib.hid hE'
 clear hO' hE'
 go_enter Tryz.func44, Tryz.ntmps44
 have HA := Aa.mk ((Below.refl w.heap.size w).alloc (Nat.le_refl _) (.cells #[.pointer (some ⟨B, 0, none⟩)] 52))
 have BPa := Aa.mk (Cv w (.cells #[.pointer (some ⟨B, 0, none⟩)] 52))
 have HPa := Aa.mk (Cf H.out HA.out)
 have HRa := Aa.mk (Cb HR.out HA.out)
 have HBa := Aa.mk (HA.out.mono hbw)
 have hsza : w.heap.size ≤ (w.alloc (.cells #[.pointer (some ⟨B, 0, none⟩)] 52)).heap.size := HA.out.size
 clear HA H HR
 go_upto_region 6 with (first | (go_at_call 85; refine HBC.out.mono ?_; rintro x w1 ⟨zO, zI, zM, zR, rfl, h1, h2, h3, h4, hb⟩; have HP1 := Aa.mk (Cf HPa.out hb); have HR1 := Aa.mk (Cb HRa.out hb); have BP1 := Aa.mk (Aj BPa.out hb); have HB1 := Aa.mk (HBa.out.trans (hb.mono (Nat.le_trans hbw hsza))); have VO1 := Aa.mk (Vs_mono h1 (fun k hk => vs_off hk hB hsza)); have VI1 := Aa.mk (Vs_mono h2 (fun k hk => vs_off hk hB hsza)); have VM1 := Aa.mk (Vs_mono h3 (fun k hk => vs_off hk hB hsza)); have VR1 := Aa.mk (Vs_mono h4 (fun k hk => vs_off hk hB hsza)); clear h1 h2 h3 h4 hb HPa HRa BPa HBa hsza; have q1 : w1.cell? ⟨w.heap.size, 0, none⟩ = some (.pointer (some ⟨B, 0, none⟩)) := Ab BP1.out 0; obtain ⟨AO, cO, rfl, _, _⟩ := Fh VO1.out; obtain ⟨AI, cI, rfl, _, _⟩ := Fh VI1.out; obtain ⟨AM, cM, rfl, _, _⟩ := Fh VM1.out; obtain ⟨AR, cR, rfl, _, _⟩ := Fh VR1.out) | (go_at_call 86; refine (took_calls B vE vP vD vO (.slice A p.rules.length c) .nilFunc .nilFunc e b6 _ HP1.out).mono ?_; rw [HE1.out]; rintro x w2 ⟨rfl, hp, hk, hb⟩; have HP2 := Aa.mk hp; have HR2 := Aa.mk (B4 HR1.out hk (Ca HP1.out (by decide))); have BP2 := Aa.mk (Bc BP1.out hk hneBP); have VO2 := Aa.mk (Fa VO1.out hk (fun k h1 h2 => h1 h2)); have VI2 := Aa.mk (Fa VI1.out hk (fun k h1 h2 => h1 h2)); have VM2 := Aa.mk (Fa VM1.out hk (fun k h1 h2 => h1 h2)); have VR2 := Aa.mk (Fa VR1.out hk (fun k h1 h2 => h1 h2)); have HB2 := Aa.mk (HB1.out.trans (hb base hbB)); clear hp hk hb HP1 HR1 HB1 BP1 VO1 VI1 VM1 VR1; have q2 : w2.cell? ⟨w.heap.size, 0, none⟩ = some (.pointer (some ⟨B, 0, none⟩)) := Ab BP2.out 0) | (go_at_call 78; refine (pfind_calls B vE vP vD vO _ .nilFunc .nilFunc e1 A c p.rules b2 _ HP2.out rfl (Kd.R_reads' HR2.out.2.2.2.2).2.2).mono ?_; rw [HI.out]; rintro x w3 ⟨rfl, hb⟩; have HP3 := Aa.mk (Cf HP2.out hb); have HR3 := Aa.mk (Cb HR2.out hb); have BP3 := Aa.mk (Aj BP2.out hb); have HB3 := Aa.mk (HB2.out.trans (hb.mono (Nat.le_trans hbw HB2.out.size))); have VO3 := Aa.mk (Dz VO2.out hb); have VI3 := Aa.mk (Dz VI2.out hb); have VM3 := Aa.mk (Dz VM2.out hb); have VR3 := Aa.mk (Dz VR2.out hb); clear hb HP2 HR2 BP2 HB2 VO2 VI2 VM2 VR2 q2; have q3 : w3.cell? ⟨w.heap.size, 0, none⟩ = some (.pointer (some ⟨B, 0, none⟩)) := Ab BP3.out 0) | (go_at_call 40; refine (C6 B vE vP vD vO (.slice A p.rules.length c) .nilFunc .nilFunc e1 (decide (0 ≤ I)) _ HP3.out).mono ?_; rw [HE2.out]; rintro x w4 ⟨rfl, hp, hk, hb⟩; have HP4 := Aa.mk hp; have HR4 := Aa.mk (B4 HR3.out hk (Ca HP3.out (by decide))); have BP4 := Aa.mk (Bc BP3.out hk hneBP); have VO4 := Aa.mk (Fa VO3.out hk (fun k h1 h2 => h1 h2)); have VI4 := Aa.mk (Fa VI3.out hk (fun k h1 h2 => h1 h2)); have VM4 := Aa.mk (Fa VM3.out hk (fun k h1 h2 => h1 h2)); have VR4 := Aa.mk (Fa VR3.out hk (fun k h1 h2 => h1 h2)); have HB4 := Aa.mk (HB3.out.trans (hb base hbB)); clear hp hk hb HP3 HR3 HB3 BP3 VO3 VI3 VM3 VR3; have q4 : w4.cell? ⟨w.heap.size, 0, none⟩ = some (.pointer (some ⟨B, 0, none⟩)) := Ab BP4.out 0; have q5 : w4.cell? ⟨B, 7, none⟩ = some (.int .i64 e2) := Ab HP4.out 7; clear q3))
 ·rename_i hne0
  refine bodyPost_ret (results_none rfl _ _ _) rfl ?_
  have h0 : ¬ e2 = 0 := by simpa using hne0
  refine ⟨rfl, ?_, HB4.out⟩
  rw [← HO.out, ← HE.out]
  unfold Im Io
  rw [if_neg h0, if_neg h0]
  exact ⟨_, _, _, _, _, _, _, hbB, HP4.out, HR4.out, rfl, rfl⟩
 ·obtain rfl : e2 = 0 := by
   have hne0 : (e2 != 0) = false := by assumption
   simpa using hne0
  have hIp : 0 ≤ I := hI0 rfl
  have q6 : w4.cell? ⟨B, 4, none⟩ = some (.slice A p.rules.length c) := Ab HP4.out 4
  obtain ⟨ad, rfl, r0, r1, r2, r3, r4⟩ := at_T116 (Kd.R_reads' HR4.out.2.2.2.2).2.2 I hIp hIlt
  have hrd : Eh p.rules (idxP (fun x : S116 => x.f0.toList == b2.toList) p.rules) = Eh p.rules I := by rw [HI.out]
  have hO2 := HO.out
  have hE2 := HE.out
  unfold Im at hO2
  unfold Io at hE2
  rw [if_pos rfl] at hO2 hE2
  simp only at hO2 hE2
  rw [hrd] at hO2
  clear hrd HO HE
  obtain ⟨r, hr⟩ : ∃ r, Eh p.rules I = r := ⟨_, rfl⟩
  rw [hr] at r0 r1 r2 r3 r4 hO2
  clear hr
  have HO := Lib.hid hO2
  have HE := Lib.hid hE2
  clear hO2 hE2
  go_upto_region 7 with (fail)
  have hbw4 : base ≤ w4.heap.size := Nat.le_trans hbw HB4.out.size
  have hXB0 : ¬ w4.heap.size = B := by have := Cq HP4.out; omega
  have hBB0 : ¬ w4.heap.size + 1 = B := by have := Cq HP4.out; omega
  have hD4 := HR4.out.2.2.1
  obtain ⟨X, hX⟩ : ∃ X, w4.heap.size = X := ⟨_, rfl⟩
  rw [hX] at hXB0 hBB0 ⊢
  have HA5 := Aa.mk (((Below.refl w4.heap.size w4).alloc (Nat.le_refl _) (.cells #[.slice none 0 0, .slice none 0 0, .slice none 0 0, .slice none 0 0, .string ⟨#[]⟩, .bool false, .string ⟨#[]⟩, .string r.f0, .string r.f1, .string r.f2, .bool r.f3, .bool r.f4, .slice none 0 0] 124)).alloc (by simp) (.cells #[.pointer (some ⟨X, 0, none⟩)] 122))
  have BX5 := Aa.mk (Cw (Cv w4 (.cells #[.slice none 0 0, .slice none 0 0, .slice none 0 0, .slice none 0 0, .string ⟨#[]⟩, .bool false, .string ⟨#[]⟩, .string r.f0, .string r.f1, .string r.f2, .bool r.f3, .bool r.f4, .slice none 0 0] 124)) (.cells #[.pointer (some ⟨X, 0, none⟩)] 122))
  have BB5 := Aa.mk (Cv (w4.alloc (.cells #[.slice none 0 0, .slice none 0 0, .slice none 0 0, .slice none 0 0, .string ⟨#[]⟩, .bool false, .string ⟨#[]⟩, .string r.f0, .string r.f1, .string r.f2, .bool r.f3, .bool r.f4, .slice none 0 0] 124)) (.cells #[.pointer (some ⟨X, 0, none⟩)] 122))
  have hsz5 : (w4.alloc (.cells #[.slice none 0 0, .slice none 0 0, .slice none 0 0, .slice none 0 0, .string ⟨#[]⟩, .bool false, .string ⟨#[]⟩, .string r.f0, .string r.f1, .string r.f2, .bool r.f3, .bool r.f4, .slice none 0 0] 124)).heap.size = X + 1 := by rw [← hX]; simp
  rw [hsz5] at BB5
  rw [hX] at BX5
  clear hsz5
  generalize (w4.alloc (.cells #[.slice none 0 0, .slice none 0 0, .slice none 0 0, .slice none 0 0, .string ⟨#[]⟩, .bool false, .string ⟨#[]⟩, .string r.f0, .string r.f1, .string r.f2, .bool r.f3, .bool r.f4, .slice none 0 0] 124)).alloc (.cells #[.pointer (some ⟨X, 0, none⟩)] 122) = w5 at HA5 BX5 BB5 ⊢
  have HP5 := Aa.mk (Cf HP4.out HA5.out)
  have HR5 := Aa.mk (Cb HR4.out HA5.out)
  have BP5 := Aa.mk (Aj BP4.out HA5.out)
  have HB5 := Aa.mk (HB4.out.trans (HA5.out.mono hbw4))
  have VO5 := Aa.mk (Dz VO4.out HA5.out)
  have VI5 := Aa.mk (Dz VI4.out HA5.out)
  have VM5 := Aa.mk (Dz VM4.out HA5.out)
  have VR5 := Aa.mk (Dz VR4.out HA5.out)
  have hXbase : base ≤ X := by omega
  clear HP4 HR4 BP4 HB4 HA5 VO4 VI4 VM4 VR4 q4 q5 q6 r0 r1 r2 r3 r4 hD4 hX
  generalize X + 1 = Bx at BB5 hBB0 ⊢
  refine sX 27 (S := fun w' => w'.cell? ⟨w.heap.size, 0, none⟩ = some (.pointer (some ⟨B, 0, none⟩)) ∧ w'.cell? ⟨Bx, 0, none⟩ = some (.pointer (some ⟨X, 0, none⟩)) ∧ w'.cell? ⟨X, 10, none⟩ = some (.bool r.f3) ∧ w'.cell? ⟨X, 9, none⟩ = some (.string r.f2)) (ds := [26]) ⟨Ab BP5.out 0, Ab BB5.out 0, Ab BX5.out 10, Ab BX5.out 9⟩ (fun hHeld => ?_)
  have hdd := (Below.refl w5.heap.size w5).drew
  have HPd := Aa.mk (Cf HP5.out hdd)
  have HRd := Aa.mk (Cb HR5.out hdd)
  have BPd := Aa.mk (Aj BP5.out hdd)
  have BBd := Aa.mk (Aj BB5.out hdd)
  have BXd := Aa.mk (Aj BX5.out hdd)
  have HBd := Aa.mk (HB5.out.drew)
  have VOd := Aa.mk (Dz VO5.out hdd)
  have VId := Aa.mk (Dz VI5.out hdd)
  have VMd := Aa.mk (Dz VM5.out hdd)
  have VRd := Aa.mk (Dz VR5.out hdd)
  clear hdd
  generalize w5.drew = wd at HPd HRd BPd BBd BXd HBd VOd VId VMd VRd hHeld ⊢
  clear HP5 HR5 BP5 BB5 BX5 HB5 VO5 VI5 VM5 VR5
  refine pX 2 47 ?_
  refine pX 5 50 ?_
  refine pX 8 53 ?_
  refine pX 11 56 ?_
  refine tX 0 45 hHeld ?_
  refine tX 1 46 hHeld ?_
  refine tX 4 49 hHeld ?_
  refine tX 7 52 hHeld ?_
  refine tX 10 55 hHeld ?_
  refine tX 13 58 hHeld ?_
  refine pX 14 59 ?_
  refine pX 15 60 ?_
  refine pX 16 61 ?_
  refine tX 17 62 hHeld ?_
  refine tX 18 63 hHeld ?_
  refine pX 19 64 ?_
  refine pX 20 65 ?_
  refine pX 21 66 ?_
  refine tX 22 67 hHeld ?_
  refine oX 3 (some 48) (fun K hK => ?_)
  refine gX Tryz.func87 #[.pointer (some ⟨B, 0, none⟩), .slice AO b1.length cO] ?_
  with_reducible refine (If B vE vP vD vO (.slice (some ad) p.rules.length c) .nilFunc .nilFunc 0 _ b1 (Fy HBU.out.1) (E0 HBU.out.1) _ HPd.out VOd.out).mono ?_
  rintro x w6 ⟨v6, rfl, hrow, hp, hk, hb⟩
  refine ⟨_, rfl, ?_⟩
  obtain ⟨A6, c6, rfl⟩ := Kd.Bd hrow
  skip
  have RO6 := Aa.mk (row_new hrow HRd.out.2.2.1 (Nat.le_trans hbw HBd.out.size))
  have HP6 := Aa.mk hp
  have HR6 := Aa.mk (B4 HRd.out hk (Ca HPd.out (by decide)))
  have BP6 := Aa.mk (Bc BPd.out hk hneBP)
  have BB6 := Aa.mk (Bc BBd.out hk hBB0)
  have BX6 := Aa.mk (Bc BXd.out hk hXB0)
  have HB6 := Aa.mk (HBd.out.trans (hb base hbB))
  have VI6 := Aa.mk (Fa VId.out hk (fun k h1 h2 => h1 h2))
  have VM6 := Aa.mk (Fa VMd.out hk (fun k h1 h2 => h1 h2))
  have VR6 := Aa.mk (Fa VRd.out hk (fun k h1 h2 => h1 h2))
  clear hrow hp hk hb HPd HRd BPd BBd BXd HBd VOd VId VMd VRd
  refine hK.out _ _ ⟨Ab BP6.out 0, Ab BB6.out 0, Ab BX6.out 10, Ab BX6.out 9⟩ (fun hHeld => ?_)
  clear hK K
  refine nX ?_
  refine oX 6 (some 51) (fun K hK => ?_)
  refine gX Tryz.func87 #[.pointer (some ⟨B, 0, none⟩), .slice AI b3.length cI] ?_
  with_reducible refine (If B vE vP vD vO (.slice (some ad) p.rules.length c) .nilFunc .nilFunc (Dm 0 b1) _ b3 (Fy HBU.out.2.1) (E0 HBU.out.2.1) _ HP6.out VI6.out).mono ?_
  rintro x w7 ⟨v7, rfl, hrow, hp, hk, hb⟩
  refine ⟨_, rfl, ?_⟩
  obtain ⟨A7, c7, rfl⟩ := Kd.Bd hrow
  skip
  have RI7 := Aa.mk (row_new hrow HR6.out.2.2.1 (Nat.le_trans hbw HB6.out.size))
  have RO7 := Aa.mk (Bf RO6.out hk (Dj HP6.out (by decide)))
  have HP7 := Aa.mk hp
  have HR7 := Aa.mk (B4 HR6.out hk (Ca HP6.out (by decide)))
  have BP7 := Aa.mk (Bc BP6.out hk hneBP)
  have BB7 := Aa.mk (Bc BB6.out hk hBB0)
  have BX7 := Aa.mk (Bc BX6.out hk hXB0)
  have HB7 := Aa.mk (HB6.out.trans (hb base hbB))
  have VM7 := Aa.mk (Fa VM6.out hk (fun k h1 h2 => h1 h2))
  have VR7 := Aa.mk (Fa VR6.out hk (fun k h1 h2 => h1 h2))
  clear hrow hp hk hb HP6 HR6 BP6 BB6 BX6 HB6 VI6 VM6 VR6 RO6
  refine hK.out _ _ ⟨Ab BP7.out 0, Ab BB7.out 0, Ab BX7.out 10, Ab BX7.out 9⟩ (fun hHeld => ?_)
  clear hK K
  refine nX ?_
  refine oX 9 (some 54) (fun K hK => ?_)
  refine gX Tryz.func87 #[.pointer (some ⟨B, 0, none⟩), .slice AM b4.length cM] ?_
  with_reducible refine (If B vE vP vD vO (.slice (some ad) p.rules.length c) .nilFunc .nilFunc (Dm (Dm 0 b1) b3) _ b4 (Fy HBU.out.2.2.1) (E0 HBU.out.2.2.1) _ HP7.out VM7.out).mono ?_
  rintro x w8 ⟨v8, rfl, hrow, hp, hk, hb⟩
  refine ⟨_, rfl, ?_⟩
  obtain ⟨A8, c8, rfl⟩ := Kd.Bd hrow
  skip
  have RM8 := Aa.mk (row_new hrow HR7.out.2.2.1 (Nat.le_trans hbw HB7.out.size))
  have RO8 := Aa.mk (Bf RO7.out hk (Dj HP7.out (by decide)))
  have RI8 := Aa.mk (Bf RI7.out hk (Dj HP7.out (by decide)))
  have HP8 := Aa.mk hp
  have HR8 := Aa.mk (B4 HR7.out hk (Ca HP7.out (by decide)))
  have BP8 := Aa.mk (Bc BP7.out hk hneBP)
  have BB8 := Aa.mk (Bc BB7.out hk hBB0)
  have BX8 := Aa.mk (Bc BX7.out hk hXB0)
  have HB8 := Aa.mk (HB7.out.trans (hb base hbB))
  have VR8 := Aa.mk (Fa VR7.out hk (fun k h1 h2 => h1 h2))
  clear hrow hp hk hb HP7 HR7 BP7 BB7 BX7 HB7 VM7 VR7 RO7 RI7
  refine hK.out _ _ ⟨Ab BP8.out 0, Ab BB8.out 0, Ab BX8.out 10, Ab BX8.out 9⟩ (fun hHeld => ?_)
  clear hK K
  refine nX ?_
  refine oX 12 (some 57) (fun K hK => ?_)
  refine gX Tryz.func87 #[.pointer (some ⟨B, 0, none⟩), .slice AR b5.length cR] ?_
  with_reducible refine (If B vE vP vD vO (.slice (some ad) p.rules.length c) .nilFunc .nilFunc (Dm (Dm (Dm 0 b1) b3) b4) _ b5 (Fy HBU.out.2.2.2) (E0 HBU.out.2.2.2) _ HP8.out VR8.out).mono ?_
  rintro x w9 ⟨v9, rfl, hrow, hp, hk, hb⟩
  refine ⟨_, rfl, ?_⟩
  obtain ⟨A9, c9, rfl⟩ := Kd.Bd hrow
  skip
  have RR9 := Aa.mk (row_new hrow HR8.out.2.2.1 (Nat.le_trans hbw HB8.out.size))
  have RO9 := Aa.mk (Bf RO8.out hk (Dj HP8.out (by decide)))
  have RI9 := Aa.mk (Bf RI8.out hk (Dj HP8.out (by decide)))
  have RM9 := Aa.mk (Bf RM8.out hk (Dj HP8.out (by decide)))
  have HP9 := Aa.mk hp
  have HR9 := Aa.mk (B4 HR8.out hk (Ca HP8.out (by decide)))
  have BP9 := Aa.mk (Bc BP8.out hk hneBP)
  have BB9 := Aa.mk (Bc BB8.out hk hBB0)
  have BX9 := Aa.mk (Bc BX8.out hk hXB0)
  have HB9 := Aa.mk (HB8.out.trans (hb base hbB))
  clear hrow hp hk hb HP8 HR8 BP8 BB8 BX8 HB8 VR8 RO8 RI8 RM8
  refine hK.out _ _ ⟨Ab BP9.out 0, Ab BB9.out 0, Ab BX9.out 10, Ab BX9.out 9⟩ (fun hHeld => ?_)
  clear hK K
  refine nX ?_
  refine pX 23 68 ?_
  refine pX 24 69 ?_
  refine pX 25 70 ?_
  refine lX 26 none (fun K hK => ?_)
  have x0 : w9.frozen? ⟨X, 0, none⟩ = false := As BX9.out 0
  have x1 : w9.frozen? ⟨X, 1, none⟩ = false := As BX9.out 1
  have x2 : w9.frozen? ⟨X, 2, none⟩ = false := As BX9.out 2
  have x3 : w9.frozen? ⟨X, 3, none⟩ = false := As BX9.out 3
  have x4 : w9.frozen? ⟨X, 4, none⟩ = false := As BX9.out 4
  have x5 : w9.frozen? ⟨X, 5, none⟩ = false := As BX9.out 5
  have x6 : w9.frozen? ⟨X, 6, none⟩ = false := As BX9.out 6
  have y0 := Ab BX9.out 0
  have y1 := Ab BX9.out 1
  have y2 := Ab BX9.out 2
  have y3 := Ab BX9.out 3
  have y4 := Ab BX9.out 4
  have y5 := Ab BX9.out 5
  have y6 := Ab BX9.out 6
  refine kX ?_
  refine hK.out _ _ ?_
  clear hK K
  refine dX ?_
  have hk10 : Kept w9 (((((((w9.setCell ⟨X, 0, none⟩ (.slice A6 (Bz b1).length c6)).setCell ⟨X, 1, none⟩ (.slice A7 (Bz b3).length c7)).setCell ⟨X, 2, none⟩ (.slice A8 (Bz b4).length c8)).setCell ⟨X, 3, none⟩ (.slice A9 (Bz b5).length c9)).setCell ⟨X, 4, none⟩ (.string ⟨#[]⟩)).setCell ⟨X, 5, none⟩ (.bool r.f3)).setCell ⟨X, 6, none⟩ (.string r.f2)) (fun k => k = X) := (Kept.then_ (Kept.then_ (Kept.then_ (Kept.then_ (Kept.then_ (Kept.then_ (Bm w9 X 0 (.slice A6 (Bz b1).length c6)) (Bm _ X 1 (.slice A7 (Bz b3).length c7)) (fun k hk => .inl hk)) (Bm _ X 2 (.slice A8 (Bz b4).length c8)) (fun k hk => .inl hk)) (Bm _ X 3 (.slice A9 (Bz b5).length c9)) (fun k hk => .inl hk)) (Bm _ X 4 (.string ⟨#[]⟩)) (fun k hk => .inl hk)) (Bm _ X 5 (.bool r.f3)) (fun k hk => .inl hk)) (Bm _ X 6 (.string r.f2)) (fun k hk => .inl hk))
  have BX10 := Aa.mk (Az (Az (Az (Az (Az (Az (Az BX9.out 0 (.slice A6 (Bz b1).length c6) rfl) 1 (.slice A7 (Bz b3).length c7) rfl) 2 (.slice A8 (Bz b4).length c8) rfl) 3 (.slice A9 (Bz b5).length c9) rfl) 4 (.string ⟨#[]⟩) rfl) 5 (.bool r.f3) rfl) 6 (.string r.f2) rfl)
  have HB10 : Aa (Below base w (((((((w9.setCell ⟨X, 0, none⟩ (.slice A6 (Bz b1).length c6)).setCell ⟨X, 1, none⟩ (.slice A7 (Bz b3).length c7)).setCell ⟨X, 2, none⟩ (.slice A8 (Bz b4).length c8)).setCell ⟨X, 3, none⟩ (.slice A9 (Bz b5).length c9)).setCell ⟨X, 4, none⟩ (.string ⟨#[]⟩)).setCell ⟨X, 5, none⟩ (.bool r.f3)).setCell ⟨X, 6, none⟩ (.string r.f2))) := ⟨(Below.setCell (Below.setCell (Below.setCell (Below.setCell (Below.setCell (Below.setCell (Below.setCell HB9.out (p := ⟨X, 0, none⟩) hXbase (.slice A6 (Bz b1).length c6)) (p := ⟨X, 1, none⟩) hXbase (.slice A7 (Bz b3).length c7)) (p := ⟨X, 2, none⟩) hXbase (.slice A8 (Bz b4).length c8)) (p := ⟨X, 3, none⟩) hXbase (.slice A9 (Bz b5).length c9)) (p := ⟨X, 4, none⟩) hXbase (.string ⟨#[]⟩)) (p := ⟨X, 5, none⟩) hXbase (.bool r.f3)) (p := ⟨X, 6, none⟩) hXbase (.string r.f2))⟩
  generalize (((((((w9.setCell ⟨X, 0, none⟩ (.slice A6 (Bz b1).length c6)).setCell ⟨X, 1, none⟩ (.slice A7 (Bz b3).length c7)).setCell ⟨X, 2, none⟩ (.slice A8 (Bz b4).length c8)).setCell ⟨X, 3, none⟩ (.slice A9 (Bz b5).length c9)).setCell ⟨X, 4, none⟩ (.string ⟨#[]⟩)).setCell ⟨X, 5, none⟩ (.bool r.f3)).setCell ⟨X, 6, none⟩ (.string r.f2)) = w10 at hk10 BX10 HB10 ⊢
  have HXX := Aa.mk (fun (l : List Nat) (hl : 124 ∉ l) (k : Nat) (hk : k = X) => (by subst hk; exact ⟨_, 124, BX9.out, hl⟩ : ∃ cells q, w9.heap[k]? = some (.cells cells q (0, 0)) ∧ q ∉ l))
  have HP10 := Aa.mk (show Pb w10 B _ _ _ _ _ _ _ _ from Bc HP9.out hk10 (fun q => hXB0 q.symm))
  have HR10 := Aa.mk (B4 HR9.out hk10 (HXX.out [42, 9, 44, 174, 116] (by decide)))
  have hXP : ¬ w.heap.size = X := Du BP9.out BX9.out (by decide)
  have hXBx : ¬ Bx = X := Du BB9.out BX9.out (by decide)
  have BP10 := Aa.mk (Bc BP9.out hk10 hXP)
  have BB10 := Aa.mk (Bc BB9.out hk10 hXBx)
  have RO10 := Aa.mk (Bf RO9.out hk10 (HXX.out [9] (by decide)))
  have RI10 := Aa.mk (Bf RI9.out hk10 (HXX.out [9] (by decide)))
  have RM10 := Aa.mk (Bf RM9.out hk10 (HXX.out [9] (by decide)))
  have RR10 := Aa.mk (Bf RR9.out hk10 (HXX.out [9] (by decide)))
  clear hk10 HXX HP9 HR9 BP9 BB9 BX9 HB9 RO9 RI9 RM9 RR9
  obtain ⟨Ae, ce, rfl, _⟩ := Kd.Dl HR10.out.1
  generalize (Dm (Dm (Dm (Dm 0 b1) b3) b4) b5) = e6 at HP10 HE
  generalize Bz b1 = l1 at RO10 HO BX10 ⊢
  generalize Bz b3 = l3 at RI10 HO BX10 ⊢
  generalize Bz b4 = l4 at RM10 HO BX10 ⊢
  generalize Bz b5 = l5 at RR10 HO BX10 ⊢
  clear HBC HE2 HE1 HBU hHeld
  go_upto_region 8 with (fail)
  refine sX 9 (S := fun w' => w'.cell? ⟨w.heap.size, 0, none⟩ = some (.pointer (some ⟨B, 0, none⟩)) ∧ w'.cell? ⟨B, 0, none⟩ = some (.slice Ae p.edges.length ce)) (ds := [8]) ⟨Ab BP10.out 0, Ab HP10.out 0⟩ (fun hHeld => ?_)
  have hdd := (Below.refl w10.heap.size w10).drew
  have HPe := Aa.mk (Cf HP10.out hdd)
  have HRe := Aa.mk (Cb HR10.out hdd)
  have BPe := Aa.mk (Aj BP10.out hdd)
  have BBe := Aa.mk (Aj BB10.out hdd)
  have BXe := Aa.mk (Aj BX10.out hdd)
  have HBe := Aa.mk (HB10.out.drew)
  have ROe := Aa.mk (Kd.Bj RO10.out hdd)
  have RIe := Aa.mk (Kd.Bj RI10.out hdd)
  have RMe := Aa.mk (Kd.Bj RM10.out hdd)
  have RRe := Aa.mk (Kd.Bj RR10.out hdd)
  clear hdd
  generalize w10.drew = we at HPe HRe BPe BBe BXe HBe ROe RIe RMe RRe hHeld ⊢
  clear HP10 HR10 BP10 BB10 BX10 HB10 RO10 RI10 RM10 RR10
  refine tX 0 71 hHeld ?_
  refine tX 1 72 hHeld ?_
  refine pX 2 73 ?_
  refine pX 3 74 ?_
  refine pX 4 75 ?_
  refine tX 5 76 hHeld ?_
  refine pX 6 77 ?_
  refine pX 7 78 ?_
  refine lX 8 (some 79) (fun K hK => ?_)
  refine gX Tryz.func79 #[.pointer (some ⟨B, 0, none⟩), .bool (decide ((p.edges.length : Int) < 16))] ?_
  with_reducible refine (room_calls B (.slice Ae p.edges.length ce) vP vD vO (.slice (some ad) p.rules.length c) .nilFunc .nilFunc e6 (decide ((p.edges.length : Int) < 16)) _ HPe.out).mono ?_
  rintro x w11 ⟨rfl, hp, hk, hb⟩
  refine ⟨_, rfl, ?_⟩
  have HPf := Aa.mk hp
  have HRf := Aa.mk (B4 HRe.out hk (Ca HPe.out (by decide)))
  have BPf := Aa.mk (Bc BPe.out hk hneBP)
  have BBf := Aa.mk (Bc BBe.out hk hBB0)
  have BXf := Aa.mk (Bc BXe.out hk hXB0)
  have HBf := Aa.mk (HBe.out.trans (hb base hbB))
  have ROf := Aa.mk (Bf ROe.out hk (Dj HPe.out (by decide)))
  have RIf := Aa.mk (Bf RIe.out hk (Dj HPe.out (by decide)))
  have RMf := Aa.mk (Bf RMe.out hk (Dj HPe.out (by decide)))
  have RRf := Aa.mk (Bf RRe.out hk (Dj HPe.out (by decide)))
  clear hp hk hb HPe HRe BPe BBe BXe HBe ROe RIe RMe RRe
  refine hK.out _ _ ?_
  clear hK K
  refine nX ?_
  refine dX ?_
  rw [HE.out] at HPf
  have hq1 : w11.cell? ⟨w.heap.size, 0, none⟩ = some (.pointer (some ⟨B, 0, none⟩)) := Ab BPf.out 0
  have hq4 : w11.cell? ⟨B, 5, none⟩ = some .nilFunc := Ab HPf.out 5
  have hq5 : w11.cell? ⟨B, 6, none⟩ = some .nilFunc := Ab HPf.out 6
  have hq2 := As HPf.out 5
  have hq3 := As HPf.out 6
  go_wp2_with fail
  go_end0
  have k1 := Bm w11 B 5 (.func (.func 88) #[] #[.pointer (some ⟨w.heap.size, 0, none⟩), .pointer (some ⟨Bx, 0, none⟩)])
  have p1 : Pb _ B (.slice Ae p.edges.length ce) vP vD vO (.slice (some ad) p.rules.length c) (.func (.func 88) #[] #[.pointer (some ⟨w.heap.size, 0, none⟩), .pointer (some ⟨Bx, 0, none⟩)]) .nilFunc _ := Az HPf.out 5 _ rfl
  have k2 := Kept.then_ k1 (Bm (w11.setCell ⟨B, 5, none⟩ (.func (.func 88) #[] #[.pointer (some ⟨w.heap.size, 0, none⟩), .pointer (some ⟨Bx, 0, none⟩)])) B 6 (.func (.func 89) #[] #[.pointer (some ⟨w.heap.size, 0, none⟩), .pointer (some ⟨Bx, 0, none⟩)])) (fun k hk => .inl hk)
  have a1 := Ca HPf.out (by decide)
  have t1 := Dj HPf.out (l := [9]) (by decide)
  rw [← HO.out]
  exact ⟨rfl, ⟨_, _, _, _, _, _, _, hbB, Az p1 6 _ rfl, B4 HRf.out k2 a1, ⟨w.heap.size, Bx, X, _, _, _, _, _, rfl, rfl, Bc BPf.out k2 hneBP, Bc BBf.out k2 hBB0, hXbase, Bc BXf.out k2 hXB0, Bf ROf.out k2 t1, Bf RIf.out k2 t1, Bf RMf.out k2 t1, Bf RRf.out k2 t1, Kd.Di _ _ _ _ _⟩⟩, (HBf.out.setCell (p := ⟨B, 5, none⟩) hbB _).setCell (p := ⟨B, 6, none⟩) hbB _⟩
theorem join_small {xs : List ByteArray} (h : F4 xs) : (Lib.join (xs.map (·.data.toList)) [32]).length ≤ 140737488355328 := by
 have h1 := join_le 1048576 xs [32] (Fy h)
 have h2 := E0 h
 simp only [List.length_cons, List.length_nil] at h1
 omega
theorem join_calls (v : Value) (base : Nat) (ok : Nat → Prop) (xs : List ByteArray) (w : World) (hx : F4 xs) (hR : Kd.R Kd.string 9 w base ok v xs) :
 Calls Tryz.prog 117 #[v, .string ⟨#[32]⟩] w fun e w' => e = .returned (.string (Em xs ⟨#[32]⟩)) ∧ Below w.heap.size w w' := by
 by_cases h0 : 0 < xs.length
 ·obtain ⟨g, c, rfl, hg, hlt, _⟩ := Kd.Gy hR h0
  obtain ⟨_, hc, hC⟩ := Kd.R_reads' hR
  refine Tryz.strings_Join g 0 c xs ⟨#[32]⟩ w (fun j x hj => ?_) hlt (by have := E0 hx; omega) hc (join_small hx)
  obtain ⟨hl, rfl⟩ := List.getElem?_eq_some_iff.1 hj
  obtain ⟨ad, ha, f0⟩ := Kd.Ct hC (j : Int) (by omega) (by omega)
  injection ha with ha
  subst ha
  rw [Ie xs j hl] at f0
  cases j with
  | zero => simpa [Addr.add] using f0
  | succ j => simpa [Addr.add] using f0
 ·obtain rfl : xs = [] := List.length_eq_zero_iff.1 (by omega)
  obtain ⟨A, c, rfl⟩ := Kd.Bd hR
  refine (Tryz.strings_Join_none A c ⟨#[32]⟩ w).mono ?_
  rintro e w' ⟨rfl, rfl⟩
  exact ⟨rfl, Below.refl _ _⟩
theorem joinB_size {xs : List ByteArray} (h : F4 xs) : (Em xs ⟨#[32]⟩).size ≤ 9223372036854775807 := by
 have h1 := join_small h
 show (Lib.join (xs.map (·.data.toList)) [32]).toArray.size ≤ _
 rw [List.size_toArray]
 omega
theorem Gt (s : ByteArray) (l1 l2 : List S174) : (C3 s l1 l2).1.size ≤ 256 := by
 unfold C3
 split
 ·split
  ·rename_i h
   show (Ew l1 l2 (Gn s).1).toArray.size ≤ _
   rw [List.size_toArray]
   exact h
  ·exact Nat.zero_le _
 ·exact Nat.zero_le _
theorem long_put {l : List S174} (h : Ei l = true) (s t : ByteArray) (ht : t.size ≤ 9223372036854775807) : Ei (putL l s t) = true := by
 unfold putL
 split
 ·unfold Cn
  split
  ·unfold setIn
   unfold Ei at h ⊢
   rw [List.all_eq_true] at h
   split
   ·rw [List.all_eq_true]
    intro x hx
    rcases List.mem_or_eq_of_mem_set hx with hx | rfl
    ·exact h x hx
    ·exact decide_eq_true ht
   ·split
    ·rfl
    ·rw [List.all_eq_true]
     intro x hx
     rcases List.mem_append.1 hx with hx | hx
     ·exact h x hx
     ·rw [List.mem_singleton.1 hx]
      exact decide_eq_true ht
  ·rfl
 ·exact h
theorem row_not {w : World} {base base' : Nat} {ok ok' : Nat → Prop} {v vE : Value} {xs : List ByteArray} {ys : List S42} (h : Kd.R Kd.string 9 w base ok v xs) (hE : Kd.R k42 42 w base' ok' vE ys) : Kd.R Kd.string 9 w base (fun k => ok k ∧ some k ≠ vE.ownBlock) v xs :=
 Kd.De (Kd.Ex h) (fun k hk => ⟨hk.1, fun he => by
  obtain ⟨_, _, _, q, hq, cells, hc⟩ := hk
  obtain ⟨cells2, hc2⟩ := Da hE he.symm
  rw [hc] at hc2
  simp only [Option.some.injEq, Obj.cells.injEq] at hc2
  have h9 : q = 9 := by simpa [Kd.string, Kd.scalar] using hq
  have h42 := hc2.2.1
  exact absurd (h9.symm.trans h42) (by decide)⟩)
theorem infoD42 : (Tryz.prog.info? 42).map (fun i => (i.zero, i.size, i.bytes)) = some (some (.agg #[.slice none 0 0, .slice none 0 0, .slice none 0 0, .slice none 0 0, .string ⟨#[]⟩, .bool false, .string ⟨#[]⟩]), 7, 136) := by kernel_rfl
def sIn : ByteArray := ⟨#[105, 110]⟩
def sOut : ByteArray := ⟨#[111, 117, 116]⟩
def Ii (ins : List ByteArray) (own : List S174) : List S174 := putL own sIn (Em ins ⟨#[32]⟩)
def finS2 (outs ins : List ByteArray) (own : List S174) : List S174 := putL (Ii ins own) sOut (Em outs ⟨#[32]⟩)
def finC (outer : List S174) (outs ins : List ByteArray) (r : S116) (own : List S174) : ByteArray × Int := C3 r.f1 (finS2 outs ins own) outer
def finE (outer : List S174) (outs ins : List ByteArray) (r : S116) (own : List S174) (e : Int) : Int :=
 B9 (Db (Db (Db e (Cn own sIn (Em ins ⟨#[32]⟩)).2) (Cn (Ii ins own) sOut (Em outs ⟨#[32]⟩)).2) (finC outer outs ins r own).2) (!(finC outer outs ins r own).1.toList.isEmpty)
def finP (p : Pst) (outs ins imp ord : List ByteArray) (r : S116) (own : List S174) : Pst := { p with edges := p.edges ++ [⟨outs, ins, imp, ord, (finC p.outer outs ins r own).1, r.f3, r.f2⟩] }
def Mrows (w : World) (base B : Nat) (p : Pst) (fd fo : Value) (e : Int) : Prop := ∃ vE vP vD vO vR, base ≤ B ∧ Pb w B vE vP vD vO vR fd fo e ∧ Rows w base p vE vP vD vO vR
theorem finish_calls (base B X : Nat) (p : Pst) (vE vP vD vO vR fd fo v0 v1 v2 v3 vS : Value) (e : Int) (outs ins imp ord : List ByteArray) (r : S116) (own : List S174) (w : World) (hbB : base ≤ B) (hbX : base ≤ X) (h : Pb w B vE vP vD vO vR fd fo e) (hR : Rows w base p vE vP vD vO vR)
 (hX : w.heap[X]? = some (.cells #[v0, v1, v2, v3, .string ⟨#[]⟩, .bool r.f3, .string r.f2, .string r.f0, .string r.f1, .string r.f2, .bool r.f3, .bool r.f4, vS] 124 (0, 0)))
 (h0 : Kd.R Kd.string 9 w base (fun k => some k ≠ vD.ownBlock) v0 outs) (h1 : Kd.R Kd.string 9 w base (fun k => some k ≠ vD.ownBlock) v1 ins) (h2 : Kd.R Kd.string 9 w base (fun k => some k ≠ vD.ownBlock) v2 imp) (h3 : Kd.R Kd.string 9 w base (fun k => some k ≠ vD.ownBlock) v3 ord) (hS : Kd.R k174 174 w base (fun _ => True) vS own)
 (sO : F4 outs) (sI : F4 ins) (lS : Ei own = true) (lO : Ei p.outer = true) (hr : r.f1.size ≤ 9223372036854775807) (hlen : p.edges.length ≤ 1048576) (Q tq : Nat) (cq : Array Value) (hQ : w.heap[Q]? = some (.cells cq tq (0, 0))) (htq : (tq == 57) = false ∧ (tq == 124) = false ∧ (42 == tq) = false) :
 Calls Tryz.prog 90 #[.pointer (some ⟨B, 0, none⟩), .pointer (some ⟨X, 0, none⟩)] w fun x w' => x = .returned (.tuple #[]) ∧ Mrows w' base B (finP p outs ins imp ord r own) fd fo (finE p.outer outs ins r own e) ∧ Below base w w' ∧ w'.heap[Q]? = some (.cells cq tq (0, 0)) := by
 have hQB : ¬ Q = B := fun q => Du hQ h htq.1 q
 have hQX : ¬ Q = X := fun q => Du hQ hX htq.2.1 q
 have BQa := Aa.mk hQ
 clear hQ
 have hXB : ¬ X = B := fun q => Du hX h (by decide) q
 have hBX : ¬ B = X := fun q => hXB q.symm
 have hbw : base ≤ w.heap.size := Nat.le_trans hbB (Nat.le_of_lt (Cq h))
 obtain ⟨A0, c0, rfl⟩ := Kd.Bd h0
 obtain ⟨A1, c1, rfl⟩ := Kd.Bd h1
 obtain ⟨A2, c2, rfl⟩ := Kd.Bd h2
 obtain ⟨A3, c3, rfl⟩ := Kd.Bd h3
 obtain ⟨AS, cS, rfl⟩ := Kd.Bd hS
 obtain ⟨Ae, ce, rfl⟩ := Kd.Bd hR.1
 obtain ⟨Ao, co, rfl⟩ := Kd.Bd hR.2.2.2.1
 have jI := joinB_size sI
 have jO := joinB_size sO
 have l1 := long_put lS sIn (Em ins ⟨#[32]⟩) jI
 have l2 := long_put l1 sOut (Em outs ⟨#[32]⟩) jO
 have hfp : finP p outs ins imp ord r own = { p with edges := p.edges ++ [⟨outs, ins, imp, ord, (finC p.outer outs ins r own).1, r.f3, r.f2⟩] } := rfl
 have hfe : finE p.outer outs ins r own e = B9 (Db (Db (Db e (Cn own sIn (Em ins ⟨#[32]⟩)).2) (Cn (Ii ins own) sOut (Em outs ⟨#[32]⟩)).2) (finC p.outer outs ins r own).2) (!(finC p.outer outs ins r own).1.toList.isEmpty) := rfl
 have hfc : finC p.outer outs ins r own = C3 r.f1 (finS2 outs ins own) p.outer := rfl
 have hsz : (finC p.outer outs ins r own).1.size ≤ 256 := Gt _ _ _
 obtain ⟨P', hP'⟩ : ∃ q, finP p outs ins imp ord r own = q := ⟨_, rfl⟩
 obtain ⟨E', hE'⟩ : ∃ q, finE p.outer outs ins r own e = q := ⟨_, rfl⟩
 rw [hP'] at hfp ⊢
 rw [hE'] at hfe ⊢
 obtain ⟨⟨cmd, ec⟩, hc⟩ : ∃ q, finC p.outer outs ins r own = q := ⟨_, rfl⟩
 rw [hc] at hfp hfe hfc hsz
 obtain ⟨L, hLL⟩ : ∃ L, p.edges ++ [(⟨outs, ins, imp, ord, (cmd, ec).1, r.f3, r.f2⟩ : S42)] = L := ⟨_, rfl⟩
 rw [hLL] at hfp
 simp only at hLL
 have HLL := Lib.hid hLL
 clear hLL
 have HFP := Lib.hid hfp
 have HFE := Lib.hid hfe
 have HFC := Lib.hid hfc
 clear hfp hfe hfc hP' hE' hc
 simp only at HFP HFE hsz
 have HSO := Aa.mk sO
 have HSI := Aa.mk sI
 have HL := Aa.mk lS
 have HLO := Aa.mk lO
 have HL1 : Aa (Ei (Ii ins own) = true) := ⟨l1⟩
 have HL2 : Aa (Ei (finS2 outs ins own) = true) := ⟨l2⟩
 have HJI := Aa.mk jI
 have HJO := Aa.mk jO
 have HPa := Aa.mk h
 have HRa := Aa.mk hR
 have BXa := Aa.mk hX
 have HBa := Aa.mk (Below.refl base w)
 have ROa := Aa.mk h0
 have RIa := Aa.mk h1
 have RMa := Aa.mk h2
 have RRa := Aa.mk h3
 have RSa := Aa.mk hS
 clear h hR hX h0 h1 h2 h3 hS sO sI lS lO l1 l2 jI jO
 go_enter Tryz.func90, Tryz.ntmps90
 go_upto_region 0 with (fail)
 refine sX 16 (S := fun w' => w'.cell? ⟨X, 12, none⟩ = some (.slice AS own.length cS) ∧ w'.cell? ⟨X, 1, none⟩ = some (.slice A1 ins.length c1)) (ds := [15]) ⟨Ab BXa.out 12, Ab BXa.out 1⟩ (fun hHeld => ?_)
 have hb := (Below.refl w.heap.size w).drew
 have HPpb := Aa.mk (Cf HPa.out hb)
 have HRpb := Aa.mk (Cb HRa.out hb)
 have BXpb := Aa.mk (Aj BXa.out hb)
 have BQpb := Aa.mk (Aj BQa.out hb)
 have HBpb := Aa.mk (HBa.out.trans (hb.mono (Nat.le_trans hbw HBa.out.size)))
 have ROpb := Aa.mk (Kd.Bj ROa.out hb)
 have RIpb := Aa.mk (Kd.Bj RIa.out hb)
 have RMpb := Aa.mk (Kd.Bj RMa.out hb)
 have RRpb := Aa.mk (Kd.Bj RRa.out hb)
 have RSpb := Aa.mk (Kd.Bj RSa.out hb)
 clear hb HPa HRa BXa BQa HBa ROa RIa RMa RRa RSa
 generalize w.drew = wpb at HPpb HRpb BXpb BQpb HBpb ROpb RIpb RMpb RRpb RSpb hHeld ⊢
 refine pX 0 6 ?_
 refine pX 1 7 ?_
 refine pX 2 8 ?_
 refine pX 3 9 ?_
 refine pX 4 10 ?_
 refine pX 6 12 ?_
 refine pX 7 13 ?_
 refine pX 8 14 ?_
 refine pX 9 15 ?_
 refine tX 5 11 hHeld ?_
 refine tX 10 16 hHeld ?_
 refine oX 11 (some 17) (fun K hK => ?_)
 refine gX Tryz.func117 #[(.slice A1 ins.length c1), .string ⟨#[32]⟩] ?_
 with_reducible refine (join_calls _ base _ ins _ HSI.out RIpb.out).mono ?_
 rintro x wpc ⟨rfl, hb⟩
 refine ⟨_, rfl, ?_⟩
 have HPpc := Aa.mk (Cf HPpb.out hb)
 have HRpc := Aa.mk (Cb HRpb.out hb)
 have BXpc := Aa.mk (Aj BXpb.out hb)
 have BQpc := Aa.mk (Aj BQpb.out hb)
 have HBpc := Aa.mk (HBpb.out.trans (hb.mono (Nat.le_trans hbw HBpb.out.size)))
 have ROpc := Aa.mk (Kd.Bj ROpb.out hb)
 have RIpc := Aa.mk (Kd.Bj RIpb.out hb)
 have RMpc := Aa.mk (Kd.Bj RMpb.out hb)
 have RRpc := Aa.mk (Kd.Bj RRpb.out hb)
 have RSpc := Aa.mk (Kd.Bj RSpb.out hb)
 clear hb HPpb HRpb BXpb BQpb HBpb ROpb RIpb RMpb RRpb RSpb
 refine hK.out _ _ ⟨Ab BXpc.out 12, Ab BXpc.out 1⟩ (fun hHeld => ?_)
 clear hK K
 refine nX ?_
 refine oX 12 (some 18) (fun K hK => ?_)
 refine gX Tryz.func93 #[.pointer (some ⟨B, 0, none⟩), .slice AS own.length cS, .string sIn, .string (Em ins ⟨#[32]⟩)] ?_
 with_reducible refine (put_calls B (.slice Ae p.edges.length ce) vP vD (.slice Ao p.outer.length co) vR fd fo e base _ own sIn (Em ins ⟨#[32]⟩) _ HPpc.out RSpc.out (Nat.le_trans hbw HBpc.out.size) HL.out HJI.out).mono ?_
 rintro x wpd ⟨vpd, rfl, hrow, hp, hk, hb⟩
 refine ⟨_, rfl, ?_⟩
 obtain ⟨ASpd, cSpd, rfl⟩ := Kd.Bd hrow
 have ROpd := Aa.mk (Bf ROpc.out hk (Dj HPpc.out (by decide)))
 have RIpd := Aa.mk (Bf RIpc.out hk (Dj HPpc.out (by decide)))
 have RMpd := Aa.mk (Bf RMpc.out hk (Dj HPpc.out (by decide)))
 have RRpd := Aa.mk (Bf RRpc.out hk (Dj HPpc.out (by decide)))
 have HRpd := Aa.mk (B4 HRpc.out hk (Ca HPpc.out (by decide)))
 have BXpd := Aa.mk (Bc BXpc.out hk hXB)
 have BQpd := Aa.mk (Bc BQpc.out hk hQB)
 have HBpd := Aa.mk (HBpc.out.trans (hb base hbB))
 have HPpd := Aa.mk hp
 clear hp hk hb HPpc HRpc BXpc BQpc HBpc ROpc RIpc RMpc RRpc
 have RSpd := Aa.mk hrow
 clear hrow RSpc
 refine hK.out _ _ ⟨Ab BXpd.out 12, Ab BXpd.out 1⟩ (fun hHeld => ?_)
 clear hK K
 refine nX ?_
 refine pX 13 19 ?_
 refine pX 14 20 ?_
 refine lX 15 none (fun K hK => ?_)
 have hfr := As BXpd.out 12
 have hcl := Ab BXpd.out 12
 refine kX ?_
 refine hK.out _ _ ?_
 clear hK K
 refine dX ?_
 clear hHeld hfr hcl
 have HFS : Hid (putL own sIn (Em ins ⟨#[32]⟩) = (Ii ins own)) := Lib.hid rfl
 rw [HFS.out] at RSpd ⊢
 clear HFS
 have hk := Bm wpd X 12 (.slice ASpd (Ii ins own).length cSpd)
 have hXX := fun (l : List Nat) (hl : 124 ∉ l) (k : Nat) (hk : k = X) => (by subst hk; exact ⟨_, 124, BXpd.out, hl⟩ : ∃ cells q, wpd.heap[k]? = some (.cells cells q (0, 0)) ∧ q ∉ l)
 have BXpe := Aa.mk (Az BXpd.out 12 (.slice ASpd (Ii ins own).length cSpd) rfl)
 have BQpe := Aa.mk (Bc BQpd.out hk hQX)
 have HPpe := Aa.mk (show Pb _ B _ _ _ _ _ _ _ _ from Bc HPpd.out hk hBX)
 have HRpe := Aa.mk (B4 HRpd.out hk (hXX [42, 9, 44, 174, 116] (by decide)))
 have HBpe := Aa.mk (HBpd.out.setCell (p := ⟨X, 12, none⟩) hbX (.slice ASpd (Ii ins own).length cSpd))
 have ROpe := Aa.mk (Bf ROpd.out hk (hXX [9] (by decide)))
 have RIpe := Aa.mk (Bf RIpd.out hk (hXX [9] (by decide)))
 have RMpe := Aa.mk (Bf RMpd.out hk (hXX [9] (by decide)))
 have RRpe := Aa.mk (Bf RRpd.out hk (hXX [9] (by decide)))
 have RSpe := Aa.mk (Bf RSpd.out hk (hXX [174] (by decide)))
 clear hk hXX HPpd HRpd BXpd BQpd HBpd ROpd RIpd RMpd RRpd RSpd
 generalize wpd.setCell ⟨X, 12, none⟩ (.slice ASpd (Ii ins own).length cSpd) = wpe at HPpe HRpe BXpe BQpe HBpe ROpe RIpe RMpe RRpe RSpe ⊢
 go_upto_region 1 with (fail)
 refine sX 16 (S := fun w' => w'.cell? ⟨X, 12, none⟩ = some (.slice ASpd (Ii ins own).length cSpd) ∧ w'.cell? ⟨X, 0, none⟩ = some (.slice A0 outs.length c0)) (ds := [15]) ⟨Ab BXpe.out 12, Ab BXpe.out 0⟩ (fun hHeld => ?_)
 have hb := (Below.refl wpe.heap.size wpe).drew
 have HPqb := Aa.mk (Cf HPpe.out hb)
 have HRqb := Aa.mk (Cb HRpe.out hb)
 have BXqb := Aa.mk (Aj BXpe.out hb)
 have BQqb := Aa.mk (Aj BQpe.out hb)
 have HBqb := Aa.mk (HBpe.out.trans (hb.mono (Nat.le_trans hbw HBpe.out.size)))
 have ROqb := Aa.mk (Kd.Bj ROpe.out hb)
 have RIqb := Aa.mk (Kd.Bj RIpe.out hb)
 have RMqb := Aa.mk (Kd.Bj RMpe.out hb)
 have RRqb := Aa.mk (Kd.Bj RRpe.out hb)
 have RSqb := Aa.mk (Kd.Bj RSpe.out hb)
 clear hb HPpe HRpe BXpe BQpe HBpe ROpe RIpe RMpe RRpe RSpe
 generalize wpe.drew = wqb at HPqb HRqb BXqb BQqb HBqb ROqb RIqb RMqb RRqb RSqb hHeld ⊢
 refine pX 0 21 ?_
 refine pX 1 22 ?_
 refine pX 2 23 ?_
 refine pX 3 24 ?_
 refine pX 4 25 ?_
 refine pX 6 27 ?_
 refine pX 7 28 ?_
 refine pX 8 29 ?_
 refine pX 9 30 ?_
 refine tX 5 26 hHeld ?_
 refine tX 10 31 hHeld ?_
 refine oX 11 (some 32) (fun K hK => ?_)
 refine gX Tryz.func117 #[(.slice A0 outs.length c0), .string ⟨#[32]⟩] ?_
 with_reducible refine (join_calls _ base _ outs _ HSO.out ROqb.out).mono ?_
 rintro x wqc ⟨rfl, hb⟩
 refine ⟨_, rfl, ?_⟩
 have HPqc := Aa.mk (Cf HPqb.out hb)
 have HRqc := Aa.mk (Cb HRqb.out hb)
 have BXqc := Aa.mk (Aj BXqb.out hb)
 have BQqc := Aa.mk (Aj BQqb.out hb)
 have HBqc := Aa.mk (HBqb.out.trans (hb.mono (Nat.le_trans hbw HBqb.out.size)))
 have ROqc := Aa.mk (Kd.Bj ROqb.out hb)
 have RIqc := Aa.mk (Kd.Bj RIqb.out hb)
 have RMqc := Aa.mk (Kd.Bj RMqb.out hb)
 have RRqc := Aa.mk (Kd.Bj RRqb.out hb)
 have RSqc := Aa.mk (Kd.Bj RSqb.out hb)
 clear hb HPqb HRqb BXqb BQqb HBqb ROqb RIqb RMqb RRqb RSqb
 refine hK.out _ _ ⟨Ab BXqc.out 12, Ab BXqc.out 0⟩ (fun hHeld => ?_)
 clear hK K
 refine nX ?_
 refine oX 12 (some 33) (fun K hK => ?_)
 refine gX Tryz.func93 #[.pointer (some ⟨B, 0, none⟩), .slice ASpd (Ii ins own).length cSpd, .string sOut, .string (Em outs ⟨#[32]⟩)] ?_
 with_reducible refine (put_calls B (.slice Ae p.edges.length ce) vP vD (.slice Ao p.outer.length co) vR fd fo (Db e (Cn own sIn (Em ins ⟨#[32]⟩)).2) base _ (Ii ins own) sOut (Em outs ⟨#[32]⟩) _ HPqc.out RSqc.out (Nat.le_trans hbw HBqc.out.size) HL1.out HJO.out).mono ?_
 rintro x wqd ⟨vqd, rfl, hrow, hp, hk, hb⟩
 refine ⟨_, rfl, ?_⟩
 obtain ⟨ASqd, cSqd, rfl⟩ := Kd.Bd hrow
 have ROqd := Aa.mk (Bf ROqc.out hk (Dj HPqc.out (by decide)))
 have RIqd := Aa.mk (Bf RIqc.out hk (Dj HPqc.out (by decide)))
 have RMqd := Aa.mk (Bf RMqc.out hk (Dj HPqc.out (by decide)))
 have RRqd := Aa.mk (Bf RRqc.out hk (Dj HPqc.out (by decide)))
 have HRqd := Aa.mk (B4 HRqc.out hk (Ca HPqc.out (by decide)))
 have BXqd := Aa.mk (Bc BXqc.out hk hXB)
 have BQqd := Aa.mk (Bc BQqc.out hk hQB)
 have HBqd := Aa.mk (HBqc.out.trans (hb base hbB))
 have HPqd := Aa.mk hp
 clear hp hk hb HPqc HRqc BXqc BQqc HBqc ROqc RIqc RMqc RRqc
 have RSqd := Aa.mk hrow
 clear hrow RSqc
 refine hK.out _ _ ⟨Ab BXqd.out 12, Ab BXqd.out 0⟩ (fun hHeld => ?_)
 clear hK K
 refine nX ?_
 refine pX 13 34 ?_
 refine pX 14 35 ?_
 refine lX 15 none (fun K hK => ?_)
 have hfr := As BXqd.out 12
 have hcl := Ab BXqd.out 12
 refine kX ?_
 refine hK.out _ _ ?_
 clear hK K
 refine dX ?_
 clear hHeld hfr hcl
 have HFS : Hid (putL (Ii ins own) sOut (Em outs ⟨#[32]⟩) = (finS2 outs ins own)) := Lib.hid rfl
 rw [HFS.out] at RSqd ⊢
 clear HFS
 have hk := Bm wqd X 12 (.slice ASqd (finS2 outs ins own).length cSqd)
 have hXX := fun (l : List Nat) (hl : 124 ∉ l) (k : Nat) (hk : k = X) => (by subst hk; exact ⟨_, 124, BXqd.out, hl⟩ : ∃ cells q, wqd.heap[k]? = some (.cells cells q (0, 0)) ∧ q ∉ l)
 have BXqe := Aa.mk (Az BXqd.out 12 (.slice ASqd (finS2 outs ins own).length cSqd) rfl)
 have BQqe := Aa.mk (Bc BQqd.out hk hQX)
 have HPqe := Aa.mk (show Pb _ B _ _ _ _ _ _ _ _ from Bc HPqd.out hk hBX)
 have HRqe := Aa.mk (B4 HRqd.out hk (hXX [42, 9, 44, 174, 116] (by decide)))
 have HBqe := Aa.mk (HBqd.out.setCell (p := ⟨X, 12, none⟩) hbX (.slice ASqd (finS2 outs ins own).length cSqd))
 have ROqe := Aa.mk (Bf ROqd.out hk (hXX [9] (by decide)))
 have RIqe := Aa.mk (Bf RIqd.out hk (hXX [9] (by decide)))
 have RMqe := Aa.mk (Bf RMqd.out hk (hXX [9] (by decide)))
 have RRqe := Aa.mk (Bf RRqd.out hk (hXX [9] (by decide)))
 have RSqe := Aa.mk (Bf RSqd.out hk (hXX [174] (by decide)))
 clear hk hXX HPqd HRqd BXqd BQqd HBqd ROqd RIqd RMqd RRqd RSqd
 generalize wqd.setCell ⟨X, 12, none⟩ (.slice ASqd (finS2 outs ins own).length cSqd) = wqe at HPqe HRqe BXqe BQqe HBqe ROqe RIqe RMqe RRqe RSqe ⊢
 go_upto_region 2 with (fail)
 refine sX 19 (S := fun w' => w'.cell? ⟨X, 8, none⟩ = some (.string r.f1) ∧ w'.cell? ⟨X, 12, none⟩ = some (.slice ASqd (finS2 outs ins own).length cSqd) ∧ w'.cell? ⟨B, 3, none⟩ = some (.slice Ao p.outer.length co)) (ds := [13]) ⟨Ab BXqe.out 8, Ab BXqe.out 12, Ab HPqe.out 3⟩ (fun hHeld => ?_)
 have hb := (Below.refl wqe.heap.size wqe).drew
 have HPr := Aa.mk (Cf HPqe.out hb)
 have HRr := Aa.mk (Cb HRqe.out hb)
 have BXr := Aa.mk (Aj BXqe.out hb)
 have BQr := Aa.mk (Aj BQqe.out hb)
 have HBr := Aa.mk (HBqe.out.trans (hb.mono (Nat.le_trans hbw HBqe.out.size)))
 have ROr := Aa.mk (Kd.Bj ROqe.out hb)
 have RIr := Aa.mk (Kd.Bj RIqe.out hb)
 have RMr := Aa.mk (Kd.Bj RMqe.out hb)
 have RRr := Aa.mk (Kd.Bj RRqe.out hb)
 have RSr := Aa.mk (Kd.Bj RSqe.out hb)
 clear hb HPqe HRqe BXqe BQqe HBqe ROqe RIqe RMqe RRqe RSqe
 generalize wqe.drew = wr at HPr HRr BXr BQr HBr ROr RIr RMr RRr RSr hHeld ⊢
 refine pX 0 37 ?_
 refine pX 1 38 ?_
 refine pX 2 39 ?_
 refine pX 3 40 ?_
 refine pX 5 42 ?_
 refine pX 6 43 ?_
 refine pX 7 44 ?_
 refine pX 9 46 ?_
 refine pX 10 47 ?_
 refine pX 11 48 ?_
 refine tX 4 41 hHeld ?_
 refine tX 8 45 hHeld ?_
 refine tX 12 49 hHeld ?_
 refine lX 13 (some 50) (fun K hK => ?_)
 have hCo := Kd.R_reads' HRr.out.2.2.2.1
 refine gX Tryz.func92 #[.string r.f1, .slice ASqd (finS2 outs ins own).length cSqd, .slice Ao p.outer.length co] ?_
 with_reducible refine (eval_Of.calls r.f1 ASqd cSqd (finS2 outs ins own) Ao co p.outer cmd ec _ (Kd.R_reads' RSr.out).2.2 (Kd.R_reads' RSr.out).2.1 hCo.2.2 hCo.2.1 (by unfold eval_Of.f; rw [if_pos ⟨hr, HL2.out, HLO.out⟩]; exact congrArg some HFC.out.symm)).mono ?_
 rintro x ws ⟨rfl, hb⟩
 refine ⟨_, rfl, ?_⟩
 have HPs := Aa.mk (Cf HPr.out hb)
 have HRs := Aa.mk (Cb HRr.out hb)
 have BXs := Aa.mk (Aj BXr.out hb)
 have BQs := Aa.mk (Aj BQr.out hb)
 have HBs := Aa.mk (HBr.out.trans (hb.mono (Nat.le_trans hbw HBr.out.size)))
 have ROs := Aa.mk (Kd.Bj ROr.out hb)
 have RIs := Aa.mk (Kd.Bj RIr.out hb)
 have RMs := Aa.mk (Kd.Bj RMr.out hb)
 have RRs := Aa.mk (Kd.Bj RRr.out hb)
 clear hb HPr HRr BXr BQr HBr ROr RIr RMr RRr
 refine hK.out _ _ ?_
 clear hK K
 refine nX ?_
 refine pX 14 36 ?_
 refine pX 15 51 ?_
 refine pX 16 52 ?_
 refine pX 17 4 ?_
 refine pX 18 5 ?_
 refine dX ?_
 clear RSr
 go_upto_region 6 with (first | (go_at_call 86; refine (took_calls B (.slice Ae p.edges.length ce) vP vD (.slice Ao p.outer.length co) vR fd fo (Db (Db e (Cn own sIn (Em ins ⟨#[32]⟩)).2) (Cn (Ii ins own) sOut (Em outs ⟨#[32]⟩)).2) ec _ HPs.out).mono ?_; rintro x wt ⟨rfl, hp, hk, hb⟩; have ROt := Aa.mk (Bf ROs.out hk (Dj HPs.out (by decide))); have RIt := Aa.mk (Bf RIs.out hk (Dj HPs.out (by decide))); have RMt := Aa.mk (Bf RMs.out hk (Dj HPs.out (by decide))); have RRt := Aa.mk (Bf RRs.out hk (Dj HPs.out (by decide))); have HRt := Aa.mk (B4 HRs.out hk (Ca HPs.out (by decide))); have BXt := Aa.mk (Bc BXs.out hk hXB); have BQt := Aa.mk (Bc BQs.out hk hQB); have HBt := Aa.mk (HBs.out.trans (hb base hbB)); have HPt := Aa.mk hp; clear hp hk hb HPs HRs BXs BQs HBs ROs RIs RMs RRs) | (go_at_call 40; refine (C6 B (.slice Ae p.edges.length ce) vP vD (.slice Ao p.outer.length co) vR fd fo (Db (Db (Db e (Cn own sIn (Em ins ⟨#[32]⟩)).2) (Cn (Ii ins own) sOut (Em outs ⟨#[32]⟩)).2) ec) (!cmd.toList.isEmpty) _ HPt.out).mono ?_; rintro x wu ⟨rfl, hp, hk, hb⟩; have ROu := Aa.mk (Bf ROt.out hk (Dj HPt.out (by decide))); have RIu := Aa.mk (Bf RIt.out hk (Dj HPt.out (by decide))); have RMu := Aa.mk (Bf RMt.out hk (Dj HPt.out (by decide))); have RRu := Aa.mk (Bf RRt.out hk (Dj HPt.out (by decide))); have HRu := Aa.mk (B4 HRt.out hk (Ca HPt.out (by decide))); have BXu := Aa.mk (Bc BXt.out hk hXB); have BQu := Aa.mk (Bc BQt.out hk hQB); have HBu := Aa.mk (HBt.out.trans (hb base hbB)); have HPu := Aa.mk hp; clear hp hk hb HPt HRt BXt BQt HBt ROt RIt RMt RRt; have hfr := As BXu.out 4; have hcl := Ab BXu.out 4))
 have hk := Bm wu X 4 (.string cmd)
 have hXX := fun (l : List Nat) (hl : 124 ∉ l) (k : Nat) (hk : k = X) => (by subst hk; exact ⟨_, 124, BXu.out, hl⟩ : ∃ cells q, wu.heap[k]? = some (.cells cells q (0, 0)) ∧ q ∉ l)
 have BXv := Aa.mk (Az BXu.out 4 (.string cmd) rfl)
 have BQv := Aa.mk (Bc BQu.out hk hQX)
 have HPv := Aa.mk (show Pb _ B _ _ _ _ _ _ _ _ from Bc HPu.out hk hBX)
 have HRv := Aa.mk (B4 HRu.out hk (hXX [42, 9, 44, 174, 116] (by decide)))
 have HBv := Aa.mk (HBu.out.setCell (p := ⟨X, 4, none⟩) hbX (.string cmd))
 have ROv := Aa.mk (Bf ROu.out hk (hXX [9] (by decide)))
 have RIv := Aa.mk (Bf RIu.out hk (hXX [9] (by decide)))
 have RMv := Aa.mk (Bf RMu.out hk (hXX [9] (by decide)))
 have RRv := Aa.mk (Bf RRu.out hk (hXX [9] (by decide)))
 clear hk hXX HPu HRu BXu BQu HBu ROu RIu RMu RRu
 generalize wu.setCell ⟨X, 4, none⟩ (.string cmd) = wv at HPv HRv BXv BQv HBv ROv RIv RMv RRv ⊢
 rw [← HFE.out] at HPv
 refine sX 16 (S := fun w' => w'.cell? ⟨B, 0, none⟩ = some (.slice Ae p.edges.length ce) ∧ w'.cell? ⟨X, 0, none⟩ = some (.slice A0 outs.length c0) ∧ w'.cell? ⟨X, 1, none⟩ = some (.slice A1 ins.length c1) ∧ w'.cell? ⟨X, 2, none⟩ = some (.slice A2 imp.length c2) ∧ w'.cell? ⟨X, 3, none⟩ = some (.slice A3 ord.length c3) ∧ w'.cell? ⟨X, 4, none⟩ = some (.string cmd) ∧ w'.cell? ⟨X, 5, none⟩ = some (.bool r.f3) ∧ w'.cell? ⟨X, 6, none⟩ = some (.string r.f2)) (ds := [15]) ⟨Ab HPv.out 0, Ab BXv.out 0, Ab BXv.out 1, Ab BXv.out 2, Ab BXv.out 3, Ab BXv.out 4, Ab BXv.out 5, Ab BXv.out 6⟩ (fun hHeld => ?_)
 have hb := (Below.refl wv.heap.size wv).drew
 have HPz := Aa.mk (Cf HPv.out hb)
 have HRz := Aa.mk (Cb HRv.out hb)
 have BXz := Aa.mk (Aj BXv.out hb)
 have BQz := Aa.mk (Aj BQv.out hb)
 have HBz := Aa.mk (HBv.out.trans (hb.mono (Nat.le_trans hbw HBv.out.size)))
 have ROz := Aa.mk (Kd.Bj ROv.out hb)
 have RIz := Aa.mk (Kd.Bj RIv.out hb)
 have RMz := Aa.mk (Kd.Bj RMv.out hb)
 have RRz := Aa.mk (Kd.Bj RRv.out hb)
 clear hb HPv HRv BXv BQv HBv ROv RIv RMv RRv
 generalize wv.drew = wz at HPz HRz BXz BQz HBz ROz RIz RMz RRz hHeld ⊢
 refine pX 0 65 ?_
 refine pX 1 66 ?_
 refine pX 2 67 ?_
 refine pX 3 68 ?_
 refine pX 4 69 ?_
 refine pX 6 71 ?_
 refine pX 7 72 ?_
 refine pX 8 73 ?_
 refine tX 5 70 hHeld ?_
 refine tX 9 74 hHeld ?_
 refine oX 10 (some 75) (fun K hK => ?_)
 refine vX ?_
 refine hK.out _ _ ⟨Ab (Cw HPz.out _) 0, Ab (Cw BXz.out _) 0, Ab (Cw BXz.out _) 1, Ab (Cw BXz.out _) 2, Ab (Cw BXz.out _) 3, Ab (Cw BXz.out _) 4, Ab (Cw BXz.out _) 5, Ab (Cw BXz.out _) 6⟩ (fun hHeld => ?_)
 clear hK K
 refine nX ?_
 refine oX 11 (some 76) (fun K hK => ?_)
 refine Kd.Hp k42 (w0 := w) base (by rfl) (.tmp 70) (.tmp 75) 22 42 (.agg #[.slice none 0 0, .slice none 0 0, .slice none 0 0, .slice none 0 0, .string ⟨#[]⟩, .bool false, .string ⟨#[]⟩]) 136 rfl Tryz.underlying22 infoD42 rfl (by decide) (by omega) (.slice Ae p.edges.length ce) p.edges ⟨outs, ins, imp, ord, cmd, r.f3, r.f2⟩ _ (fun k => some k ≠ vD.ownBlock) (fun k => some k ≠ vD.ownBlock ∧ some k ≠ (Value.slice Ae p.edges.length ce).ownBlock) rfl rfl (k42_mkM _ _ _ ⟨outs, ins, imp, ord, cmd, r.f3, r.f2⟩ (row_not ROz.out HRz.out.1) (row_not RIz.out HRz.out.1) (row_not RMz.out HRz.out.1) (row_not RRz.out HRz.out.1)) (fun k hk => hk) (fun k hk he => by have := Kd.R_lt HRz.out.2.2.1 k he.symm; omega) HRz.out.1 HBz.out (Nat.le_trans hbw HBz.out.size) (by omega) ?_
 intro v5 w5 ho5 hb5 hg5 hat5
 clear hat5
 rw [HLL.out] at ho5
 obtain ⟨A5, c5, rfl⟩ := Kd.Bd ho5
 have HP5 := Aa.mk (show Pb w5 B (.slice Ae p.edges.length ce) vP vD (.slice Ao p.outer.length co) vR fd fo E' from Dw HPz.out HRz.out.1 hg5 (by decide))
 have BX5 := Aa.mk (Dw BXz.out HRz.out.1 hg5 (by decide))
 have BQ5 := Aa.mk (Dw BQz.out HRz.out.1 hg5 htq.2.2)
 have HR5 := Aa.mk (show Rows w5 base { p with edges := L } (.slice A5 L.length c5) vP vD (.slice Ao p.outer.length co) vR from ⟨ho5, Dd HRz.out.2.1 HRz.out.1 hg5 (by decide), Dd HRz.out.2.2.1 HRz.out.1 hg5 (by decide), Dd HRz.out.2.2.2.1 HRz.out.1 hg5 (by decide), Dd HRz.out.2.2.2.2 HRz.out.1 hg5 (by decide)⟩)
 have HB5 := Aa.mk hb5
 have hfr5 := As HP5.out 0
 clear ho5 hb5 hg5 HRz HPz BXz BQz HBz ROz RIz RMz RRz
 refine hK.out _ _ ⟨Ab HP5.out 0, Ab BX5.out 0, Ab BX5.out 1, Ab BX5.out 2, Ab BX5.out 3, Ab BX5.out 4, Ab BX5.out 5, Ab BX5.out 6⟩ (fun hHeld => ?_)
 clear hK K
 refine nX ?_
 refine pX 12 77 ?_
 refine pX 13 78 ?_
 refine pX 14 79 ?_
 refine lX 15 none (fun K hK => ?_)
 refine kX ?_
 refine hK.out _ _ ?_
 clear hK K
 refine dX ?_
 go_end0
 have hk := Bm w5 B 0 (.slice A5 L.length c5)
 rw [HFP.out]
 exact ⟨rfl, ⟨_, _, _, _, _, hbB, Az HP5.out 0 _ rfl, B4 HR5.out hk (Ca HP5.out (by decide))⟩, HB5.out.setCell (p := ⟨B, 0, none⟩) hbB _, Bc BQ5.out hk hQB⟩
theorem over89_calls (base B X Bp Bx : Nat) (p : Pst) (vE vP vD vO vR fd fo v0 v1 v2 v3 vS : Value) (e : Int) (outs ins imp ord : List ByteArray) (r : S116) (own : List S174) (w : World) (hbB : base ≤ B) (hbX : base ≤ X) (h : Pb w B vE vP vD vO vR fd fo e) (hR : Rows w base p vE vP vD vO vR)
 (bp : w.heap[Bp]? = some (.cells #[.pointer (some ⟨B, 0, none⟩)] 52 (0, 0))) (bx : w.heap[Bx]? = some (.cells #[.pointer (some ⟨X, 0, none⟩)] 122 (0, 0)))
 (hX : w.heap[X]? = some (.cells #[v0, v1, v2, v3, .string ⟨#[]⟩, .bool r.f3, .string r.f2, .string r.f0, .string r.f1, .string r.f2, .bool r.f3, .bool r.f4, vS] 124 (0, 0)))
 (h0 : Kd.R Kd.string 9 w base (fun k => some k ≠ vD.ownBlock) v0 outs) (h1 : Kd.R Kd.string 9 w base (fun k => some k ≠ vD.ownBlock) v1 ins) (h2 : Kd.R Kd.string 9 w base (fun k => some k ≠ vD.ownBlock) v2 imp) (h3 : Kd.R Kd.string 9 w base (fun k => some k ≠ vD.ownBlock) v3 ord) (hS : Kd.R k174 174 w base (fun _ => True) vS own)
 (sO : F4 outs) (sI : F4 ins) (lS : Ei own = true) (lO : Ei p.outer = true) (hr : r.f1.size ≤ 9223372036854775807) (hlen : p.edges.length ≤ 1048576) (Q tq : Nat) (cq : Array Value) (hQ : w.heap[Q]? = some (.cells cq tq (0, 0))) (htq : (tq == 57) = false ∧ (tq == 124) = false ∧ (42 == tq) = false) :
 Calls Tryz.prog 89 #[.pointer (some ⟨Bp, 0, none⟩), .pointer (some ⟨Bx, 0, none⟩)] w fun x w' => x = .returned (.tuple #[]) ∧ Mrows w' base B (finP p outs ins imp ord r own) fd fo (finE p.outer outs ins r own e) ∧ Below base w w' ∧ w'.heap[Q]? = some (.cells cq tq (0, 0)) := by
 have HC := Lib.hid (finish_calls base B X p vE vP vD vO vR fd fo v0 v1 v2 v3 vS e outs ins imp ord r own w hbB hbX h hR hX h0 h1 h2 h3 hS sO sI lS lO hr hlen Q tq cq hQ htq)
 have z0 : w.cell? ⟨Bp, 0, none⟩ = some (.pointer (some ⟨B, 0, none⟩)) := Ab bp 0
 have z1 : w.cell? ⟨Bx, 0, none⟩ = some (.pointer (some ⟨X, 0, none⟩)) := Ab bx 0
 clear h hR bp bx hX h0 h1 h2 h3 hS
 go_enter Tryz.func89, Tryz.ntmps89
 go_wp2_with (first | (go_at_call 90; refine HC.out.mono ?_; rintro x w5 ⟨rfl, hm, hb, hq5⟩))
 go_end0
 exact ⟨rfl, hm, hb, hq5⟩
def defE (p : Pst) (e : Int) (s : ByteArray) : Int := Gr (Dm (B9 e (decide (0 < (Cj s).length))) (Cj s)) (decide (((p.defs ++ Bz (Cj s)).length : Int) ≤ 8))
def defP (p : Pst) (s : ByteArray) : Pst := { p with defs := p.defs ++ Bz (Cj s) }
theorem defaultLine_calls (base B : Nat) (p : Pst) (vE vP vD vO vR : Value) (e : Int) (s : ByteArray) (hs : s.size ≤ 1048576) (hlen : p.defs.length ≤ 1048576) (w : World) (hbB : base ≤ B) (h : Pb w B vE vP vD vO vR .nilFunc .nilFunc e) (hR : Rows w base p vE vP vD vO vR) :
 Calls Tryz.prog 45 #[.pointer (some ⟨B, 0, none⟩), .string s] w fun x w' => x = .returned (.tuple #[]) ∧ Mst w' base B (defP p s) .none (defE p e s) ∧ Below base w w' := by
 have hbw : base ≤ w.heap.size := Nat.le_trans hbB (Nat.le_of_lt (Cq h))
 have hB := Cq h
 obtain ⟨Ad, cd, rfl⟩ := Kd.Bd hR.2.2.1
 have hsm := Ed s hs
 have HW := Lib.hid (words_calls s hs w)
 have hP : defP p s = { p with defs := p.defs ++ Bz (Cj s) } := rfl
 have hE : defE p e s = Gr (Dm (B9 e (decide (0 < (Cj s).length))) (Cj s)) (decide (((p.defs ++ Bz (Cj s)).length : Int) ≤ 8)) := rfl
 rw [hP, hE]
 clear hP hE
 generalize Cj s = ws at *
 obtain ⟨L, hL⟩ : ∃ L, p.defs ++ Bz ws = L := ⟨_, rfl⟩
 rw [hL]
 have HLL := Lib.hid hL
 clear hL
 have hcl : (Bz ws).length = ws.length := by unfold Bz; exact List.length_map ..
 have hcl1 : (Bz ws).length ≤ 1048577 := by rw [hcl]; exact E0 hsm
 clear hcl
 obtain ⟨ck, hck⟩ : ∃ ck, Bz ws = ck := ⟨_, rfl⟩
 rw [hck] at HLL hcl1
 have HCK := Lib.hid hck
 clear hck
 obtain ⟨e1, he1⟩ : ∃ q, B9 e (decide (0 < ws.length)) = q := ⟨_, rfl⟩
 rw [he1]
 have HE1 := Lib.hid he1
 clear he1
 have HSM := Aa.mk hsm
 have HPa := Aa.mk h
 have HRa := Aa.mk hR
 clear h hR hsm
 go_enter Tryz.func45, Tryz.ntmps45
 go_upto_region 2 with (first | (go_at_call 91; refine HW.out.mono ?_; rintro x w1 ⟨vw, rfl, hw, hb⟩; obtain ⟨Aw, cw, rfl⟩ := Kd.Bd hw; have HP1 := Aa.mk (Cf HPa.out hb); have HR1 := Aa.mk (Cb HRa.out hb); have HB1 := Aa.mk (hb.mono hbw); have VW1 := Aa.mk (Vs_mono (Vs_of_R (Kd.Ex hw)) (fun k hk => by have h9 := hk.2.1; exact fun q => by subst q; omega : ∀ k, _ → k ≠ B)); clear hw hb HPa HRa) | (go_at_call 40; refine (C6 B vE vP _ vO vR .nilFunc .nilFunc e (decide (0 < ws.length)) _ HP1.out).mono ?_; rw [HE1.out]; rintro x w2 ⟨rfl, hp, hk, hb⟩; have HP2 := Aa.mk hp; have HR2 := Aa.mk (B4 HR1.out hk (Ca HP1.out (by decide))); have HB2 := Aa.mk (HB1.out.trans (hb base hbB)); have VW2 := Aa.mk (Fa VW1.out hk (fun k h1 h2 => h1 h2)); clear hp hk hb HP1 HR1 HB1 VW1))
 refine sX 14 (S := fun w' => w'.cell? ⟨B, 2, none⟩ = some (.slice Ad p.defs.length cd)) (ds := [13]) (Ab HP2.out 2) (fun hHeld => ?_)
 have hb := (Below.refl w2.heap.size w2).drew
 have HPd := Aa.mk (Cf HP2.out hb)
 have HRd := Aa.mk (Cb HR2.out hb)
 have HBd := Aa.mk (HB2.out.drew)
 have VWd := Aa.mk (Dz VW2.out hb)
 clear hb HP2 HR2 HB2 VW2
 generalize w2.drew = wd at HPd HRd HBd VWd hHeld ⊢
 refine pX 0 12 ?_
 refine pX 1 13 ?_
 refine pX 2 14 ?_
 refine pX 3 15 ?_
 refine pX 4 16 ?_
 refine pX 6 18 ?_
 refine pX 7 19 ?_
 refine tX 5 17 hHeld ?_
 refine oX 8 (some 20) (fun K hK => ?_)
 refine gX Tryz.func87 #[.pointer (some ⟨B, 0, none⟩), .slice Aw ws.length cw] ?_
 with_reducible refine (If B vE vP (.slice Ad p.defs.length cd) vO vR .nilFunc .nilFunc e1 _ ws (Fy HSM.out) (E0 HSM.out) _ HPd.out VWd.out).mono ?_
 rintro x w3 ⟨vc, rfl, hrow, hp, hk, hb⟩
 refine ⟨_, rfl, ?_⟩
 rw [HCK.out] at hrow
 obtain ⟨Ac, cc, rfl⟩ := Kd.Bd hrow
 have RC3 := Aa.mk (Kd.R_reads' hrow).2.2
 have HP3 := Aa.mk hp
 have HR3 := Aa.mk (B4 HRd.out hk (Ca HPd.out (by decide)))
 have HB3 := Aa.mk (HBd.out.trans (hb base hbB))
 clear hrow hp hk hb HPd HRd HBd VWd
 refine hK.out _ _ (Ab HP3.out 2) (fun hHeld => ?_)
 clear hK K
 refine nX ?_
 refine oX 9 (some 21) (fun K hK => ?_)
 refine Kd.Fv Kd.string (w0 := w) base (by rfl) (.tmp 17) (.tmp 20) 24 9 (.string ⟨#[]⟩) 16 rfl Tryz.underlying24 Hh rfl (by decide) (by omega) (.slice Ad p.defs.length cd) p.defs ck Ac ck.length cc (fun _ => True) (fun _ => False) rfl rfl HR3.out.2.2.1 RC3.out (fun _ _ h => h) (fun _ hk => hk.elim) (fun _ _ => trivial) HB3.out (Nat.le_trans hbw HB3.out.size) (by omega) ?_
 intro v5 w5 ho5 hb5 hg5 hat5
 have hE5 := Kd.R_after (ok := fun _ => True) (Kd.De HR3.out.1 (fun k hk => ⟨trivial, hk⟩)) hg5 hat5
 rw [HLL.out] at ho5
 obtain ⟨A5, c5, rfl⟩ := Kd.Bd ho5
 have HP5 := Aa.mk (show Pb w5 B vE vP (.slice Ad p.defs.length cd) vO vR .nilFunc .nilFunc _ from Dw HP3.out HR3.out.2.2.1 hg5 (by decide))
 have HR5 := Aa.mk (show Rows w5 base { p with defs := L } vE vP (.slice A5 L.length c5) vO vR from ⟨Kd.De hE5 (fun k hk => hk.2), Dd HR3.out.2.1 HR3.out.2.2.1 hg5 (by decide), ho5, Dd HR3.out.2.2.2.1 HR3.out.2.2.1 hg5 (by decide), Dd HR3.out.2.2.2.2 HR3.out.2.2.1 hg5 (by decide)⟩)
 have HB5 := Aa.mk hb5
 have hfr5 := As HP5.out 2
 clear ho5 hb5 hg5 hat5 hE5 HR3 HP3 HB3 RC3
 refine hK.out _ _ (Ab HP5.out 2) (fun hHeld => ?_)
 clear hK K
 refine nX ?_
 refine pX 10 22 ?_
 refine pX 11 23 ?_
 refine pX 12 24 ?_
 refine lX 13 none (fun K hK => ?_)
 refine kX ?_
 refine hK.out _ _ ?_
 clear hK K
 refine dX ?_
 have hk := Bm w5 B 2 (.slice A5 L.length c5)
 have HP6 := Aa.mk (show Pb _ B vE vP (.slice A5 L.length c5) vO vR .nilFunc .nilFunc _ from Az HP5.out 2 (.slice A5 L.length c5) rfl)
 have HR6 := Aa.mk (B4 HR5.out hk (Ca HP5.out (by decide)))
 have HB6 := Aa.mk (HB5.out.setCell (p := ⟨B, 2, none⟩) hbB (.slice A5 L.length c5))
 generalize w5.setCell ⟨B, 2, none⟩ (.slice A5 L.length c5) = w6 at HP6 HR6 HB6 ⊢
 clear hk HP5 HR5 HB5 hfr5 hHeld
 have q6 : w6.cell? ⟨B, 2, none⟩ = some (.slice A5 L.length c5) := Ab HP6.out 2
 go_wp2_with (first | (go_at_call 79; refine (room_calls B vE vP (.slice A5 L.length c5) vO vR .nilFunc .nilFunc _ (decide ((L.length : Int) ≤ 8)) _ HP6.out).mono ?_; rintro x w7 ⟨rfl, hp, hk, hb⟩; have HP7 := Aa.mk hp; have HR7 := Aa.mk (B4 HR6.out hk (Ca HP6.out (by decide))); have HB7 := Aa.mk (HB6.out.trans (hb base hbB)); clear hp hk hb))
 go_end0
 exact ⟨rfl, ⟨_, _, _, _, _, _, _, hbB, HP7.out, HR7.out, rfl, rfl⟩, HB7.out⟩
theorem und55 : Tryz.prog.underlying 55 = some (.func #[9, 9] #[] false) := by kernel_rfl
theorem und1 : Tryz.prog.underlying 1 = some (.func #[] #[] false) := by kernel_rfl
section
variable {P : Program} (w : World)
theorem run_equalIn_func (d : Nat) {t : TypeId} {a b : Array TypeId} {v : Bool} (f : Fn) (x y : Array Value) (h : P.underlying t = some (.func a b v)) : (Op.equalIn (d + 1) t (.func f x y) .nilFunc).run P w = .ok false w := by
 simp [Op.equalIn, run_underlying h]
theorem run_equalIn_nilf (d : Nat) {t : TypeId} {a b : Array TypeId} {v : Bool} (h : P.underlying t = some (.func a b v)) : (Op.equalIn (d + 1) t .nilFunc .nilFunc).run P w = .ok true w := by
 simp [Op.equalIn, run_underlying h]
theorem run_equal_func {t : TypeId} {a b : Array TypeId} {v : Bool} (f : Fn) (x y : Array Value) (h : P.underlying t = some (.func a b v)) : (Op.equal t (.func f x y) .nilFunc).run P w = .ok false w := run_equalIn_func w 9999 f x y h
theorem run_equal_nilf {t : TypeId} {a b : Array TypeId} {v : Bool} (h : P.underlying t = some (.func a b v)) : (Op.equal t .nilFunc .nilFunc).run P w = .ok true w := run_equalIn_nilf w 9999 h
theorem run_neq_func {t : TypeId} {a b : Array TypeId} {v : Bool} (f : Fn) (x y : Array Value) (h : P.underlying t = some (.func a b v)) : (binOp .neq t (.func f x y) .nilFunc).run P w = .ok (.bool true) w := by
 simp only [binOp]
 simp [run_equal_func w f x y h]
theorem run_neq_nilf {t : TypeId} {a b : Array TypeId} {v : Bool} (h : P.underlying t = some (.func a b v)) : (binOp .neq t .nilFunc .nilFunc).run P w = .ok (.bool false) w := by
 simp only [binOp]
 simp [run_equal_nilf w h]
end
theorem neq1 (w : World) (f : Fn) (x y : Array Value) : (binOp .neq 1 (.func f x y) .nilFunc).run Tryz.prog w = .ok (.bool true) w := run_neq_func w f x y und1
theorem neq55 (w : World) (f : Fn) (x y : Array Value) : (binOp .neq 55 (.func f x y) .nilFunc).run Tryz.prog w = .ok (.bool true) w := run_neq_func w f x y und55
theorem nil1 (w : World) : (binOp .neq 1 .nilFunc .nilFunc).run Tryz.prog w = .ok (.bool false) w := run_neq_nilf w und1
theorem nil55 (w : World) : (binOp .neq 55 .nilFunc .nilFunc).run Tryz.prog w = .ok (.bool false) w := run_neq_nilf w und55
attribute [local go_sem] neq1 neq55 nil1 nil55
def Gs (p : Pst) (o : Opn) : Pst := match o with
 | .build outs ins imp ord r own => finP p outs ins imp ord r own
 | _ => p
def Hn (p : Pst) (o : Opn) (e : Int) : Int := match o with
 | .none => e
 | .rule => B9 e (!(Cy p.rules).f1.toList.isEmpty)
 | .pool => B9 e (decide (0 < (C8 p.pools).f1))
 | .build outs ins imp ord r own => finE p.outer outs ins r own e
def Inv (p : Pst) (o : Opn) : Prop := Ei p.outer = true ∧ (∀ x ∈ p.rules, x.f1.size ≤ 1048576) ∧ p.rules.length ≤ 8 ∧ p.pools.length ≤ 4 ∧ p.edges.length ≤ 16 ∧ p.defs.length ≤ 8 ∧ match o with
 | .build outs ins imp ord r own => F4 outs ∧ F4 ins ∧ Ei own = true ∧ r.f1.size ≤ 1048576 ∧ p.edges.length < 16
 | _ => True
theorem end_nil {w : World} {base B : Nat} {p : Pst} {vE vP vD vO vR fd fo : Value} {e : Int} (hbB : base ≤ B) (h : Pb w B vE vP vD vO vR fd fo e) (hR : Rows w base p vE vP vD vO vR) :
 Mst ((w.setCell ⟨B, 6, none⟩ .nilFunc).setCell ⟨B, 5, none⟩ .nilFunc) base B p .none e := by
 have hk := Kept.then_ (Bm w B 6 .nilFunc) (Bm _ B 5 .nilFunc) (fun k hk => .inl hk)
 exact ⟨vE, vP, vD, vO, vR, _, _, hbB, Az (Az h 6 .nilFunc rfl) 5 .nilFunc rfl, B4 hR hk (Ca h (by decide)), rfl, rfl⟩
theorem end_calls (base B : Nat) (p : Pst) (o : Opn) (e : Int) (w : World) (h : Mst w base B p o e) (hI : Inv p o) (Q tq : Nat) (cq : Array Value) (hQ : w.heap[Q]? = some (.cells cq tq (0, 0))) (htq : (tq == 57) = false ∧ (tq == 124) = false ∧ (42 == tq) = false) :
 Calls Tryz.prog 20 #[.pointer (some ⟨B, 0, none⟩)] w fun x w' => x = .returned (.tuple #[]) ∧ Mst w' base B (Gs p o) .none (Hn p o e) ∧ Below base w w' ∧ w'.heap[Q]? = some (.cells cq tq (0, 0)) := by
 have HQ := Aa.mk hQ
 clear hQ
 obtain ⟨vE, vP, vD, vO, vR, fd, fo, hbB, hP, hR, hC⟩ := h
 obtain ⟨i1, i2, i3, i4, i5, i6, i7⟩ := hI
 have hQB : ¬ Q = B := fun q => Du HQ.out hP htq.1 q
 cases o with
 | none =>
  obtain ⟨rfl, rfl⟩ := hC
  have HP := Lib.hid hP
  have HR := Lib.hid hR
  have c5 : w.cell? ⟨B, 5, none⟩ = some .nilFunc := Ab hP 5
  have c6 : w.cell? ⟨B, 6, none⟩ = some .nilFunc := Ab hP 6
  have f5 := As hP 5
  have f6 := As hP 6
  clear hP hR
  go_enter Tryz.func20, Tryz.ntmps20
  go_wp2_with fail
  go_end0
  exact ⟨rfl, end_nil hbB HP.out HR.out, ((Below.refl base w).setCell (p := ⟨B, 6, none⟩) hbB _).setCell (p := ⟨B, 5, none⟩) hbB _, Bc HQ.out (Kept.then_ (Bm _ B 6 _) (Bm _ B 5 _) (fun k hk => .inl hk)) hQB⟩
 | rule =>
  obtain ⟨Bp, Br, g, c, rfl, rfl, hbp, hbr, rfl, hn⟩ := hC
  have hc := (Gi hR.2.2.2.2 hn).1 1 _ rfl
  have HC := Lib.hid (over82_calls B Bp Br g ((p.rules.length - 1) * 5) vE vP vD vO _ _ _ e (Cy p.rules).f1 w hP (Ab hbp 0) (Ab hbr 0) hc)
  obtain ⟨cond, hcond⟩ : ∃ q, (!(Cy p.rules).f1.toList.isEmpty) = q := ⟨_, rfl⟩
  have hov : Hn p .rule e = B9 e cond := by rw [← hcond]; rfl
  rw [hov, show Gs p .rule = p from rfl]
  rw [hcond] at HC
  clear hov hcond hc
  have c6 : w.cell? ⟨B, 6, none⟩ = some (.func (.func 82) #[] #[.pointer (some ⟨Bp, 0, none⟩), .pointer (some ⟨Br, 0, none⟩)]) := Ab hP 6
  have HP := Lib.hid hP
  have HR := Lib.hid hR
  clear hP hR
  go_enter Tryz.func20, Tryz.ntmps20
  go_wp2_with (first | (go_at_call 82; refine HC.out.mono ?_; rintro x w1 ⟨rfl, hp, hk, hb⟩; have HP1 := Aa.mk hp; have HQ1 := Aa.mk (Bc HQ.out hk hQB); have HR1 := Aa.mk (B4 HR.out hk (Ca HP.out (by decide))); have HB1 := Aa.mk (hb base hbB); have d5 : w1.cell? ⟨B, 5, none⟩ = some (.func (.func 80) #[] #[.pointer (some ⟨Bp, 0, none⟩), .pointer (some ⟨Br, 0, none⟩)]) := Ab HP1.out 5; have d6 : w1.cell? ⟨B, 6, none⟩ = some (.func (.func 82) #[] #[.pointer (some ⟨Bp, 0, none⟩), .pointer (some ⟨Br, 0, none⟩)]) := Ab HP1.out 6; have f5 := As HP1.out 5; have f6 := As HP1.out 6; clear hp hk hb))
  go_end0
  exact ⟨rfl, end_nil hbB HP1.out HR1.out, (HB1.out.setCell (p := ⟨B, 6, none⟩) hbB _).setCell (p := ⟨B, 5, none⟩) hbB _, Bc HQ1.out (Kept.then_ (Bm _ B 6 _) (Bm _ B 5 _) (fun k hk => .inl hk)) hQB⟩
 | pool =>
  obtain ⟨Bp, Br, g, c, rfl, rfl, hbp, hbr, rfl, hn⟩ := hC
  have hc := (G6 hR.2.1 hn).1 1 _ rfl
  have HC := Lib.hid (over84_calls B Bp Br g ((p.pools.length - 1) * 2) vE _ vD vO vR _ _ e (C8 p.pools).f1 w hP (Ab hbp 0) (Ab hbr 0) hc)
  obtain ⟨cond, hcond⟩ : ∃ q, (decide (0 < (C8 p.pools).f1)) = q := ⟨_, rfl⟩
  have hov : Hn p .pool e = B9 e cond := by rw [← hcond]; rfl
  rw [hov, show Gs p .pool = p from rfl]
  rw [hcond] at HC
  clear hov hcond hc
  have c6 : w.cell? ⟨B, 6, none⟩ = some (.func (.func 84) #[] #[.pointer (some ⟨Bp, 0, none⟩), .pointer (some ⟨Br, 0, none⟩)]) := Ab hP 6
  have HP := Lib.hid hP
  have HR := Lib.hid hR
  clear hP hR
  go_enter Tryz.func20, Tryz.ntmps20
  go_wp2_with (first | (go_at_call 84; refine HC.out.mono ?_; rintro x w1 ⟨rfl, hp, hk, hb⟩; have HP1 := Aa.mk hp; have HQ1 := Aa.mk (Bc HQ.out hk hQB); have HR1 := Aa.mk (B4 HR.out hk (Ca HP.out (by decide))); have HB1 := Aa.mk (hb base hbB); have d5 : w1.cell? ⟨B, 5, none⟩ = some (.func (.func 83) #[] #[.pointer (some ⟨Bp, 0, none⟩), .pointer (some ⟨Br, 0, none⟩)]) := Ab HP1.out 5; have d6 : w1.cell? ⟨B, 6, none⟩ = some (.func (.func 84) #[] #[.pointer (some ⟨Bp, 0, none⟩), .pointer (some ⟨Br, 0, none⟩)]) := Ab HP1.out 6; have f5 := As HP1.out 5; have f6 := As HP1.out 6; clear hp hk hb))
  go_end0
  exact ⟨rfl, end_nil hbB HP1.out HR1.out, (HB1.out.setCell (p := ⟨B, 6, none⟩) hbB _).setCell (p := ⟨B, 5, none⟩) hbB _, Bc HQ1.out (Kept.then_ (Bm _ B 6 _) (Bm _ B 5 _) (fun k hk => .inl hk)) hQB⟩
 | build outs ins imp ord r own =>
  obtain ⟨Bp, Bx, X, v0, v1, v2, v3, vS, rfl, rfl, hbp, hbx, hbX, hX, h0, h1, h2, h3, hS⟩ := hC
  obtain ⟨sO, sI, lS, hr, _⟩ := i7
  have HC := Lib.hid (over89_calls base B X Bp Bx p vE vP vD vO vR _ _ v0 v1 v2 v3 vS e outs ins imp ord r own w hbB hbX hP hR hbp hbx hX h0 h1 h2 h3 hS sO sI lS i1 (by omega) (by omega) Q tq cq HQ.out htq)
  rw [show Hn p (.build outs ins imp ord r own) e = finE p.outer outs ins r own e from rfl, show Gs p (.build outs ins imp ord r own) = finP p outs ins imp ord r own from rfl]
  have c6 : w.cell? ⟨B, 6, none⟩ = some (.func (.func 89) #[] #[.pointer (some ⟨Bp, 0, none⟩), .pointer (some ⟨Bx, 0, none⟩)]) := Ab hP 6
  clear hP hR hbp hbx hX h0 h1 h2 h3 hS
  go_enter Tryz.func20, Tryz.ntmps20
  go_wp2_with (first | (go_at_call 89; refine HC.out.mono ?_; rintro x w1 ⟨rfl, ⟨wE, wP, wD, wO, wR, _, hp, hr9⟩, hb, hq1⟩; have HQ1 := Aa.mk hq1; have HP1 := Aa.mk hp; have HR1 := Aa.mk hr9; have HB1 := Aa.mk hb; have d5 : w1.cell? ⟨B, 5, none⟩ = some (.func (.func 88) #[] #[.pointer (some ⟨Bp, 0, none⟩), .pointer (some ⟨Bx, 0, none⟩)]) := Ab HP1.out 5; have d6 : w1.cell? ⟨B, 6, none⟩ = some (.func (.func 89) #[] #[.pointer (some ⟨Bp, 0, none⟩), .pointer (some ⟨Bx, 0, none⟩)]) := Ab HP1.out 6; have f5 := As HP1.out 5; have f6 := As HP1.out 6; clear hp hr9 hb))
  go_end0
  exact ⟨rfl, end_nil hbB HP1.out HR1.out, (HB1.out.setCell (p := ⟨B, 6, none⟩) hbB _).setCell (p := ⟨B, 5, none⟩) hbB _, Bc HQ1.out (Kept.then_ (Bm _ B 6 _) (Bm _ B 5 _) (fun k hk => .inl hk)) hQB⟩
end Go.Proofs.YtefheailchihaaaGreatDoor.Print
end
section
namespace Go.Proofs.YtefheailchihaaaGreatDoor.Print
open Go.RowKit Go.Lib Go.Shelf Go.Proofs.YtefheailchihaaaGreatDoorW.PrintWords Go.Proofs.YtefheailchihaaaGreatDoorW.PrintLast Go.Proofs.YtefheailchihaaaGreatDoorW.PrintMore
attribute [local go_sem ↓] Go.wp_at_zero Go.wp_at_succ
attribute [local go_sem] neq1 neq55 nil1 nil55
def isOpen (o : Opn) : Bool := match o with
 | .none => false
 | _ => true
def deepR (p : Pst) (o : Opn) (k v : ByteArray) : Pst × Opn × Int := match o with
 | .none => (p, .none, 0)
 | .rule => (ruleD p k v, .rule, ruleDE p 0 k v)
 | .pool => (poolD p 0 k v, .pool, poolDE p 0 k v)
 | .build outs ins imp ord r own => (p, .build outs ins imp ord r (putL own k (C3 v p.outer p.outer).1), Db (Db 0 (C3 v p.outer p.outer).2) (Cn own k (C3 v p.outer p.outer).1).2)
def B7 (p : Pst) (o : Opn) (t : ByteArray) : Pst × Opn × Int :=
 if B9 (B9 0 (isOpen o)) (Bt t).2.2 = 0 then deepR p o (Bt t).1 (Bt t).2.1 else (p, o, B9 (B9 0 (isOpen o)) (Bt t).2.2)
def Ft (p : Pst) (t : ByteArray) : Pst × Opn × Int :=
 if B9 0 (Bt t).2.2 = 0 then ({ p with outer := putL p.outer (Bt t).1 (C3 (Bt t).2.1 p.outer p.outer).1 }, .none, Db (Db 0 (C3 (Bt t).2.1 p.outer p.outer).2) (Cn p.outer (Bt t).1 (C3 (Bt t).2.1 p.outer p.outer).1).2)
 else (p, .none, B9 0 (Bt t).2.2)
def F8 (p : Pst) (t : ByteArray) : Pst × Opn × Int :=
 let c := cutC 32 t
 if (c.1.toList == [114, 117, 108, 101]) = true then ({ p with rules := p.rules ++ [⟨(oneW 0 c.2.1).1, ⟨#[]⟩, ⟨#[]⟩, false, false⟩] }, .rule, ruleE p 0 c.2.1)
 else if (c.1.toList == [112, 111, 111, 108]) = true then ({ p with pools := p.pools ++ [⟨(oneW 0 c.2.1).1, 0⟩] }, .pool, poolE p 0 c.2.1)
 else if (c.1.toList == [98, 117, 105, 108, 100]) = true then (p, buildO p 0 c.2.1, Hv p 0 c.2.1)
 else if (c.1.toList == [100, 101, 102, 97, 117, 108, 116]) = true then (defP p c.2.1, .none, defE p 0 c.2.1)
 else Ft p t
def Ez (p : Pst) (o : Opn) (d : Bool) (t : ByteArray) : Pst × Opn × Int :=
 if d = true then B7 p o t else if Hn p o 0 = 0 then F8 (Gs p o) t else (Gs p o, .none, Hn p o 0)
theorem Hl (c : UInt8) (s : ByteArray) : (cutC c s).1.size ≤ s.size ∧ (cutC c s).2.1.size ≤ s.size := by
 unfold cutC
 split
 ·constructor
  ·rw [ByteArray.size_extract]; omega
  ·rw [ByteArray.size_extract]; omega
 ·exact ⟨Nat.le_refl _, Nat.zero_le _⟩
theorem bindB_size (t : ByteArray) : (Bt t).1.size ≤ t.size ∧ (Bt t).2.1.size ≤ t.size :=
 ⟨Nat.le_trans (trim_size _) (Hl 61 t).1, Nat.le_trans (trim_size _) (Hl 61 t).2⟩
theorem Cl_kept {w w1 : World} {base B nP nR : Nat} {o : Opn} {vP vD vR fd fo : Value} {S : Nat → Prop} (h : Cl w base B nP nR o vP vD vR fd fo) (hk : Kept w w1 S) (hS : ∀ k, S k → ∃ cells q, w.heap[k]? = some (.cells cells q (0, 0)) ∧ q ∉ [52, 117, 118, 122, 124, 9, 174]) : Cl w1 base B nP nR o vP vD vR fd fo := by
 have ne : ∀ {g t : Nat} {cs : Array Value}, w.heap[g]? = some (.cells cs t (0, 0)) → t ∈ [52, 117, 118, 122, 124, 9, 174] → w1.heap[g]? = some (.cells cs t (0, 0)) := fun {g t cs} hg ht => Bc hg hk (fun hs => by
  obtain ⟨cs2, q, h2, hq⟩ := hS g hs
  rw [hg] at h2
  simp only [Option.some.injEq, Obj.cells.injEq] at h2
  exact hq (h2.2.1 ▸ ht))
 have ap : ∀ {l : List Nat}, (∀ q, q ∈ l → q ∈ [52, 117, 118, 122, 124, 9, 174]) → ∀ k, S k → ∃ cells q, w.heap[k]? = some (.cells cells q (0, 0)) ∧ q ∉ l := fun hl k hs => by
  obtain ⟨cs2, q, h2, hq⟩ := hS k hs
  exact ⟨cs2, q, h2, fun h => hq (hl q h)⟩
 cases o with
 | none => exact h
 | rule =>
  obtain ⟨Bp, Br, g, c, h1, h2, h3, h4, h5⟩ := h
  exact ⟨Bp, Br, g, c, h1, h2, ne h3 (by decide), ne h4 (by decide), h5⟩
 | pool =>
  obtain ⟨Bp, Br, g, c, h1, h2, h3, h4, h5⟩ := h
  exact ⟨Bp, Br, g, c, h1, h2, ne h3 (by decide), ne h4 (by decide), h5⟩
 | build outs ins imp ord r own =>
  obtain ⟨Bp, Bx, X, v0, v1, v2, v3, vS, h1, h2, h3, h4, h5, h6, h7, h8, h9, h10, h11⟩ := h
  exact ⟨Bp, Bx, X, v0, v1, v2, v3, vS, h1, h2, ne h3 (by decide), ne h4 (by decide), h5, ne h6 (by decide), Bf h7 hk (ap (by decide)), Bf h8 hk (ap (by decide)), Bf h9 hk (ap (by decide)), Bf h10 hk (ap (by decide)), Bf h11 hk (ap (by decide))⟩
theorem Cl_below {w w1 : World} {base B nP nR : Nat} {o : Opn} {vP vD vR fd fo : Value} (h : Cl w base B nP nR o vP vD vR fd fo) (hb : Below w.heap.size w w1) : Cl w1 base B nP nR o vP vD vR fd fo := Cl_kept h (Kept.of_below hb (fun _ => False)) (fun k hk => hk.elim)
theorem deepAny_calls (base B : Nat) (p : Pst) (o : Opn) (vE vP vD vO vR fd fo : Value) (k v : ByteArray) (w : World) (hbB : base ≤ B) (h : Pb w B vE vP vD vO vR fd fo 0) (hR : Rows w base p vE vP vD vO vR) (hC : Cl w base B p.pools.length p.rules.length o vP vD vR fd fo) (hI : Inv p o) (ho : isOpen o = true) (hv : v.size ≤ 1048576) :
 ∃ f Bp Bx, fd = .func (.func f) #[] #[.pointer (some ⟨Bp, 0, none⟩), .pointer (some ⟨Bx, 0, none⟩)] ∧ (f = 80 ∨ f = 83 ∨ f = 88) ∧
 Calls Tryz.prog f #[.string k, .string v, .pointer (some ⟨Bp, 0, none⟩), .pointer (some ⟨Bx, 0, none⟩)] w fun x w' => x = .returned (.tuple #[]) ∧ Mst w' base B (deepR p o k v).1 (deepR p o k v).2.1 (deepR p o k v).2.2 ∧ Below base w w' := by
 cases o with
 | none => cases ho
 | rule =>
  obtain ⟨Bp, Br, g, c, rfl, rfl, hbp, hbr, rfl, hn⟩ := hC
  exact ⟨80, Bp, Br, rfl, .inl rfl, deep80_calls base B Bp Br g c p vE vP vD vO _ _ 0 k v w hbB (Kd.R_base hR.2.2.2.2 g rfl) h hR hn hbp hbr rfl rfl⟩
 | pool =>
  obtain ⟨Bp, Br, g, c, rfl, rfl, hbp, hbr, rfl, hn⟩ := hC
  exact ⟨83, Bp, Br, rfl, .inr (.inl rfl), deep83_calls base B Bp Br g c p vE vD vO vR _ _ 0 k v w hbB (Kd.R_base hR.2.1 g rfl) h hR hn hbp hbr rfl rfl⟩
 | build outs ins imp ord r own =>
  obtain ⟨Bp, Bx, X, v0, v1, v2, v3, vS, rfl, rfl, hbp, hbx, hbX, hX, h0, h1, h2, h3, hS⟩ := hC
  obtain ⟨i1, _, _, _, _, _, _, _, lS, _⟩ := hI
  have hBxB : Bx ≠ B := fun q => Du hbx h (by decide) q
  have hBp : ¬ Bp = B := fun q => Du hbp h (by decide) q
  have hBpX : ¬ Bp = X := fun q => Du hbp hX (by decide) q
  have hBxX : ¬ Bx = X := fun q => Du hbx hX (by decide) q
  have hbw : base ≤ w.heap.size := Nat.le_trans hbB (Nat.le_of_lt (Cq h))
  refine ⟨88, Bp, Bx, rfl, .inr (.inr rfl), (deep88_calls B Bp Bx X vE vP vD vO vR _ _ 0 _ _ _ _ _ _ _ _ _ _ _ _ vS base own p.outer k v w h (Ab hbp 0) (Ab hbx 0) hBxB (Cq hbx) hX hS hR.2.2.2.1 hbw lS i1 (by omega) (Nat.le_trans (Gt _ _ _) (by omega))).mono ?_⟩
  rintro x w1 ⟨v', rfl, hS', hX', hP', hk, hb⟩
  have ap : ∀ k, k = B ∨ k = X → ∃ cells q, w.heap[k]? = some (.cells cells q (0, 0)) ∧ (q = 57 ∨ q = 124) := fun k hk => by
   rcases hk with rfl | rfl
   ·exact ⟨_, 57, h, .inl rfl⟩
   ·exact ⟨_, 124, hX, .inr rfl⟩
  have ap2 : ∀ {l : List Nat}, 57 ∉ l → 124 ∉ l → ∀ k, k = B ∨ k = X → ∃ cells q, w.heap[k]? = some (.cells cells q (0, 0)) ∧ q ∉ l := fun h1 h2 k hk => by
   obtain ⟨cs, q, hq, hc⟩ := ap k hk
   exact ⟨cs, q, hq, by rcases hc with rfl | rfl <;> assumption⟩
  exact ⟨rfl, ⟨vE, vP, vD, vO, vR, _, _, hbB, hP', B4 hR hk (ap2 (by decide) (by decide)), Bp, Bx, X, v0, v1, v2, v3, v', rfl, rfl, Bc hbp hk (fun q => q.elim hBp hBpX), Bc hbx hk (fun q => q.elim hBxB hBxX), hbX, hX', Bf h0 hk (ap2 (by decide) (by decide)), Bf h1 hk (ap2 (by decide) (by decide)), Bf h2 hk (ap2 (by decide) (by decide)), Bf h3 hk (ap2 (by decide) (by decide)), hS'⟩, hb base hbB hbX⟩
theorem deepAny_at (base B : Nat) (p : Pst) (o : Opn) (vE vP vD vO vR fo : Value) (f Bp Bx : Nat) (k v : ByteArray) (w : World) (hbB : base ≤ B) (h : Pb w B vE vP vD vO vR (.func (.func f) #[] #[.pointer (some ⟨Bp, 0, none⟩), .pointer (some ⟨Bx, 0, none⟩)]) fo 0) (hR : Rows w base p vE vP vD vO vR) (hC : Cl w base B p.pools.length p.rules.length o vP vD vR (.func (.func f) #[] #[.pointer (some ⟨Bp, 0, none⟩), .pointer (some ⟨Bx, 0, none⟩)]) fo) (hI : Inv p o) (ho : isOpen o = true) (hv : v.size ≤ 1048576) :
 Calls Tryz.prog f #[.string k, .string v, .pointer (some ⟨Bp, 0, none⟩), .pointer (some ⟨Bx, 0, none⟩)] w fun x w' => x = .returned (.tuple #[]) ∧ Mst w' base B (deepR p o k v).1 (deepR p o k v).2.1 (deepR p o k v).2.2 ∧ Below base w w' := by
 obtain ⟨f', Bp', Bx', he, _, hc⟩ := deepAny_calls base B p o vE vP vD vO vR _ fo k v w hbB h hR hC hI ho hv
 simp only [Value.func.injEq, Fn.func.injEq, true_and, Array.mk.injEq, List.cons.injEq, Value.pointer.injEq, Option.some.injEq, Addr.mk.injEq, and_true] at he
 obtain ⟨rfl, rfl, rfl⟩ := he
 exact hc
theorem fd_open {w : World} {base B nP nR : Nat} {o : Opn} {vP vD vR fd fo : Value} (h : Cl w base B nP nR o vP vD vR fd fo) : (isOpen o = false ∧ fd = .nilFunc) ∨ (isOpen o = true ∧ ∃ f Bp Bx, (f = 80 ∨ f = 83 ∨ f = 88) ∧ fd = .func (.func f) #[] #[.pointer (some ⟨Bp, 0, none⟩), .pointer (some ⟨Bx, 0, none⟩)]) := by
 cases o with
 | none => exact .inl ⟨rfl, h.1⟩
 | rule => obtain ⟨Bp, Br, g, c, rfl, _⟩ := h; exact .inr ⟨rfl, _, _, _, by decide, rfl⟩
 | pool => obtain ⟨Bp, Br, g, c, rfl, _⟩ := h; exact .inr ⟨rfl, _, _, _, by decide, rfl⟩
 | build outs ins imp ord r own => obtain ⟨Bp, Bx, X, v0, v1, v2, v3, vS, rfl, _⟩ := h; exact .inr ⟨rfl, _, _, _, by decide, rfl⟩
theorem lineDeep_calls (base B : Nat) (p : Pst) (o : Opn) (t : ByteArray) (ht : t.size ≤ 1048576) (w : World) (hbw : base ≤ w.heap.size) (h : Mst w base B p o 0) (hI : Inv p o) :
 Calls Tryz.prog 19 #[.pointer (some ⟨B, 0, none⟩), .agg #[.bool true, .string t]] w fun x w' => x = .returned (.tuple #[]) ∧ Mst w' base B (B7 p o t).1 (B7 p o t).2.1 (B7 p o t).2.2 ∧ Below base w w' := by
 obtain ⟨vE, vP, vD, vO, vR, fd, fo, hbB, hP, hR, hC⟩ := h
 have hB := Cq hP
 have hQB : ¬ w.heap.size = B := by omega
 have hbs := bindB_size t
 have hmf : ∀ (fn : Fn) (first cap : Array Value) (w : World), (Instr.makeFunc fn first cap).run Tryz.prog w = .ok (.func fn first cap) w := fun _ _ _ _ => rfl
 unfold B7
 rcases fd_open hC with ⟨ho, rfl⟩ | ⟨ho, f, Bp, Bx, hf, rfl⟩
 ·rw [ho]
  have hn : ¬ B9 (B9 0 false) (Bt t).2.2 = 0 := by
   cases (Bt t).2.2 <;> decide
  rw [if_neg hn]
  have HP := Lib.hid hP
  have HR := Lib.hid hR
  have HCl := Lib.hid hC
  have HA := Aa.mk ((Below.refl w.heap.size w).alloc (Nat.le_refl _) (.cells #[.bool true, .string t] 59))
  have HPa := Aa.mk (Cf HP.out HA.out)
  have HQa := Aa.mk (Cv w (.cells #[.bool true, .string t] 59))
  have c5 : (w.alloc (.cells #[.bool true, .string t] 59)).cell? ⟨B, 5, none⟩ = some .nilFunc := Ab HPa.out 5
  have HRa := Aa.mk (Cb HR.out HA.out)
  have HCa := Aa.mk (Cl_below HCl.out HA.out)
  have HBa := Aa.mk (HA.out.mono hbw)
  have HN := Lib.hid hn
  obtain ⟨e2, he2⟩ : ∃ q, B9 (B9 0 false) (Bt t).2.2 = q := ⟨_, rfl⟩
  rw [he2] at hn ⊢
  have HE := Lib.hid he2
  have hnb : (e2 == 0) = false := beq_eq_false_iff_ne.2 hn
  clear hP hR hC HP HR HCl HA he2 hn HN
  go_enter Tryz.func19, Tryz.ntmps19
  go_wp2_with (first | (go_at_call 40; refine (C6 B vE vP vD vO vR .nilFunc fo 0 false _ HPa.out).mono ?_; rintro x w1 ⟨rfl, hp, hk, hb⟩; have HP1 := Aa.mk hp; have HR1 := Aa.mk (B4 HRa.out hk (Ca HPa.out (by decide))); have HC1 := Aa.mk (Cl_kept HCa.out hk (Dj HPa.out (by decide))); have HQ1 := Aa.mk (Bc HQa.out hk hQB); have HB1 := Aa.mk (HBa.out.trans (hb base hbB)); have q1 : w1.cell? ⟨w.heap.size, 1, none⟩ = some (.string t) := Ab HQ1.out 1; clear hp hk hb HPa HRa HCa HQa HBa) | (go_at_call 41; refine (bind_calls B vE vP vD vO vR .nilFunc fo _ t ht _ HP1.out).mono ?_; rw [HE.out]; rintro x w2 ⟨rfl, hp, hk, hb⟩; have HP2 := Aa.mk hp; have HR2 := Aa.mk (B4 HR1.out hk (Ca HP1.out (by decide))); have HC2 := Aa.mk (Cl_kept HC1.out hk (Dj HP1.out (by decide))); have HB2 := Aa.mk (HB1.out.trans (hb base hbB)); have q2 : w2.cell? ⟨B, 7, none⟩ = some (.int .i64 e2) := Ab HP2.out 7; clear hp hk hb HP1 HR1 HC1 HQ1 HB1 q1))
  refine bodyPost_ret (results_none rfl _ _ _) rfl ?_
  exact ⟨rfl, ⟨_, _, _, _, _, _, _, hbB, HP2.out, HR2.out, HC2.out⟩, HB2.out⟩
 ·rw [ho]
  have hn0 : B9 0 true = 0 := by decide
  rw [hn0]
  obtain ⟨⟨k, v, ok⟩, hbq⟩ : ∃ q, Bt t = q := ⟨_, rfl⟩
  have HBQ := Lib.hid hbq
  rw [hbq] at hbs ⊢
  clear hbq
  simp only at hbs ⊢
  obtain ⟨e2, he2⟩ : ∃ q, B9 0 ok = q := ⟨_, rfl⟩
  rw [he2]
  have HE := Lib.hid he2
  clear he2
  have HP := Lib.hid hP
  have HR := Lib.hid hR
  have HCl := Lib.hid hC
  have HIv := Lib.hid hI
  have HA := Aa.mk ((Below.refl w.heap.size w).alloc (Nat.le_refl _) (.cells #[.bool true, .string t] 59))
  have HPa := Aa.mk (Cf HP.out HA.out)
  have HQa := Aa.mk (Cv w (.cells #[.bool true, .string t] 59))
  have c5 : (w.alloc (.cells #[.bool true, .string t] 59)).cell? ⟨B, 5, none⟩ = some (.func (.func f) #[] #[.pointer (some ⟨Bp, 0, none⟩), .pointer (some ⟨Bx, 0, none⟩)]) := Ab HPa.out 5
  have HRa := Aa.mk (Cb HR.out HA.out)
  have HCa := Aa.mk (Cl_below HCl.out HA.out)
  have HBa := Aa.mk (HA.out.mono hbw)
  have hv : v.size ≤ 1048576 := Nat.le_trans hbs.2 ht
  clear hP hR hC hI HP HR HCl HA hbs
  by_cases h0 : e2 = 0
  ·subst h0
   rw [if_pos rfl]
   obtain ⟨⟨P', O', E'⟩, hD⟩ : ∃ q, deepR p o k v = q := ⟨_, rfl⟩
   rw [hD]
   have HD := Lib.hid hD
   clear hD
   simp only
   rcases hf with rfl | rfl | rfl <;> (
    go_enter Tryz.func19, Tryz.ntmps19
    go_wp2_with (first | (go_at_call 40; refine (C6 B vE vP vD vO vR _ fo 0 true _ HPa.out).mono ?_; rw [hn0]; rintro x w1 ⟨rfl, hp, hk, hb⟩; have HP1 := Aa.mk hp; have HR1 := Aa.mk (B4 HRa.out hk (Ca HPa.out (by decide))); have HC1 := Aa.mk (Cl_kept HCa.out hk (Dj HPa.out (by decide))); have HQ1 := Aa.mk (Bc HQa.out hk hQB); have HB1 := Aa.mk (HBa.out.trans (hb base hbB)); have q1 : w1.cell? ⟨w.heap.size, 1, none⟩ = some (.string t) := Ab HQ1.out 1; clear hp hk hb HPa HRa HCa HQa HBa) | (go_at_call 41; refine (bind_calls B vE vP vD vO vR _ fo _ t ht _ HP1.out).mono ?_; rw [HBQ.out]; simp only; rw [HE.out]; rintro x w2 ⟨rfl, hp, hk, hb⟩; have HP2 := Aa.mk hp; have HR2 := Aa.mk (B4 HR1.out hk (Ca HP1.out (by decide))); have HC2 := Aa.mk (Cl_kept HC1.out hk (Dj HP1.out (by decide))); have HB2 := Aa.mk (HB1.out.trans (hb base hbB)); have q2 : w2.cell? ⟨B, 7, none⟩ = some (.int .i64 0) := Ab HP2.out 7; have q3 : w2.cell? ⟨B, 5, none⟩ = some (.func (.func _) #[] #[.pointer (some ⟨Bp, 0, none⟩), .pointer (some ⟨Bx, 0, none⟩)]) := Ab HP2.out 5; have HCALL := Lib.hid (deepAny_at base B p o vE vP vD vO vR fo _ Bp Bx k v w2 hbB HP2.out HR2.out HC2.out HIv.out ho hv); rw [HD.out] at HCALL; clear hp hk hb HP1 HR1 HC1 HQ1 HB1 q1) | (go_at_call 80; refine HCALL.out.mono ?_; rintro x w3 ⟨rfl, hm, hb⟩; have HM3 := Aa.mk hm; have HB3 := Aa.mk (HB2.out.trans hb); clear hm hb) | (go_at_call 83; refine HCALL.out.mono ?_; rintro x w3 ⟨rfl, hm, hb⟩; have HM3 := Aa.mk hm; have HB3 := Aa.mk (HB2.out.trans hb); clear hm hb) | (go_at_call 88; refine HCALL.out.mono ?_; rintro x w3 ⟨rfl, hm, hb⟩; have HM3 := Aa.mk hm; have HB3 := Aa.mk (HB2.out.trans hb); clear hm hb))
    refine bodyPost_ret (results_none rfl _ _ _) rfl ?_
    exact ⟨rfl, HM3.out, HB3.out⟩)
  ·rw [if_neg h0]
   have hnb : (e2 == 0) = false := beq_eq_false_iff_ne.2 h0
   simp only
   go_enter Tryz.func19, Tryz.ntmps19
   go_wp2_with (first | (go_at_call 40; refine (C6 B vE vP vD vO vR _ fo 0 true _ HPa.out).mono ?_; rw [hn0]; rintro x w1 ⟨rfl, hp, hk, hb⟩; have HP1 := Aa.mk hp; have HR1 := Aa.mk (B4 HRa.out hk (Ca HPa.out (by decide))); have HC1 := Aa.mk (Cl_kept HCa.out hk (Dj HPa.out (by decide))); have HQ1 := Aa.mk (Bc HQa.out hk hQB); have HB1 := Aa.mk (HBa.out.trans (hb base hbB)); have q1 : w1.cell? ⟨w.heap.size, 1, none⟩ = some (.string t) := Ab HQ1.out 1; clear hp hk hb HPa HRa HCa HQa HBa) | (go_at_call 41; refine (bind_calls B vE vP vD vO vR _ fo _ t ht _ HP1.out).mono ?_; rw [HBQ.out]; simp only; rw [HE.out]; rintro x w2 ⟨rfl, hp, hk, hb⟩; have HP2 := Aa.mk hp; have HR2 := Aa.mk (B4 HR1.out hk (Ca HP1.out (by decide))); have HC2 := Aa.mk (Cl_kept HC1.out hk (Dj HP1.out (by decide))); have HB2 := Aa.mk (HB1.out.trans (hb base hbB)); have q2 : w2.cell? ⟨B, 7, none⟩ = some (.int .i64 e2) := Ab HP2.out 7; clear hp hk hb HP1 HR1 HC1 HQ1 HB1 q1))
   refine bodyPost_ret (results_none rfl _ _ _) rfl ?_
   exact ⟨rfl, ⟨_, _, _, _, _, _, _, hbB, HP2.out, HR2.out, HC2.out⟩, HB2.out⟩
theorem Mst_below {w w1 : World} {base B : Nat} {p : Pst} {o : Opn} {e : Int} (h : Mst w base B p o e) (hb : Below w.heap.size w w1) : Mst w1 base B p o e := by
 obtain ⟨vE, vP, vD, vO, vR, fd, fo, h1, h2, h3, h4⟩ := h
 exact ⟨vE, vP, vD, vO, vR, fd, fo, h1, Cf h2 hb, Cb h3 hb, Cl_below h4 hb⟩
theorem over_same (p : Pst) (o : Opn) : (Gs p o).rules = p.rules ∧ (Gs p o).pools = p.pools ∧ (Gs p o).defs = p.defs ∧ (Gs p o).outer = p.outer := by
 cases o <;> exact ⟨rfl, rfl, rfl, rfl⟩
theorem lineFlat_calls (base B : Nat) (p : Pst) (o : Opn) (t : ByteArray) (ht : t.size ≤ 1048576) (w : World) (hbw : base ≤ w.heap.size) (h : Mst w base B p o 0) (hI : Inv p o) :
 Calls Tryz.prog 19 #[.pointer (some ⟨B, 0, none⟩), .agg #[.bool false, .string t]] w fun x w' => x = .returned (.tuple #[]) ∧ Mst w' base B (Ez p o false t).1 (Ez p o false t).2.1 (Ez p o false t).2.2 ∧ Below base w w' := by
 have hbB : base ≤ B := by obtain ⟨_, _, _, _, _, _, _, hbB, _⟩ := h; exact hbB
 have hmf : ∀ (fn : Fn) (first cap : Array Value) (w : World), (Instr.makeFunc fn first cap).run Tryz.prog w = .ok (.func fn first cap) w := fun _ _ _ _ => rfl
 have hos := over_same p o
 have hlr : (Gs p o).rules.length ≤ 1048576 := by rw [hos.1]; have := hI.2.2.1; omega
 have hlp : (Gs p o).pools.length ≤ 1048576 := by rw [hos.2.1]; have := hI.2.2.2.1; omega
 have hld : (Gs p o).defs.length ≤ 1048576 := by rw [hos.2.2.1]; have := hI.2.2.2.2.2.1; omega
 have hlo : Ei (Gs p o).outer = true := by rw [hos.2.2.2]; exact hI.1
 clear hos
 unfold Ez
 rw [if_neg (by decide : ¬ (false = true))]
 have HIv := Lib.hid hI
 have HA := Aa.mk ((Below.refl w.heap.size w).alloc (Nat.le_refl _) (.cells #[.bool false, .string t] 59))
 have HMa := Aa.mk (Mst_below h HA.out)
 have HQa := Aa.mk (Cv w (.cells #[.bool false, .string t] 59))
 have HBa := Aa.mk (HA.out.mono hbw)
 have hsz : w.heap.size ≤ (w.alloc (.cells #[.bool false, .string t] 59)).heap.size := HA.out.size
 have HEN := Lib.hid (end_calls base B p o 0 (w.alloc (.cells #[.bool false, .string t] 59)) HMa.out hI w.heap.size 59 _ HQa.out (by decide))
 clear h hI HA
 obtain ⟨e1, he1⟩ : ∃ q, Hn p o 0 = q := ⟨_, rfl⟩
 obtain ⟨P1, hP1⟩ : ∃ q, Gs p o = q := ⟨_, rfl⟩
 rw [he1, hP1] at HEN
 rw [he1, hP1]
 rw [hP1] at hlr hlp hld hlo
 clear he1 hP1
 by_cases h0 : e1 = 0
 ·subst h0
  rw [if_pos rfl]
  obtain ⟨⟨P', O', E'⟩, hF⟩ : ∃ q, F8 P1 t = q := ⟨_, rfl⟩
  rw [hF]
  simp only
  have hcs := Hl 32 t
  have HCU : Hid (∀ W, Calls Tryz.prog 36 #[.string t, .string ⟨#[32]⟩] W fun x w' => x = .returned (.tuple #[.string (cutC 32 t).1, .string (cutC 32 t).2.1, .bool (cutC 32 t).2.2]) ∧ ∃ n, w' = W.drewN n) := Lib.hid (fun W => cut_callsC 32 t (by omega) W)
  unfold F8 at hF
  simp only at hF
  obtain ⟨⟨c1, c2, c3⟩, hc⟩ : ∃ q, cutC 32 t = q := ⟨_, rfl⟩
  rw [hc] at hF hcs HCU
  clear hc
  simp only at hF hcs HCU
  have hc2 : c2.size ≤ 1048576 := Nat.le_trans hcs.2 ht
  clear hcs
  have HF := Lib.hid hF
  clear hF
  have HLO := Aa.mk hlo
  go_enter Tryz.func19, Tryz.ntmps19
  go_upto_region 9 with (first | (go_at_call 20; refine HEN.out.mono ?_; rintro x w1 ⟨rfl, ⟨vE, vP, vD, vO, vR, fd, fo, _, hp, hr, rfl, rfl⟩, hb, hq⟩; have HP1 := Aa.mk hp; have HR1 := Aa.mk hr; have HQ1 := Aa.mk hq; have HB1 := Aa.mk (HBa.out.trans hb); have q1 : w1.cell? ⟨w.heap.size, 1, none⟩ = some (.string t) := Ab HQ1.out 1; have q2 : w1.cell? ⟨B, 7, none⟩ = some (.int .i64 0) := Ab HP1.out 7; clear hp hr hb hq HMa HQa HBa) | (go_at_call 36; refine (HCU.out _).mono ?_; rintro x w2 ⟨rfl, n, hw2⟩; have hd := Cu (Below.refl w1.heap.size w1) n; rw [← hw2] at hd; have HP2 := Aa.mk (Cf HP1.out hd); have HR2 := Aa.mk (Cb HR1.out hd); have HQ2 := Aa.mk (Aj HQ1.out hd); have HB2 := Aa.mk (HB1.out.trans (hd.mono (Nat.le_trans hbw HB1.out.size))); clear hd hw2 HP1 HR1 HQ1 HB1 q1 q2))
  cases k1 : (c1.toList == [114, 117, 108, 101]) with
  | true =>
   have hf := HF.out
   rw [if_pos k1] at hf
   simp only [Prod.mk.injEq] at hf
   obtain ⟨f1, f2, f3⟩ := hf
   have hC := ruleLine_calls base B P1 vE vP vD vO vR .nilFunc .nilFunc 0 c2 hc2 hlr w2 hbB (Nat.le_trans hbw HB2.out.size) HP2.out HR2.out
   rw [f1, f2, f3] at hC
   have HC := Lib.hid hC
   clear hC f1 f2 f3
   go_wp2_with (first | (go_at_call 42; refine HC.out.mono ?_; rintro x w3 ⟨rfl, hm, hb⟩; have HM3 := Aa.mk hm; have HB3 := Aa.mk (HB2.out.trans hb); clear hm hb))
   go_end0
   exact ⟨rfl, HM3.out, HB3.out⟩
  | false =>
  cases k2 : (c1.toList == [112, 111, 111, 108]) with
  | true =>
   have hf := HF.out
   rw [if_neg (by rw [k1]; decide), if_pos k2] at hf
   simp only [Prod.mk.injEq] at hf
   obtain ⟨f1, f2, f3⟩ := hf
   have hC := poolLine_calls base B P1 vE vP vD vO vR .nilFunc .nilFunc 0 c2 hc2 hlp w2 hbB (Nat.le_trans hbw HB2.out.size) HP2.out HR2.out
   rw [f1, f2, f3] at hC
   have HC := Lib.hid hC
   clear hC f1 f2 f3
   go_wp2_with (first | (go_at_call 43; refine HC.out.mono ?_; rintro x w3 ⟨rfl, hm, hb⟩; have HM3 := Aa.mk hm; have HB3 := Aa.mk (HB2.out.trans hb); clear hm hb))
   go_end0
   exact ⟨rfl, HM3.out, HB3.out⟩
  | false =>
  cases k3 : (c1.toList == [98, 117, 105, 108, 100]) with
  | true =>
   have hf := HF.out
   rw [if_neg (by rw [k1]; decide), if_neg (by rw [k2]; decide), if_pos k3] at hf
   simp only [Prod.mk.injEq] at hf
   obtain ⟨f1, f2, f3⟩ := hf
   have hC := buildLine_calls base B P1 vE vP vD vO vR 0 c2 hc2 w2 hbB (Nat.le_trans hbw HB2.out.size) HP2.out HR2.out
   rw [f2, f3] at hC
   have HC := Lib.hid hC
   subst f1
   clear hC f2 f3
   go_wp2_with (first | (go_at_call 44; refine HC.out.mono ?_; rintro x w3 ⟨rfl, hm, hb⟩; have HM3 := Aa.mk hm; have HB3 := Aa.mk (HB2.out.trans hb); clear hm hb))
   go_end0
   exact ⟨rfl, HM3.out, HB3.out⟩
  | false =>
  cases k4 : (c1.toList == [100, 101, 102, 97, 117, 108, 116]) with
  | true =>
   have hf := HF.out
   rw [if_neg (by rw [k1]; decide), if_neg (by rw [k2]; decide), if_neg (by rw [k3]; decide), if_pos k4] at hf
   simp only [Prod.mk.injEq] at hf
   obtain ⟨f1, f2, f3⟩ := hf
   have hC := defaultLine_calls base B P1 vE vP vD vO vR 0 c2 hc2 hld w2 hbB HP2.out HR2.out
   rw [f1, f2, f3] at hC
   have HC := Lib.hid hC
   clear hC f1 f2 f3
   go_wp2_with (first | (go_at_call 45; refine HC.out.mono ?_; rintro x w3 ⟨rfl, hm, hb⟩; have HM3 := Aa.mk hm; have HB3 := Aa.mk (HB2.out.trans hb); clear hm hb))
   go_end0
   exact ⟨rfl, HM3.out, HB3.out⟩
  | false =>
   have hf := HF.out
   rw [if_neg (by rw [k1]; decide), if_neg (by rw [k2]; decide), if_neg (by rw [k3]; decide), if_neg (by rw [k4]; decide)] at hf
   unfold Ft at hf
   have hbs := bindB_size t
   obtain ⟨⟨k, v, ok⟩, hbq⟩ : ∃ q, Bt t = q := ⟨_, rfl⟩
   have HBQ := Lib.hid hbq
   rw [hbq] at hbs hf
   clear hbq
   simp only at hbs hf
   have hv : v.size ≤ 1048576 := Nat.le_trans hbs.2 ht
   clear hbs
   have q3 : w2.cell? ⟨w.heap.size, 1, none⟩ = some (.string t) := Ab HQ2.out 1
   by_cases hok : B9 0 ok = 0
   ·rw [if_pos hok] at hf
    simp only [Prod.mk.injEq] at hf
    obtain ⟨f1, f2, f3⟩ := hf
    obtain ⟨Ao, co, rfl⟩ := Kd.Bd HR2.out.2.2.2.1
    have F1 := Lib.hid f1
    have F3 := Lib.hid f3
    subst f2
    clear f1 f3
    go_wp2_with (first | (go_at_call 41; refine (bind_calls B vE vP vD _ vR .nilFunc .nilFunc 0 t ht _ HP2.out).mono ?_; rw [HBQ.out]; simp only; rw [hok]; rintro x w3 ⟨rfl, hp, hk, hb⟩; have HP3 := Aa.mk hp; have HR3 := Aa.mk (B4 HR2.out hk (Ca HP2.out (by decide))); have HB3 := Aa.mk (HB2.out.trans (hb base hbB)); have q4 : w3.cell? ⟨B, 7, none⟩ = some (.int .i64 0) := Ab HP3.out 7; have q5 : w3.cell? ⟨B, 3, none⟩ = some (.slice Ao P1.outer.length co) := Ab HP3.out 3; clear hp hk hb HP2 HR2 HB2 q3) | (go_at_call 46; refine (setv_calls B vE vP vD _ vR .nilFunc .nilFunc 0 base _ P1.outer P1.outer k v _ HP3.out HR3.out.2.2.2.1 HR3.out.2.2.2.1 (Nat.le_trans hbw HB3.out.size) HLO.out HLO.out (by omega) (Nat.le_trans (Gt _ _ _) (by omega))).mono ?_; rw [F3.out]; rintro x w4 ⟨v', rfl, hrow, hp, hk, hb⟩; obtain ⟨A5, c5, rfl⟩ := Kd.Bd hrow; have HP4 := Aa.mk hp; have HR4 := Aa.mk (B4 HR3.out hk (Ca HP3.out (by decide))); have HB4 := Aa.mk (HB3.out.trans (hb base hbB)); have RS4 := Aa.mk hrow; have q6 := Ab HP4.out 3; have q7 := As HP4.out 3; clear hrow hp hk hb HP3 HR3 HB3 q4 q5))
    go_end0
    rw [← F1.out]
    obtain ⟨r1, r2, r3, _, r5⟩ := HR4.out
    have hk := Bm w4 B 3 (.slice A5 (putL P1.outer k (C3 v P1.outer P1.outer).1).length c5)
    exact ⟨rfl, ⟨vE, vP, vD, _, vR, _, _, hbB, Az HP4.out 3 _ rfl, B4 (show Rows _ base { P1 with outer := putL P1.outer k (C3 v P1.outer P1.outer).1 } vE vP vD (.slice A5 (putL P1.outer k (C3 v P1.outer P1.outer).1).length c5) vR from ⟨r1, r2, r3, RS4.out, r5⟩) hk (Ca HP4.out (by decide)), rfl, rfl⟩, HB4.out.setCell (p := ⟨B, 3, none⟩) hbB _⟩
   ·rw [if_neg hok] at hf
    simp only [Prod.mk.injEq] at hf
    obtain ⟨rfl, rfl, f3⟩ := hf
    rw [f3] at hok
    have hokb : (E' == 0) = false := beq_eq_false_iff_ne.2 hok
    have F3 := Lib.hid f3
    clear f3
    go_wp2_with (first | (go_at_call 41; refine (bind_calls B vE vP vD vO vR .nilFunc .nilFunc 0 t ht _ HP2.out).mono ?_; rw [HBQ.out]; simp only; rw [F3.out]; rintro x w3 ⟨rfl, hp, hk, hb⟩; have HP3 := Aa.mk hp; have HR3 := Aa.mk (B4 HR2.out hk (Ca HP2.out (by decide))); have HB3 := Aa.mk (HB2.out.trans (hb base hbB)); have q4 : w3.cell? ⟨B, 7, none⟩ = some (.int .i64 E') := Ab HP3.out 7; clear hp hk hb HP2 HR2 HB2 q3))
    go_end0
    exact ⟨rfl, ⟨vE, vP, vD, vO, vR, _, _, hbB, HP3.out, HR3.out, rfl, rfl⟩, HB3.out⟩
 ·rw [if_neg h0]
  simp only
  have h0b : (e1 != 0) = true := bne_iff_ne.2 h0
  go_enter Tryz.func19, Tryz.ntmps19
  go_wp2_with (first | (go_at_call 20; refine HEN.out.mono ?_; rintro x w1 ⟨rfl, hm, hb, hq⟩; have HM1 := Aa.mk hm; have HB1 := Aa.mk (HBa.out.trans hb); obtain ⟨vE, vP, vD, vO, vR, fd, fo, _, hp, _⟩ := hm; have q2 : w1.cell? ⟨B, 7, none⟩ = some (.int .i64 e1) := Ab hp 7; clear hp hb hq HMa HQa HBa))
  refine bodyPost_ret (results_none rfl _ _ _) rfl ?_
  exact ⟨rfl, HM1.out, HB1.out⟩
theorem line_calls (base B : Nat) (p : Pst) (o : Opn) (d : Bool) (t : ByteArray) (ht : t.size ≤ 1048576) (w : World) (hbw : base ≤ w.heap.size) (h : Mst w base B p o 0) (hI : Inv p o) :
 Calls Tryz.prog 19 #[.pointer (some ⟨B, 0, none⟩), .agg #[.bool d, .string t]] w fun x w' => x = .returned (.tuple #[]) ∧ Mst w' base B (Ez p o d t).1 (Ez p o d t).2.1 (Ez p o d t).2.2 ∧ Below base w w' := by
 cases d with
 | true => exact lineDeep_calls base B p o t ht w hbw h hI
 | false => exact lineFlat_calls base B p o t ht w hbw h hI
end Go.Proofs.YtefheailchihaaaGreatDoor.Print
end
section
namespace Go.Proofs.YtefheailchihaaaGreatDoor.Print
open Go.RowKit Go.Lib Go.Shelf Go.Proofs.YtefheailchihaaaGreatDoorW.PrintWords Go.Proofs.YtefheailchihaaaGreatDoorW.PrintLast Go.Proofs.YtefheailchihaaaGreatDoorW.PrintMore
def pst0 : Pst := ⟨[], [], [], [], []⟩
def Fw : List S59 → Pst → Opn → Pst × Opn × Int
 | [], p, o => (p, o, 0)
 | x :: l, p, o => if (Ez p o x.f0 x.f1).2.2 = 0 then Fw l (Ez p o x.f0 x.f1).1 (Ez p o x.f0 x.f1).2.1 else Ez p o x.f0 x.f1
def Ig (r : Pst × Opn × Int) : List S42 × List S44 × List ByteArray × Int :=
 if r.2.2 = 0 then (if Hn r.1 r.2.1 0 = 0 then ((Gs r.1 r.2.1).edges, (Gs r.1 r.2.1).pools, (Gs r.1 r.2.1).defs, 0) else ([], [], [], Hn r.1 r.2.1 0)) else ([], [], [], r.2.2)
def Ge (s : ByteArray) : List S42 × List S44 × List ByteArray × Int := if (Ef s).2 = 0 then Ig (Fw (Ef s).1 pst0 .none) else ([], [], [], 800)
theorem Gu {e : Int} {b : Bool} (h : B9 e b = 0) : e = 0 ∧ b = true := by
 unfold B9 at h
 split at h
 ·exact absurd h (by decide)
 ·rename_i hn
  cases b
  ·exact absurd ⟨rfl, h⟩ hn
  ·exact ⟨h, rfl⟩
theorem Hg {e : Int} {b : Bool} (h : Gr e b = 0) : e = 0 ∧ b = true := by
 unfold Gr at h
 split at h
 ·exact absurd h (by decide)
 ·rename_i hn
  cases b
  ·exact absurd ⟨rfl, h⟩ hn
  ·exact ⟨h, rfl⟩
theorem tookE_zero {e c : Int} (h : Db e c = 0) : e = 0 ∧ c = 0 := by
 obtain ⟨h1, h2⟩ := Gu h
 exact ⟨(Hg h1).1, by simpa using h2⟩
theorem cleanGo_mem : ∀ (l kept r : List ByteArray), C4 kept l = some r → (∀ x ∈ r, x ∈ kept ∨ x ∈ l) ∧ r.length ≤ kept.length + l.length
 | [], kept, r, h => by
  simp only [C4, Option.some.injEq] at h
  subst h
  exact ⟨fun x hx => .inl hx, by simp⟩
 | p :: l, kept, r, h => by
  unfold C4 at h
  split at h
  ·obtain ⟨h1, h2⟩ := cleanGo_mem l kept r h
   exact ⟨fun x hx => (h1 x hx).imp id (List.mem_cons_of_mem _), by simp only [List.length_cons]; omega⟩
  split at h
  ·obtain ⟨h1, h2⟩ := cleanGo_mem l _ r h
   refine ⟨fun x hx => ?_, by simp only [List.length_append, List.length_cons, List.length_nil] at h2 ⊢; omega⟩
   rcases h1 x hx with h3 | h3
   ·rcases List.mem_append.1 h3 with h3 | h3
    ·exact .inl h3
    ·rw [List.mem_singleton.1 h3]; exact .inr List.mem_cons_self
   ·exact .inr (List.mem_cons_of_mem _ h3)
  split at h
  ·cases h
  ·obtain ⟨h1, h2⟩ := cleanGo_mem l _ r h
   refine ⟨fun x hx => (h1 x hx).imp (fun h3 => List.mem_of_mem_take h3) (List.mem_cons_of_mem _), by simp only [List.length_take, List.length_cons] at h2 ⊢; omega⟩
theorem cleanB_size (s : ByteArray) : (Ej s).1.size ≤ 1048576 := by
 unfold Ej
 split
 ·rename_i hm
  have hs : s.size ≤ 16 := by
   have := hm.1
   unfold Ce at this
   simp only [Bool.and_eq_true, decide_eq_true_eq] at this
   exact this.2.1
  cases hc : C4 [] (splitB 47 s.data.toList) with
  | none => exact Nat.zero_le _
  | some kept =>
   simp only
   split
   ·exact Nat.zero_le _
   ·obtain ⟨h1, h2⟩ := cleanGo_mem _ _ _ hc
    have hk : ∀ y ∈ kept, y.size ≤ 16 := fun y hy => by
     rcases h1 y hy with h3 | h3
     ·simp at h3
     ·have := splitB_size 47 s.data.toList y h3
      have h5 := Lib.size_eq s
      omega
    have hl : kept.length ≤ 17 := by
     rw [splitB_len] at h2
     have h4 : s.data.toList.count 47 ≤ s.data.toList.length := List.count_le_length
     have h5 := Lib.size_eq s
     simp only [List.length_nil] at h2
     omega
    have h4 := join_le 16 kept [47] hk
    show (Lib.join (kept.map (·.data.toList)) [47]).toArray.size ≤ _
    rw [List.size_toArray]
    simp only [List.length_cons, List.length_nil] at h4
    omega
 ·exact Nat.zero_le _
theorem small_clean {xs : List ByteArray} (h : F4 xs) : F4 (Bz xs) := by
 refine ⟨fun x hx => ?_, by unfold Bz; rw [List.length_map]; exact h.2⟩
 unfold Bz at hx
 obtain ⟨y, _, rfl⟩ := List.mem_map.1 hx
 exact cleanB_size y
theorem joinGo_size : ∀ (rs : List ByteArray) (line last l : ByteArray) (rest : List ByteArray), Ff line last rs = some (l, rest) → l.size ≤ line.size + (Cx rs).length ∧ (Cx rest).length ≤ (Cx rs).length
 | [], line, last, l, rest, h => by
  unfold Ff at h
  split at h
  ·cases h
  ·simp only [Option.some.injEq, Prod.mk.injEq] at h
   obtain ⟨rfl, rfl⟩ := h
   exact ⟨Nat.le_add_right _ _, Nat.le_refl _⟩
 | r :: rs, line, last, l, rest, h => by
  unfold Ff at h
  have hu := He r rs
  split at h
  ·obtain ⟨h1, h2⟩ := joinGo_size rs _ _ l rest h
   have hf := front_size r
   rw [ByteArray.size_append, ByteArray.size_extract] at h1
   exact ⟨by omega, by omega⟩
  ·simp only [Option.some.injEq, Prod.mk.injEq] at h
   obtain ⟨rfl, rfl⟩ := h
   exact ⟨Nat.le_add_right _ _, Nat.le_refl _⟩
theorem linesGo_size (M : Nat) : ∀ (k : Nat) (rs : List ByteArray) (out : List S59), (Cx rs).length ≤ M → (∀ x ∈ out, x.f1.size ≤ M) → ∀ x ∈ (E8 k rs out).1, x.f1.size ≤ M
 | 0, rs, out, _, ho => by cases rs <;> exact ho
 | _ + 1, [], out, _, ho => ho
 | k + 1, r :: rs, out, hM, ho => by
  unfold E8
  have hu := He r rs
  cases hj : Ff r r rs with
  | none => intro x hx; simp at hx
  | some q =>
   obtain ⟨l, rest⟩ := q
   obtain ⟨h1, h2⟩ := joinGo_size rs r r l rest hj
   refine linesGo_size M k rest _ (by omega) (fun x hx => ?_)
   unfold Gc at hx
   split at hx
   ·exact ho x hx
   ·rcases List.mem_append.1 hx with hx | hx
    ·exact ho x hx
    ·rw [List.mem_singleton.1 hx]
     have := trim_size l
     show (Et l).size ≤ M
     omega
theorem lines_size (s : ByteArray) : ∀ x ∈ (Ef s).1, x.f1.size ≤ 1048576 := by
 unfold Ef
 split
 ·rename_i hm
  unfold mayB at hm
  simp only [Bool.and_eq_true, Bool.or_eq_true, decide_eq_true_eq] at hm
  obtain ⟨h1, _, h2⟩ := hm
  have hu := rows_unrows s h2
  intro x hx
  have h3 := linesGo_size 2048 (rowsOf s).length (rowsOf s) [] (by rw [hu, ← Lib.size_eq]; exact h1) (fun x hx => by simp at hx) x hx
  omega
 ·intro x hx; simp at hx
theorem idx_mem (p : Pst) (s : ByteArray) (h : 0 ≤ idxP (fun x : S116 => x.f0.toList == s.toList) p.rules) : Eh p.rules (idxP (fun x : S116 => x.f0.toList == s.toList) p.rules) ∈ p.rules := by
 have hlt := idxP_lt (fun x : S116 => x.f0.toList == s.toList) p.rules
 have hl : (idxP (fun x : S116 => x.f0.toList == s.toList) p.rules).toNat < p.rules.length := by omega
 unfold Eh
 rw [List.getD_eq_getElem?_getD, List.getElem?_eq_getElem hl]
 exact List.getElem_mem hl
theorem inv_over {p : Pst} {o : Opn} (h : Inv p o) : Inv (Gs p o) .none := by
 obtain ⟨h1, h2, h3, h4, h5, h6, h7⟩ := h
 cases o with
 | build outs ins imp ord r own =>
  refine ⟨h1, h2, h3, h4, ?_, h6, trivial⟩
  show (p.edges ++ [_]).length ≤ 16
  rw [List.length_append, List.length_singleton]
  exact h7.2.2.2.2
 | none => exact ⟨h1, h2, h3, h4, h5, h6, trivial⟩
 | rule => exact ⟨h1, h2, h3, h4, h5, h6, trivial⟩
 | pool => exact ⟨h1, h2, h3, h4, h5, h6, trivial⟩
theorem lastR_small {l : List S116} (h : ∀ x ∈ l, x.f1.size ≤ 1048576) : (Cy l).f1.size ≤ 1048576 := by
 unfold Cy
 rw [List.getD_eq_getElem?_getD]
 cases hx : l[l.length - 1]? with
 | none => exact Nat.zero_le _
 | some x => exact h x (List.mem_of_getElem? hx)
theorem inv_deep {p : Pst} {o : Opn} {k v : ByteArray} (hv : v.size ≤ 1048576) (h : Inv p o) : Inv (deepR p o k v).1 (deepR p o k v).2.1 := by
 obtain ⟨h1, h2, h3, h4, h5, h6, h7⟩ := h
 cases o with
 | none => exact ⟨h1, h2, h3, h4, h5, h6, trivial⟩
 | rule =>
  refine ⟨h1, fun x hx => ?_, ?_, h4, h5, h6, trivial⟩
  ·have hx' : x ∈ p.rules.set (p.rules.length - 1) (Fl p.pools (Cy p.rules) k v).1 := hx
   rcases List.mem_or_eq_of_mem_set hx' with hx' | rfl
   ·exact h2 x hx'
   ·have hl := lastR_small h2
    unfold Fl
    split
    ·exact hv
    split
    ·exact hl
    split
    ·exact hl
    ·exact hl
  ·show (p.rules.set (p.rules.length - 1) _).length ≤ 8
   rw [List.length_set]
   exact h3
 | pool =>
  show Inv (poolD p 0 k v) .pool
  unfold poolD
  split
  ·refine ⟨h1, h2, h3, ?_, h5, h6, trivial⟩
   show (p.pools.set (p.pools.length - 1) _).length ≤ 4
   rw [List.length_set]
   exact h4
  ·exact ⟨h1, h2, h3, h4, h5, h6, trivial⟩
 | build outs ins imp ord r own =>
  obtain ⟨i1, i2, i3, i4, i5⟩ := h7
  exact ⟨h1, h2, h3, h4, h5, h6, i1, i2, long_put i3 _ _ (Nat.le_trans (Gt _ _ _) (by omega)), i4, i5⟩
theorem inv_flat {p : Pst} {t : ByteArray} (ht : t.size ≤ 1048576) (h : Inv p .none) (he : (F8 p t).2.2 = 0) : Inv (F8 p t).1 (F8 p t).2.1 := by
 obtain ⟨h1, h2, h3, h4, h5, h6, _⟩ := h
 have hcs := Hl 32 t
 unfold F8 at he ⊢
 simp only at he ⊢
 generalize cutC 32 t = c at *
 split at he
 ·rename_i hk
  rw [if_pos hk]
  have hr : ruleE p 0 c.2.1 = 0 := he
  have hl := (Hg hr).2
  simp only [decide_eq_true_eq] at hl
  refine ⟨h1, fun x hx => ?_, ?_, h4, h5, h6, trivial⟩
  ·have hx' : x ∈ p.rules ++ [⟨(oneW 0 c.2.1).1, ⟨#[]⟩, ⟨#[]⟩, false, false⟩] := hx
   rcases List.mem_append.1 hx' with hx' | hx'
   ·exact h2 x hx'
   ·rw [List.mem_singleton.1 hx']; exact Nat.zero_le _
  ·show (p.rules ++ [_]).length ≤ 8
   rw [List.length_append, List.length_singleton]
   omega
 rename_i k1
 rw [if_neg k1]
 split at he
 ·rename_i hk
  rw [if_pos hk]
  have hr : poolE p 0 c.2.1 = 0 := he
  have hl := (Hg hr).2
  simp only [decide_eq_true_eq] at hl
  refine ⟨h1, h2, h3, ?_, h5, h6, trivial⟩
  show (p.pools ++ [_]).length ≤ 4
  rw [List.length_append, List.length_singleton]
  omega
 rename_i k2
 rw [if_neg k2]
 split at he
 ·rename_i hk
  rw [if_pos hk]
  have hr : Io p (Cr c.2.1) (Ip p 0 (Cr c.2.1)) = 0 := he
  show Inv p (Im p (Cr c.2.1) (Ip p 0 (Cr c.2.1)))
  unfold Io at hr
  unfold Im
  split at hr
  ·rename_i h0
   rw [if_pos h0]
   have hl := (Hg hr).2
   simp only [decide_eq_true_eq] at hl
   have hi := (Gu h0).2
   simp only [decide_eq_true_eq] at hi
   obtain ⟨s1, s2, _, _⟩ := buildR_small c.2.1 (by omega)
   exact ⟨h1, h2, h3, h4, h5, h6, small_clean s1, small_clean s2, rfl, h2 _ (idx_mem p _ hi), by omega⟩
  ·rename_i h0
   exact absurd hr h0
 rename_i k3
 rw [if_neg k3]
 split at he
 ·rename_i hk
  rw [if_pos hk]
  have hr : defE p 0 c.2.1 = 0 := he
  have hl := (Hg hr).2
  simp only [decide_eq_true_eq] at hl
  refine ⟨h1, h2, h3, h4, h5, ?_, trivial⟩
  show (p.defs ++ Bz (Cj c.2.1)).length ≤ 8
  omega
 rename_i k4
 rw [if_neg k4]
 unfold Ft at he ⊢
 split at he
 ·rename_i h0
  rw [if_pos h0]
  exact ⟨long_put h1 _ _ (Nat.le_trans (Gt _ _ _) (by omega)), h2, h3, h4, h5, h6, trivial⟩
 ·rename_i h0
  exact absurd he h0
theorem inv_line {p : Pst} {o : Opn} {d : Bool} {t : ByteArray} (ht : t.size ≤ 1048576) (h : Inv p o) (he : (Ez p o d t).2.2 = 0) : Inv (Ez p o d t).1 (Ez p o d t).2.1 := by
 unfold Ez at he ⊢
 split at he
 ·rename_i hd
  rw [if_pos hd]
  unfold B7 at he ⊢
  split at he
  ·rename_i h0
   rw [if_pos h0]
   exact inv_deep (Nat.le_trans (bindB_size t).2 ht) h
  ·rename_i h0
   exact absurd he h0
 ·rename_i hd
  rw [if_neg hd]
  split at he
  ·rename_i h0
   rw [if_pos h0]
   exact inv_flat ht (inv_over h) he
  ·rename_i h0
   exact absurd he h0
theorem inv0 : Inv pst0 .none := ⟨rfl, fun x hx => by simp [pst0] at hx, by decide, by decide, by decide, by decide, trivial⟩
theorem wrapM (i : Nat) (h : i ≤ 4611686018427387904) : wrap64 ((i : Int) + 1) = ((i + 1 : Nat) : Int) := by unfold wrap64; omega
theorem extract_mk (s : ByteArray) (a b : Nat) : s.extract a b = ⟨((s.data.toList.drop a).take (b - a)).toArray⟩ := ba_ext (by rw [Lib.extract_data])
theorem refSplitC_go (c : UInt8) (s : ByteArray) (hn : s.size ≤ 1048576) : ∀ (d i j k : Nat) (out : List ByteArray), i + d = s.size → j ≤ i → out.length ≤ i → d + 1 < k →
 Am.l0 k s (c.toNat : Int) out (j : Int) (i : Int) = some (out ++ (Ec c ((s.data.toList.drop j).take (i - j)) (s.data.toList.drop i)).map fun r => ⟨r.toArray⟩)
 | _, _, _, 0, _, _, _, _, h => absurd h (by omega)
 | _, _, _, 1, _, _, _, _, h => absurd h (by omega)
 | 0, i, j, k + 2, out, h, hj, ho, _ => by
  have hi : i = s.size := by omega
  have e1 : Am.l0 (k + 2) s (c.toNat : Int) out (j : Int) (i : Int) = Am.l0 (k + 1) s (c.toNat : Int) (out ++ [s.extract j i]) ((i + 1 : Nat) : Int) ((i + 1 : Nat) : Int) := by
   conv => lhs; unfold Am.l0
   rw [if_pos (by omega), if_pos (by omega), if_pos (by omega), if_pos (by omega), if_pos (by omega), wrapM i (by omega)]
   rfl
  rw [e1]
  unfold Am.l0
  rw [if_neg (by omega), drop_end s i (by omega), extract_mk]
  rfl
 | d + 1, i, j, k + 2, out, h, hj, ho, hk => by
  have hi : i < s.size := by omega
  have hb := Ga s i hi
  have hl := Lib.size_eq s
  rw [E5 s i hi]
  by_cases hc : s[i] = c
  ·have e1 : Am.l0 (k + 2) s (c.toNat : Int) out (j : Int) (i : Int) = Am.l0 (k + 1) s (c.toNat : Int) (out ++ [s.extract j i]) ((i + 1 : Nat) : Int) ((i + 1 : Nat) : Int) := by
    conv => lhs; unfold Am.l0
    rw [if_pos (by omega), if_neg (by omega), if_pos (by omega), if_pos (by omega), if_pos (by rw [hb, hc]), if_pos (by omega), if_pos (by omega), if_pos (by omega), wrapM i (by omega)]
    rfl
   have e2 : Ec c ((s.data.toList.drop j).take (i - j)) (s[i] :: s.data.toList.drop (i + 1)) = ((s.data.toList.drop j).take (i - j)) :: Ec c [] (s.data.toList.drop (i + 1)) := by
    show (if s[i] = c then _ else _) = _
    rw [if_pos hc]
   rw [e1, refSplitC_go c s hn d (i + 1) (i + 1) (k + 1) _ (by omega) (Nat.le_refl _) (by rw [List.length_append, List.length_singleton]; omega) (by omega), e2, Nat.sub_self, List.take_zero, extract_mk, List.map_cons, List.append_assoc]
   rfl
  ·have hne : ¬ bt s (i : Int) = (c.toNat : Int) := by
    rw [hb]
    intro e
    exact hc ((byte_eq s[i] c).1 e)
   have e1 : Am.l0 (k + 2) s (c.toNat : Int) out (j : Int) (i : Int) = Am.l0 (k + 1) s (c.toNat : Int) out (j : Int) ((i + 1 : Nat) : Int) := by
    conv => lhs; unfold Am.l0
    rw [if_pos (by omega), if_neg (by omega), if_pos (by omega), if_pos (by omega), if_neg hne, wrapM i (by omega)]
   have e2 : Ec c ((s.data.toList.drop j).take (i - j)) (s[i] :: s.data.toList.drop (i + 1)) = Ec c ((s.data.toList.drop j).take (i - j) ++ [s[i]]) (s.data.toList.drop (i + 1)) := by
    show (if s[i] = c then _ else _) = _
    rw [if_neg hc]
   have e3 : (s.data.toList.drop j).take (i + 1 - j) = (s.data.toList.drop j).take (i - j) ++ [s[i]] := by
    have h1 : i + 1 - j = (i - j) + 1 := by omega
    have h2 : i - j < (s.data.toList.drop j).length := by rw [List.length_drop]; omega
    rw [h1, List.take_succ_eq_append_getElem h2, List.getElem_drop]
    congr 2
    simp only [Nat.add_sub_cancel' hj]
    rfl
   rw [e1, refSplitC_go c s hn d (i + 1) j (k + 1) out (by omega) (by omega) (by omega) (by omega), e2, e3]
theorem refSplitC (c : UInt8) (s : ByteArray) (hn : s.size ≤ 1048576) (k : Nat) (hk : s.size + 1 < k) : Am.f k s (c.toNat : Int) = some (splitB c s.data.toList) := by
 unfold Am.f
 have := refSplitC_go c s hn s.size 0 0 k [] (by omega) (Nat.le_refl _) (Nat.le_refl _) (by omega)
 rw [show (0 : Int) = ((0 : Nat) : Int) from rfl, this]
 rfl
theorem refSplit47 (s : ByteArray) (hn : s.size ≤ 1048576) (k : Nat) (hk : s.size + 1 < k) : Am.f k s 47 = some (splitB 47 s.data.toList) := refSplitC 47 s hn k hk
theorem refJoin_go (xs : List ByteArray) (sep : ByteArray) (hxs : ∀ x ∈ xs, x.size ≤ 1048576) (hl : xs.length ≤ 1048577) (hs : sep.size ≤ 16) : ∀ (d i k : Nat) (acc : ByteArray), i + d = xs.length → 1 ≤ i → acc.size ≤ 1048592 * i → d < k →
 Bh.l0 k xs sep acc (i : Int) = some ⟨(acc.data.toList ++ Lib.joinTail sep.data.toList ((xs.drop i).map (·.data.toList))).toArray⟩
 | _, _, 0, _, _, _, _, h => absurd h (by omega)
 | 0, i, k + 1, acc, h, h1, ha, hk => by
  unfold Bh.l0
  rw [if_neg (by omega), List.drop_of_length_le (by omega)]
  simp [Lib.joinTail]
 | d + 1, i, k + 1, acc, h, h1, ha, hk => by
  have hi : i < xs.length := by omega
  have hx := hxs xs[i] (List.getElem_mem hi)
  have hr := Ie xs i hi
  have hz : ((acc ++ sep) ++ xs[i]).size = acc.size + sep.size + xs[i].size := by rw [ByteArray.size_append, ByteArray.size_append]
  conv => lhs; unfold Bh.l0
  rw [if_pos (by omega), if_pos (by omega), if_pos (by omega), if_pos (by omega), hr, if_pos (by rw [ByteArray.size_append]; omega), wrapM i (by omega), refJoin_go xs sep hxs hl hs d (i + 1) k _ (by omega) (by omega) (by rw [hz]; omega) (by omega), List.drop_eq_getElem_cons hi]
  simp only [Lib.joinTail, List.map_cons, List.flatten_cons, ByteArray.data_append, Array.toList_append, List.append_assoc]
theorem refJoin (xs : List ByteArray) (sep : ByteArray) (hxs : ∀ x ∈ xs, x.size ≤ 1048576) (hl : xs.length ≤ 1048577) (hs : sep.size ≤ 16) (k : Nat) (hk : xs.length < k) : Bh.f k xs sep = some (Em xs sep) := by
 unfold Bh.f
 obtain ⟨k, rfl⟩ : ∃ m, k = m + 1 := ⟨k - 1, by omega⟩
 cases xs with
 | nil => rfl
 | cons x l =>
  have hx := hxs x List.mem_cons_self
  have hr : rdOf ByteArray.empty (x :: l) 0 = x := rfl
  rw [List.length_cons] at hl hk
  conv => lhs; unfold Bh.l0
  have h0 : (⟨#[]⟩ : ByteArray) ++ x = x := ba_ext (by rw [ByteArray.data_append, Array.toList_append]; rfl)
  rw [if_pos (by rw [List.length_cons]; omega), if_neg (by omega), if_pos (by omega), hr, if_pos (show (⟨#[]⟩ : ByteArray).size + x.size ≤ 9223372036854775807 by show 0 + x.size ≤ _; omega), h0, show wrap64 ((0 : Int) + 1) = ((1 : Nat) : Int) by unfold wrap64; omega, refJoin_go (x :: l) sep hxs (by rw [List.length_cons]; omega) hs l.length 1 k x (by rw [List.length_cons]; omega) (Nat.le_refl _) (by omega) (by omega)]
  unfold Em
  rw [List.map_cons, Lib.join_cons]
  rfl
def cleanAns : Option (List ByteArray) → ByteArray × Int
 | none => (⟨#[]⟩, 200)
 | some kept => if kept.length = 0 then (⟨#[]⟩, 200) else (Em kept ⟨#[47]⟩, 0)
theorem cleanB_eq (s : ByteArray) : Ej s = if Ce s = true ∧ bt s 0 ≠ 47 then cleanAns (C4 [] (splitB 47 s.data.toList)) else (⟨#[]⟩, 200) := by
 unfold Ej cleanAns
 split
 ·cases C4 [] (splitB 47 s.data.toList) <;> rfl
 ·rfl
theorem refClean_go (ps : List ByteArray) (hps : ∀ x ∈ ps, x.size ≤ 1048576) (hl : ps.length ≤ 1048577) : ∀ (d i k : Nat) (kept : List ByteArray), i + d = ps.length → kept.length ≤ i → (∀ x ∈ kept, x.size ≤ 1048576) → 2 * d + ps.length + 1 < k →
 Ak.l0 k ps kept (i : Int) = some (cleanAns (C4 kept (ps.drop i)))
 | _, _, 0, _, _, _, _, h => absurd h (by omega)
 | _, _, 1, _, _, _, _, h => absurd h (by omega)
 | 0, i, k + 2, kept, h, hk, hx, hf => by
  conv => lhs; unfold Ak.l0
  rw [if_neg (by omega), List.drop_of_length_le (by omega)]
  show _ = some (if kept.length = 0 then _ else _)
  by_cases h0 : kept.length = 0
  ·rw [if_pos (by omega), if_pos h0]
  ·rw [if_neg (by omega), if_neg h0, refJoin kept _ hx (by omega) (by decide) (k + 1) (by omega)]
   rfl
 | d + 1, i, k + 2, kept, h, hk, hx, hf => by
  have hi : i < ps.length := by omega
  have hr := Ie ps i hi
  have hpi := hps ps[i] (List.getElem_mem hi)
  have e0 : ∀ b, b = (ps[i].toList == ([] : List UInt8) || ps[i].toList == [46]) → Ak.l0 (k + 2) ps kept (i : Int) = Ak.j2 (k + 1) ps kept (i : Int) ps[i] b := by
   intro b hb
   conv => lhs; unfold Ak.l0
   rw [if_pos (by omega), if_pos (by omega), hr]
   by_cases h0 : ps[i].toList = []
   ·rw [if_pos h0, hb, h0]; rfl
   ·rw [if_neg h0, hb, beq_false_of_ne h0, Bool.false_or]
  rw [e0 _ rfl, List.drop_eq_getElem_cons hi]
  by_cases h1 : ps[i].toList = [] ∨ ps[i].toList = [46]
  ·have hb : (ps[i].toList == ([] : List UInt8) || ps[i].toList == [46]) = true := by
    rcases h1 with h1 | h1 <;> rw [h1] <;> rfl
   rw [hb]
   have e1 : C4 kept (ps[i] :: ps.drop (i + 1)) = C4 kept (ps.drop (i + 1)) := by
    conv => lhs; unfold C4
    rw [if_pos h1]
   rw [e1]
   conv => lhs; unfold Ak.j2
   rw [if_pos rfl, wrapM i (by omega)]
   exact refClean_go ps hps hl d (i + 1) k kept (by omega) (by omega) hx (by omega)
  ·have hb : (ps[i].toList == ([] : List UInt8) || ps[i].toList == [46]) = false := by
    rw [Bool.or_eq_false_iff]
    exact ⟨beq_false_of_ne fun e => h1 (.inl e), beq_false_of_ne fun e => h1 (.inr e)⟩
   rw [hb]
   by_cases h2 : ps[i].toList = [46, 46]
   ·by_cases h3 : kept.length = 0
    ·have e1 : C4 kept (ps[i] :: ps.drop (i + 1)) = none := by
      conv => lhs; unfold C4
      rw [if_neg h1, if_neg (fun hn => hn h2), if_pos h3]
     rw [e1]
     conv => lhs; unfold Ak.j2
     rw [if_neg (by decide), if_pos h2, if_pos (by omega)]
     rfl
    ·have e1 : C4 kept (ps[i] :: ps.drop (i + 1)) = C4 (kept.take (kept.length - 1)) (ps.drop (i + 1)) := by
      conv => lhs; unfold C4
      rw [if_neg h1, if_neg (fun hn => hn h2), if_neg h3]
     have hw : wrap64 ((kept.length : Int) - 1) = ((kept.length - 1 : Nat) : Int) := by unfold wrap64; omega
     rw [e1]
     conv => lhs; unfold Ak.j2
     rw [if_neg (by decide), if_pos h2, if_neg (by omega), hw, if_pos (by omega), if_pos (by omega), wrapM i (by omega), Int.toNat_natCast]
     exact refClean_go ps hps hl d (i + 1) k _ (by omega) (by rw [List.length_take]; omega) (fun x hx' => hx x (List.mem_of_mem_take hx')) (by omega)
   ·have e1 : C4 kept (ps[i] :: ps.drop (i + 1)) = C4 (kept ++ [ps[i]]) (ps.drop (i + 1)) := by
     conv => lhs; unfold C4
     rw [if_neg h1, if_pos h2]
    rw [e1]
    conv => lhs; unfold Ak.j2
    rw [if_neg (by decide), if_neg h2, if_pos (by omega), if_pos (by omega), if_pos (by omega), wrapM i (by omega), hr]
    exact refClean_go ps hps hl d (i + 1) k _ (by omega) (by rw [List.length_append, List.length_singleton]; omega) (fun x hx' => by
     rcases List.mem_append.1 hx' with h5 | h5
     ·exact hx x h5
     ·rw [List.mem_singleton.1 h5]; exact hpi) (by omega)
theorem Hk {s : ByteArray} (h : Ce s = true) : 1 ≤ s.size ∧ s.size ≤ 16 := by
 unfold Ce at h
 simp only [Bool.and_eq_true, decide_eq_true_eq] at h
 exact ⟨h.1, h.2.1⟩
theorem refClean (s : ByteArray) (hn : s.size ≤ 1048576) (k : Nat) (hk : 4 * s.size + 40 ≤ k) : Ak.f k s = some (Ej s) := by
 unfold Ak.f
 rw [Hu s (by omega) k (by omega), Option.bind_some, cleanB_eq]
 obtain ⟨k, rfl⟩ : ∃ m, k = m + 1 := ⟨k - 1, by omega⟩
 by_cases h1 : Ce s = true
 ·have h2 := Hk h1
  rw [if_pos h1, if_pos (by omega)]
  by_cases h3 : bt s 0 = 47
  ·rw [if_neg (fun h => h.2 h3), show (bt s 0 == 47) = true by rw [h3]; rfl]
   rfl
  ·rw [if_pos ⟨h1, h3⟩, beq_false_of_ne h3]
   show (Am.f k s 47).bind _ = _
   have hc : s.data.toList.count 47 ≤ s.data.toList.length := List.count_le_length
   have hl := Lib.size_eq s
   have hlen := splitB_len 47 s.data.toList
   rw [refSplit47 s hn k (by omega), Option.bind_some]
   have := refClean_go (splitB 47 s.data.toList) (fun x hx => by have := splitB_size 47 s.data.toList x hx; omega) (by omega) (splitB 47 s.data.toList).length 0 k [] (by omega) (Nat.le_refl _) (fun x hx => by simp at hx) (by omega)
   rw [show (0 : Int) = ((0 : Nat) : Int) from rfl, this, List.drop_zero]
 ·rw [if_neg h1, if_neg (fun h => h1 h.1)]
  rfl
def goodP (x : ByteArray) : Prop := x.toList ≠ [] ∧ x.toList ≠ [46] ∧ x.toList ≠ [46, 46] ∧ ∀ d ∈ x.data.toList, d ≠ 47
theorem cleanGo_keep : ∀ (l kept : List ByteArray), (∀ x ∈ l, goodP x) → C4 kept l = some (kept ++ l)
 | [], kept, _ => by rw [List.append_nil]; rfl
 | p :: l, kept, h => by
  obtain ⟨h1, h2, h3, _⟩ := h p List.mem_cons_self
  unfold C4
  rw [if_neg (fun hh => hh.elim h1 h2), if_pos h3, cleanGo_keep l _ (fun x hx => h x (List.mem_cons_of_mem _ hx)), List.append_assoc]
  rfl
def wide (l : List ByteArray) : Nat := Lib.lens (l.map (·.data.toList)) + l.length
theorem wide_cons (x : ByteArray) (l : List ByteArray) : wide (x :: l) = x.size + 1 + wide l := by
 unfold wide Lib.lens
 rw [List.map_cons, List.map_cons, List.sum_cons, List.length_cons, Lib.size_eq]
 omega
theorem wide_app (a b : List ByteArray) : wide (a ++ b) = wide a + wide b := by
 unfold wide Lib.lens
 simp only [List.map_append, List.sum_append, List.length_append]
 omega
theorem wide_take (l : List ByteArray) (n : Nat) : wide (l.take n) ≤ wide l := by
 have h := wide_app (l.take n) (l.drop n)
 rw [List.take_append_drop] at h
 omega
theorem cleanGo_good : ∀ (l kept r : List ByteArray), C4 kept l = some r → (∀ x ∈ kept, goodP x) → (∀ x ∈ l, ∀ d ∈ x.data.toList, d ≠ 47) → (∀ x ∈ r, goodP x) ∧ wide r ≤ wide kept + wide l
 | [], kept, r, h, hk, _ => by
  simp only [C4, Option.some.injEq] at h
  subst h
  exact ⟨hk, Nat.le_add_right _ _⟩
 | p :: l, kept, r, h, hk, hl => by
  have hl' : ∀ x ∈ l, ∀ d ∈ x.data.toList, d ≠ 47 := fun x hx => hl x (List.mem_cons_of_mem _ hx)
  unfold C4 at h
  rw [wide_cons]
  split at h
  ·obtain ⟨h1, h2⟩ := cleanGo_good l kept r h hk hl'
   exact ⟨h1, by omega⟩
  rename_i hn
  split at h
  ·rename_i hd
   obtain ⟨h1, h2⟩ := cleanGo_good l _ r h (fun x hx => by
    rcases List.mem_append.1 hx with h5 | h5
    ·exact hk x h5
    ·rw [List.mem_singleton.1 h5]
     exact ⟨fun e => hn (.inl e), fun e => hn (.inr e), hd, hl p List.mem_cons_self⟩) hl'
   rw [wide_app, wide_cons] at h2
   exact ⟨h1, by have : wide ([] : List ByteArray) = 0 := rfl; omega⟩
  split at h
  ·cases h
  ·obtain ⟨h1, h2⟩ := cleanGo_good l _ r h (fun x hx => hk x (List.mem_of_mem_take hx)) hl'
   have := wide_take kept (kept.length - 1)
   exact ⟨h1, by omega⟩
theorem splitC_wide (c : UInt8) (l : List UInt8) : ∀ cur, wide ((Ec c cur l).map fun r => ⟨r.toArray⟩) = cur.length + l.length + 1 := by
 induction l with
 | nil =>
  intro cur
  show wide [⟨cur.toArray⟩] = _
  rw [wide_cons]
  show cur.toArray.size + 1 + 0 = _
  simp
 | cons d l ih =>
  intro cur
  show wide ((if d = c then cur :: Ec c [] l else Ec c (cur ++ [d]) l).map _) = _
  rw [List.length_cons]
  split
  ·rw [List.map_cons, wide_cons, ih]
   show cur.toArray.size + 1 + _ = _
   simp only [List.size_toArray, List.length_nil]
   omega
  ·rw [ih, List.length_append, List.length_singleton]
   omega
theorem splitC_no (c : UInt8) (l : List UInt8) : ∀ cur, (∀ d ∈ cur, d ≠ c) → ∀ r ∈ Ec c cur l, ∀ d ∈ r, d ≠ c := by
 induction l with
 | nil => intro cur h r hr; rw [List.mem_singleton.1 hr]; exact h
 | cons e l ih =>
  intro cur h r hr
  have hr' : r ∈ (if e = c then cur :: Ec c [] l else Ec c (cur ++ [e]) l) := hr
  split at hr'
  ·rcases List.mem_cons.1 hr' with rfl | h5
   ·exact h
   ·exact ih [] (by simp) r h5
  ·rename_i he
   refine ih _ (fun d hd => ?_) r hr'
   rcases List.mem_append.1 hd with h5 | h5
   ·exact h d h5
   ·rw [List.mem_singleton.1 h5]; exact he
theorem splitC_mem (c : UInt8) (l : List UInt8) : ∀ cur, ∀ r ∈ Ec c cur l, ∀ d ∈ r, d ∈ cur ∨ d ∈ l := by
 induction l with
 | nil => intro cur r hr d hd; rw [List.mem_singleton.1 hr] at hd; exact .inl hd
 | cons e l ih =>
  intro cur r hr d hd
  have hr' : r ∈ (if e = c then cur :: Ec c [] l else Ec c (cur ++ [e]) l) := hr
  split at hr'
  ·rcases List.mem_cons.1 hr' with rfl | h5
   ·exact .inl hd
   ·rcases ih [] r h5 d hd with h6 | h6
    ·simp at h6
    ·exact .inr (List.mem_cons_of_mem _ h6)
  ·rcases ih _ r hr' d hd with h6 | h6
   ·rcases List.mem_append.1 h6 with h7 | h7
    ·exact .inl h7
    ·rw [List.mem_singleton.1 h7]; exact .inr List.mem_cons_self
   ·exact .inr (List.mem_cons_of_mem _ h6)
theorem split_join (c : UInt8) : ∀ (r : List (List UInt8)) (x : List UInt8), (∀ d ∈ x, d ≠ c) → (∀ y ∈ r, ∀ d ∈ y, d ≠ c) → Ec c [] (x ++ Lib.joinTail [c] r) = x :: r
 | [], x, hx, _ => by
  have := splitC_none c x hx []
  rw [List.nil_append] at this
  rw [show Lib.joinTail [c] [] = [] from rfl, List.append_nil]
  exact this
 | y :: r, x, hx, hr => by
  have e : Lib.joinTail [c] (y :: r) = c :: (y ++ Lib.joinTail [c] r) := by simp [Lib.joinTail]
  rw [e, splitC_app c x _ hx, split_join c r y (hr y List.mem_cons_self) (fun z hz => hr z (List.mem_cons_of_mem _ hz)), List.nil_append]
theorem tail_wide (r : List ByteArray) (c : UInt8) : (Lib.joinTail [c] (r.map (·.data.toList))).length = wide r := by
 induction r with
 | nil => rfl
 | cons x r ih =>
  rw [wide_cons, List.map_cons, show Lib.joinTail [c] (x.data.toList :: r.map (·.data.toList)) = c :: (x.data.toList ++ Lib.joinTail [c] (r.map (·.data.toList))) by simp [Lib.joinTail], List.length_cons, List.length_append, ih, Lib.size_eq]
  omega
theorem tail_mem (r : List ByteArray) (c d : UInt8) (h : d ∈ Lib.joinTail [c] (r.map (·.data.toList))) : d = c ∨ ∃ x ∈ r, d ∈ x.data.toList := by
 induction r with
 | nil => simp [Lib.joinTail] at h
 | cons x r ih =>
  rw [List.map_cons, show Lib.joinTail [c] (x.data.toList :: r.map (·.data.toList)) = c :: (x.data.toList ++ Lib.joinTail [c] (r.map (·.data.toList))) by simp [Lib.joinTail]] at h
  rcases List.mem_cons.1 h with rfl | h
  ·exact .inl rfl
  rcases List.mem_append.1 h with h | h
  ·exact .inr ⟨x, List.mem_cons_self, h⟩
  ·rcases ih h with h | ⟨y, hy, hd⟩
   ·exact .inl h
   ·exact .inr ⟨y, List.mem_cons_of_mem _ hy, hd⟩
theorem clean_again {s t : ByteArray} (h : Ej s = (t, 0)) : Ej t = (t, 0) := by
 rw [cleanB_eq] at h
 by_cases hm : Ce s = true ∧ bt s 0 ≠ 47
 ·rw [if_pos hm] at h
  cases hg : C4 [] (splitB 47 s.data.toList) with
  | none => rw [hg] at h; exact absurd (Prod.mk.inj h).2 (by decide)
  | some kept =>
   rw [hg] at h
   have h' : (if kept.length = 0 then ((⟨#[]⟩ : ByteArray), (200 : Int)) else (Em kept ⟨#[47]⟩, 0)) = (t, 0) := h
   by_cases h0 : kept.length = 0
   ·rw [if_pos h0] at h'; exact absurd (Prod.mk.inj h').2 (by decide)
   ·rw [if_neg h0] at h'
    have ht : Em kept ⟨#[47]⟩ = t := (Prod.mk.inj h').1
    obtain ⟨hgood, hw⟩ := cleanGo_good _ [] kept hg (by simp) (fun x hx d hd => by
     unfold splitB at hx
     obtain ⟨r, hr, rfl⟩ := List.mem_map.1 hx
     exact splitC_no 47 s.data.toList [] (by simp) r hr d hd)
    have hmem := (cleanGo_mem _ [] kept hg).1
    have hsw : wide (splitB 47 s.data.toList) = s.data.toList.length + 1 := by
     have := splitC_wide 47 s.data.toList []
     rw [List.length_nil, Nat.zero_add] at this
     exact this
    have hsz := Hk hm.1
    have hle := Lib.size_eq s
    cases kept with
    | nil => exact absurd rfl h0
    | cons x r =>
     have hx := hgood x List.mem_cons_self
     have htl : t.data.toList = x.data.toList ++ Lib.joinTail [47] (r.map (·.data.toList)) := by
      rw [← ht]
      unfold Em
      rw [List.map_cons, Lib.join_cons]
     have hxd : ∃ b l, x.data.toList = b :: l := by
      cases hh : x.data.toList with
      | nil => exact absurd (Fg (by rw [Lib.size_eq, hh]; simp)) hx.1
      | cons b l => exact ⟨b, l, rfl⟩
     obtain ⟨b, l, hbl⟩ := hxd
     have htn := Lib.size_eq t
     rw [wide_cons] at hw
     have htw : t.size + 1 = x.size + 1 + wide r := by
      rw [htn, htl, List.length_append, tail_wide, ← Lib.size_eq]; omega
     have hwn : wide ([] : List ByteArray) = 0 := rfl
     have hx1 : 1 ≤ x.size := by rw [Lib.size_eq, hbl]; simp
     have hall : (s.data.toList.all fun b => oneB b.toNat) = true := by
      have := hm.1
      unfold Ce at this
      simp only [Bool.and_eq_true] at this
      exact this.2.2
     have hpart : ∀ y ∈ x :: r, ∀ d ∈ y.data.toList, oneB d.toNat = true := by
      intro y hy d hd
      rcases hmem y hy with h5 | h5
      ·simp at h5
      ·unfold splitB at h5
       obtain ⟨q, hq, rfl⟩ := List.mem_map.1 h5
       rcases splitC_mem 47 s.data.toList [] q hq d hd with h6 | h6
       ·simp at h6
       ·exact List.all_eq_true.1 hall d h6
     have htm : Ce t = true := by
      unfold Ce
      simp only [Bool.and_eq_true, decide_eq_true_eq]
      refine ⟨by omega, by omega, ?_⟩
      rw [List.all_eq_true]
      intro d hd
      rw [htl] at hd
      rcases List.mem_append.1 hd with h5 | h5
      ·exact hpart x List.mem_cons_self d h5
      ·rcases tail_mem r 47 d h5 with rfl | ⟨y, hy, hd'⟩
       ·decide
       ·exact hpart y (List.mem_cons_of_mem _ hy) d hd'
     have hb0 : bt t 0 ≠ 47 := by
      have h1 : 0 < t.size := by omega
      rw [show (0 : Int) = ((0 : Nat) : Int) from rfl, Ga t 0 h1]
      intro e
      have e2 : t[0] = 47 := (byte_eq t[0] 47).1 e
      have e3 : t.data.toList = t[0] :: t.data.toList.drop 1 := by
       have := E5 t 0 h1
       rw [List.drop_zero] at this
       exact this
      rw [htl, hbl, List.cons_append] at e3
      have e4 : b = t[0] := (List.cons.inj e3).1
      exact hx.2.2.2 b (by rw [hbl]; exact List.mem_cons_self) (e4.trans e2)
     have hsp : splitB 47 t.data.toList = x :: r := by
      unfold splitB
      rw [htl, split_join 47 _ _ hx.2.2.2 (fun y hy d hd => by
       obtain ⟨z, hz, rfl⟩ := List.mem_map.1 hy
       exact (hgood z (List.mem_cons_of_mem _ hz)).2.2.2 d hd), List.map_cons, List.map_map]
      have : ((fun r : List UInt8 => (⟨r.toArray⟩ : ByteArray)) ∘ fun y : ByteArray => y.data.toList) = id := rfl
      rw [this, List.map_id]
     rw [cleanB_eq, if_pos ⟨htm, hb0⟩, hsp, cleanGo_keep (x :: r) [] hgood, List.nil_append]
     show (if (x :: r).length = 0 then ((⟨#[]⟩ : ByteArray), (200 : Int)) else (Em (x :: r) ⟨#[47]⟩, 0)) = _
     rw [if_neg (by simp), ht]
 ·rw [if_neg hm] at h
  exact absurd (Prod.mk.inj h).2 (by decide)
def PathOk (x : ByteArray) : Prop := Ej x = (x, 0)
theorem pathOk_size {x : ByteArray} (h : PathOk x) : x.size ≤ 16 := by
 unfold PathOk at h
 rw [cleanB_eq] at h
 by_cases hm : Ce x = true ∧ bt x 0 ≠ 47
 ·exact (Hk hm.1).2
 ·rw [if_neg hm] at h
  exact absurd (Prod.mk.inj h).2 (by decide)
theorem refWords_go (ps : List ByteArray) (hl : ps.length ≤ 1048577) : ∀ (d i k : Nat) (out : List ByteArray), i + d = ps.length → out.length ≤ i → d < k →
 Bv.l0 k ps out (i : Int) = some (out ++ (ps.drop i).filter fun x => !(x.toList == ([] : List UInt8)))
 | _, _, 0, _, _, _, h => absurd h (by omega)
 | 0, i, k + 1, out, h, ho, _ => by
  unfold Bv.l0
  rw [if_neg (by omega), List.drop_of_length_le (by omega), List.filter_nil, List.append_nil]
 | d + 1, i, k + 1, out, h, ho, hk => by
  have hi : i < ps.length := by omega
  conv => lhs; unfold Bv.l0
  rw [if_pos (by omega), if_pos (by omega), Ie ps i hi, List.drop_eq_getElem_cons hi, wrapM i (by omega)]
  by_cases hc : ps[i].toList = []
  ·rw [if_pos hc, refWords_go ps hl d (i + 1) k out (by omega) (by omega) (by omega), List.filter_cons_of_neg (by rw [hc]; decide)]
  ·rw [if_neg hc, if_pos (by omega), refWords_go ps hl d (i + 1) k _ (by omega) (by rw [List.length_append, List.length_singleton]; omega) (by omega), List.filter_cons_of_pos (by rw [beq_false_of_ne hc]; rfl), List.append_assoc]
   rfl
theorem refWords (s : ByteArray) (hn : s.size ≤ 1048576) (k : Nat) (hk : s.size + 2 < k) : Bv.f k s = some (Cj s) := by
 unfold Bv.f
 have hc : s.data.toList.count 32 ≤ s.data.toList.length := List.count_le_length
 have hl := Lib.size_eq s
 have hlen := splitB_len 32 s.data.toList
 rw [show (32 : Int) = ((32 : UInt8).toNat : Int) from rfl, refSplitC 32 s hn k (by omega), Option.bind_some]
 have := refWords_go (splitB 32 s.data.toList) (by omega) (splitB 32 s.data.toList).length 0 k [] (by omega) (Nat.le_refl _) (by omega)
 rw [show (0 : Int) = ((0 : Nat) : Int) from rfl, this]
 rfl
theorem refNames_go (D : Nat) (hD : D ≤ 1048576) (ps : List ByteArray) (hs : ∀ x ∈ ps, x.size ≤ D) (hl : ps.length ≤ 1048577) : ∀ (d i k : Nat), i + d = ps.length → D + d + 1 < k →
 By.l0 k ps (i : Int) = some ((i + Cm (ps.drop i) : Nat) : Int)
 | _, _, 0, _, h => absurd h (by omega)
 | 0, i, k + 1, h, _ => by
  unfold By.l0
  rw [if_neg (by omega), List.drop_of_length_le (by omega)]
  rfl
 | d + 1, i, k + 1, h, hk => by
  have hi : i < ps.length := by omega
  have hx := hs ps[i] (List.getElem_mem hi)
  conv => lhs; unfold By.l0
  rw [if_pos (by omega), if_pos (by omega), Ie ps i hi, List.drop_eq_getElem_cons hi, Hu _ (by omega) k (by omega), Option.bind_some, wrapM i (by omega)]
  by_cases hc : Ce ps[i] = true
  ·rw [if_pos hc, refNames_go D hD ps hs hl d (i + 1) k (by omega) (by omega)]
   congr 2
   unfold Cm
   rw [List.takeWhile_cons_of_pos hc, List.length_cons]
   omega
  ·rw [if_neg hc]
   congr 2
   unfold Cm
   rw [List.takeWhile_cons_of_neg hc]
   rfl
theorem refNames (D : Nat) (hD : D ≤ 1048576) (ps : List ByteArray) (hs : ∀ x ∈ ps, x.size ≤ D) (hl : ps.length ≤ 1048577) (k : Nat) (hk : D + ps.length + 1 < k) : By.f k ps = some (Cm ps : Int) := by
 unfold By.f
 have := refNames_go D hD ps hs hl ps.length 0 k (by omega) (by omega)
 rw [show (0 : Int) = ((0 : Nat) : Int) from rfl, this, List.drop_zero, Nat.zero_add]
theorem idxB_at {l : List UInt8} {c : UInt8} {i : Nat} (hn : ∀ j, j < i → l[j]? ≠ some c) (hc : l[i]? = some c) : Lib.indexByte l c = (i : Int) := by
 have hge := Lib.indexByte_ge l c
 by_cases h : Lib.indexByte l c = -1
 ·exact absurd hc (Lib.indexByte_none h i)
 ·obtain ⟨j, hj⟩ := Int.eq_ofNat_of_zero_le (show 0 ≤ Lib.indexByte l c by omega)
  obtain ⟨h1, h2⟩ := Lib.indexByte_some (show Lib.indexByte l c = (j : Nat) from hj)
  rw [hj]
  rcases Nat.lt_trichotomy j i with h3 | h3 | h3
  ·exact absurd h1 (hn j h3)
  ·rw [h3]
  ·exact absurd hc (h2 i h3)
theorem idxB_no {l : List UInt8} {c : UInt8} (hn : ∀ j : Nat, l[j]? ≠ some c) : Lib.indexByte l c = -1 := by
 have hge := Lib.indexByte_ge l c
 by_cases h : Lib.indexByte l c = -1
 ·exact h
 ·obtain ⟨j, hj⟩ := Int.eq_ofNat_of_zero_le (show 0 ≤ Lib.indexByte l c by omega)
  exact absurd (Lib.indexByte_some (show Lib.indexByte l c = (j : Nat) from hj)).1 (hn j)
theorem cutC_at {s : ByteArray} {c : UInt8} {i : Nat} (hi : i < s.size) (hn : ∀ j, j < i → s.data.toList[j]? ≠ some c) (hc : s[i] = c) : cutC c s = (s.extract 0 i, s.extract (i + 1) s.size, true) := by
 have h1 : s.data.toList[i]? = some c := by
  have h2 := E5 s i hi
  have h3 := congrArg List.head? h2
  rw [List.head?_drop, List.head?_cons, hc] at h3
  exact h3
 have h4 : cutAtC c s = (i : Int) := idxB_at hn h1
 unfold cutC
 rw [h4, if_pos (by omega), Int.toNat_natCast]
theorem cutC_no {s : ByteArray} {c : UInt8} (hn : ∀ j, j < s.size → s.data.toList[j]? ≠ some c) : cutC c s = (s, ⟨#[]⟩, false) := by
 have h4 : cutAtC c s = -1 := idxB_no (fun j => by
  by_cases h : j < s.size
  ·exact hn j h
  ·rw [List.getElem?_eq_none (by have := Lib.size_eq s; omega)]
   simp)
 unfold cutC
 rw [h4, if_neg (by omega)]
theorem at_next {s : ByteArray} {c : UInt8} {i : Nat} (hi : i < s.size) (hn : ∀ j, j < i → s.data.toList[j]? ≠ some c) (hc : ¬ s[i] = c) : ∀ j, j < i + 1 → s.data.toList[j]? ≠ some c := by
 intro j hj
 by_cases h : j < i
 ·exact hn j h
 ·obtain rfl : j = i := by omega
  have h2 := E5 s j hi
  have h3 := congrArg List.head? h2
  rw [List.head?_drop, List.head?_cons] at h3
  rw [h3]
  exact fun e => hc (Option.some.inj e)
theorem refHead_go (s : ByteArray) (hs : s.size ≤ 1048576) : ∀ (d i k : Nat), i + d = s.size → (∀ j, j < i → s.data.toList[j]? ≠ some 32) → d < k → B8.l0 k s (i : Int) = some ((cutC 32 s).1, (cutC 32 s).2.1)
 | _, _, 0, _, _, h => absurd h (by omega)
 | 0, i, k + 1, h, hn, _ => by
  unfold B8.l0
  rw [if_neg (by omega), cutC_no (fun j hj => hn j (by omega))]
 | d + 1, i, k + 1, h, hn, hk => by
  have hi : i < s.size := by omega
  conv => lhs; unfold B8.l0
  rw [if_pos (by omega), if_pos (by omega), Ga s i hi, wrapM i (by omega)]
  by_cases hc : s[i] = 32
  ·rw [if_pos (by rw [hc]; rfl), if_pos (by omega), if_pos (by omega), if_pos (by omega), cutC_at hi hn hc]
   rfl
  ·rw [if_neg (fun e => hc ((byte_eq s[i] 32).1 e))]
   exact refHead_go s hs d (i + 1) k (by omega) (at_next hi hn hc) (by omega)
theorem refHead (s : ByteArray) (hs : s.size ≤ 1048576) (k : Nat) (hk : s.size < k) : B8.f k s = some ((cutC 32 s).1, (cutC 32 s).2.1) := by
 unfold B8.f
 exact refHead_go s hs s.size 0 k (by omega) (fun j hj => absurd hj (by omega)) hk
def Gp (s : ByteArray) : ByteArray × ByteArray × Bool := if (cutC 61 s).2.2 = true then Bt s else (⟨#[]⟩, ⟨#[]⟩, false)
theorem refBind_go (s : ByteArray) (hs : s.size ≤ 1048576) : ∀ (d i k : Nat), i + d = s.size → (∀ j, j < i → s.data.toList[j]? ≠ some 61) → s.size + d < k → Bu.l0 k s (i : Int) = some (Gp s)
 | _, _, 0, _, _, h => absurd h (by omega)
 | 0, i, k + 1, h, hn, _ => by
  unfold Bu.l0 Gp
  rw [if_neg (by omega), cutC_no (fun j hj => hn j (by omega))]
  rfl
 | d + 1, i, k + 1, h, hn, hk => by
  have hi : i < s.size := by omega
  conv => lhs; unfold Bu.l0
  rw [if_pos (by omega), if_pos (by omega), Ga s i hi, wrapM i (by omega)]
  by_cases hc : s[i] = 61
  ·have e1 : (s.extract 0 i).size ≤ s.size := by rw [ByteArray.size_extract]; omega
   have e2 : (s.extract (i + 1) s.size).size ≤ s.size := by rw [ByteArray.size_extract]; omega
   have e3 := trim_size (s.extract 0 i)
   rw [if_pos (by rw [hc]; rfl), if_pos (by omega), Int.toNat_natCast, refTrim k _ (by omega) (by omega), Option.bind_some, if_pos (by omega), if_pos (by omega), Int.toNat_natCast, refTrim k _ (by omega) (by omega), Option.bind_some, Hu _ (by omega) k (by omega)]
   unfold Gp Bt
   rw [cutC_at hi hn hc]
   rfl
  ·rw [if_neg (fun e => hc ((byte_eq s[i] 61).1 e))]
   exact refBind_go s hs d (i + 1) k (by omega) (at_next hi hn hc) (by omega)
theorem refBindLine (s : ByteArray) (hs : s.size ≤ 1048576) (k : Nat) (hk : 2 * s.size < k) : Bu.f k s = some (Gp s) := by
 unfold Bu.f
 exact refBind_go s hs s.size 0 k (by omega) (fun j hj => absurd hj (by omega)) (by omega)
def Dq (xs : List ByteArray) : Bool := xs.all fun x => (Ej x).2 == 0
def En (xs : List ByteArray) : List ByteArray × Bool := if Dq xs = true then (Bz xs, true) else ([], false)
theorem refCleaned_go (D : Nat) (hD : D ≤ 1048576) (xs : List ByteArray) (hx : ∀ x ∈ xs, x.size ≤ D) (hl : xs.length ≤ 1048577) : ∀ (d i k : Nat) (out : List ByteArray), i + d = xs.length → out.length ≤ i → 4 * D + 40 + d < k →
 Bo.l0 k xs out (i : Int) = some (if Dq (xs.drop i) = true then (out ++ Bz (xs.drop i), true) else ([], false))
 | _, _, 0, _, _, _, h => absurd h (by omega)
 | 0, i, k + 1, out, h, ho, _ => by
  unfold Bo.l0
  rw [if_neg (by omega), List.drop_of_length_le (by omega), show Dq [] = true from rfl, if_pos rfl, show Bz [] = [] from rfl, List.append_nil]
 | d + 1, i, k + 1, out, h, ho, hk => by
  have hi : i < xs.length := by omega
  have hxi := hx xs[i] (List.getElem_mem hi)
  conv => lhs; unfold Bo.l0
  rw [if_pos (by omega), if_pos (by omega), Ie xs i hi, List.drop_eq_getElem_cons hi, refClean _ (by omega) k (by omega), Option.bind_some, wrapM i (by omega)]
  have ha : Dq (xs[i] :: xs.drop (i + 1)) = (((Ej xs[i]).2 == 0) && Dq (xs.drop (i + 1))) := rfl
  have hb : Bz (xs[i] :: xs.drop (i + 1)) = (Ej xs[i]).1 :: Bz (xs.drop (i + 1)) := rfl
  by_cases hc : (Ej xs[i]).2 = 0
  ·rw [if_pos hc, if_pos (by omega), refCleaned_go D hD xs hx hl d (i + 1) k _ (by omega) (by rw [List.length_append, List.length_singleton]; omega) (by omega), ha, hb, hc, List.append_assoc]
   rfl
  ·rw [if_neg hc, ha, beq_false_of_ne hc, Bool.false_and, if_neg (by decide)]
theorem refCleaned (D : Nat) (hD : D ≤ 1048576) (xs : List ByteArray) (hx : ∀ x ∈ xs, x.size ≤ D) (hl : xs.length ≤ 1048577) (k : Nat) (hk : 4 * D + 40 + xs.length < k) : Bo.f k xs = some (En xs) := by
 unfold Bo.f
 have := refCleaned_go D hD xs hx hl xs.length 0 k [] (by omega) (Nat.le_refl _) (by omega)
 rw [show (0 : Int) = ((0 : Nat) : Int) from rfl, this]
 rfl
theorem refHas_go (xs : List ByteArray) (s : ByteArray) (hl : xs.length ≤ 1048577) : ∀ (d i k : Nat), i + d = xs.length → d < k → Cd.l0 k xs s (i : Int) = some ((xs.drop i).any fun x => x.toList == s.toList)
 | _, _, 0, _, h => absurd h (by omega)
 | 0, i, k + 1, h, _ => by
  unfold Cd.l0
  rw [if_neg (by omega), List.drop_of_length_le (by omega)]
  rfl
 | d + 1, i, k + 1, h, hk => by
  have hi : i < xs.length := by omega
  conv => lhs; unfold Cd.l0
  rw [if_pos (by omega), if_pos (by omega), Ie xs i hi, List.drop_eq_getElem_cons hi, wrapM i (by omega), List.any_cons]
  by_cases hc : xs[i].toList = s.toList
  ·rw [if_pos hc, hc, beq_self_eq_true, Bool.true_or]
  ·rw [if_neg hc, beq_false_of_ne hc, Bool.false_or]
   exact refHas_go xs s hl d (i + 1) k (by omega) (by omega)
theorem refHas (xs : List ByteArray) (s : ByteArray) (hl : xs.length ≤ 1048577) (k : Nat) (hk : xs.length < k) : Cd.f k xs s = some (xs.any fun x => x.toList == s.toList) := by
 unfold Cd.f
 exact refHas_go xs s hl xs.length 0 k (by omega) hk
theorem size_list (l : List UInt8) : (⟨l.toArray⟩ : ByteArray).size = l.length := by simp [ByteArray.size]
theorem set_loop (l : List S174) (s t : ByteArray) (hn : l.length ≤ 1048576) (d : Nat) : ∀ (k i : Nat), i + d = l.length → d < k → (∀ j, j < i → (Bg l j).f0.toList ≠ s.toList) →
 Ax.l0 k s t l (i : Int) = some (setIn l s t) := by
 induction d with
 | zero =>
  intro k i hi hk h
  obtain ⟨k, rfl⟩ : ∃ m, k = m + 1 := ⟨k - 1, by omega⟩
  have hf := find_none s l (fun j hj => h j (by omega))
  simp only [Ax.l0]
  rw [if_neg (by omega)]
  unfold setIn
  rw [if_neg (show ¬ 0 ≤ Ea l s by omega)]
  by_cases h16 : (l.length : Int) = 16
  ·rw [if_pos h16, if_pos h16]
  ·rw [if_neg h16, if_neg h16, if_pos (by omega)]
 | succ d ih =>
  intro k i hi hk h
  obtain ⟨k, rfl⟩ : ∃ m, k = m + 1 := ⟨k - 1, by omega⟩
  simp only [Ax.l0]
  rw [if_pos (by omega), if_pos (by omega)]
  by_cases he : (Bg l i).f0.toList = s.toList
  ·have hf := find_first s l i (by omega) h he
   rw [if_pos he]
   unfold setIn
   rw [if_pos (show 0 ≤ Ea l s by omega), hf]
  ·rw [if_neg he, Hw (n := l.length) (by omega) (by omega) (by omega)]
   refine ih k (i + 1) (by omega) (by omega) (fun j hj => ?_)
   rcases Nat.lt_or_ge j i with h1 | h1
   ·exact h j h1
   ·obtain rfl : j = i := by omega
    exact he
theorem refSet (D : Nat) (hD : D ≤ 140737488355328) (l : List S174) (hn : l.length ≤ 140737488355328) (ht : textsOk D l) (s t : ByteArray) (hs : s.size ≤ D) (htt : t.size ≤ D) (k : Nat) (hk : Ij D l + 32 ≤ k) :
 Ax.f k l s t = some (Cn l s t) := by
 unfold Ax.f Cn
 unfold Ij at hk
 obtain ⟨k, rfl⟩ : ∃ m, k = m + 1 := ⟨k - 1, by omega⟩
 rw [refScopeMay D hD l hn ht _ (by unfold Ij; omega), Option.bind_some]
 by_cases hM : C5 l = true
 ·have hl := may_len hM
  rw [if_pos hM, Hu s (by omega) _ (by omega), Option.bind_some, hM]
  by_cases hN : Ce s = true
  ·rw [if_pos hN, refPlain t _ (by omega) _ (by omega), Option.bind_some, hN]
   simp only [Ax.j0]
   cases hT : Do t 256
   ·simp
   ·have h := set_loop l s t (by omega) l.length k 0 (by omega) (by omega) (fun j hj => by omega)
    simp only [Bool.not_true, Bool.false_eq_true, if_false, Option.bind_some, List.length_nil, Nat.zero_add, List.nil_append]
    rw [if_pos (by omega)]
    simpa using h
  ·rw [if_neg hN]
   simp only [Ax.j0]
   simp [hN]
 ·rw [if_neg hM]
  simp only [Ax.j0]
  simp [hM]
theorem bytes_snoc (x : List UInt8) (t : ByteArray) : (⟨x.toArray⟩ : ByteArray) ++ t = ⟨(x ++ t.data.toList).toArray⟩ := by
 apply ByteArray.ext
 rw [ByteArray.data_append]
 apply Array.toList_inj.1
 simp
theorem ref_rounds (D : Nat) (hD : D ≤ 140737488355328) (l1 l2 : List S174) (h1 : l1.length ≤ 140737488355328) (h2 : l2.length ≤ 140737488355328) (t1 : textsOk D l1) (t2 : textsOk D l2) (m1 : C5 l1 = true) (m2 : C5 l2 = true)
 (ps : List S162) (hf : Few 2048 0 ps) (d : Nat) : ∀ (k i : Nat), i + d = ps.length → d + Ij D l1 + Ij D l2 + 50 ≤ k →
 Ar.l0 k l1 l2 ps ⟨(Ew l1 l2 (ps.take i)).toArray⟩ (i : Int) = some (if (Ew l1 l2 ps).length ≤ 256 then (⟨(Ew l1 l2 ps).toArray⟩, 0) else (⟨#[]⟩, 501)) := by
 induction d with
 | zero =>
  intro k i hi hk
  obtain ⟨k, rfl⟩ : ∃ m, k = m + 1 := ⟨k - 1, by omega⟩
  obtain rfl : i = ps.length := by omega
  rw [Ar.l0, if_neg (by omega), List.take_length, size_list]
  by_cases h : (Ew l1 l2 ps).length ≤ 256
  ·rw [if_neg (by omega), if_pos h]
  ·rw [if_pos (by omega), if_neg h]
 | succ d ih =>
  intro k i hi hk
  obtain ⟨k, rfl⟩ : ∃ m, k = m + 1 := ⟨k - 1, by omega⟩
  have hlt : i < ps.length := by omega
  have hk1 : Ij D l1 + 40 ≤ k := by omega
  have hk2 : Ij D l2 + 40 ≤ k := by omega
  have hpl : ps.length ≤ 2048 := by have := hf.1; omega
  have hlen := out_len m1 m2 hf i (by omega)
  have hsn := out_snoc l1 l2 ps i hlt
  have hz : (Bn ps (i : Int)).f1.size ≤ 2048 := by
   have e : Bn ps ((i : Nat) : Int) = ps[i] := by simp [Bn, hlt]
   rw [e]
   have := hf.2 ps[i] (List.getElem_mem hlt)
   omega
  have hi2 := ih k (i + 1) (by omega) (by omega)
  rw [hsn] at hi2
  have q0 : (i : Int) < (ps.length : Int) := by omega
  have q1 : 0 ≤ (i : Int) := by omega
  have hw : wrap64 ((i : Int) + 1) = ((i + 1 : Nat) : Int) := by
   rw [Hw (n := ps.length) (by omega) (by omega) (by omega)]
   omega
  rw [Ar.l0, if_pos q0, if_pos q1, hw]
  clear hw
  have g1 := get_small m1 (Bn ps (i : Int)).f1
  have g2 := get_small m2 (Bn ps (i : Int)).f1
  by_cases hb : (Bn ps (i : Int)).f0 = true
  ·rw [if_pos hb, refGet D hD l1 h1 t1 _ k hk1]
   simp only [Option.bind_some]
   have hv : Ey l1 l2 (Bn ps (i : Int)) = orB (Dh l1 (Bn ps (i : Int)).f1) (Dh l2 (Bn ps (i : Int)).f1) := by unfold Ey; rw [if_pos hb]
   rw [hv] at hi2
   by_cases h0 : (Dh l1 (Bn ps (i : Int)).f1).toList = []
   ·have ho : orB (Dh l1 (Bn ps (i : Int)).f1) (Dh l2 (Bn ps (i : Int)).f1) = Dh l2 (Bn ps (i : Int)).f1 := by
     unfold orB; rw [if_neg (fun h => E2 h h0)]
    rw [ho, ← bytes_snoc] at hi2
    rw [if_pos h0, refGet D hD l2 h2 t2 _ k hk2]
    simp only [Option.bind_some]
    rw [if_pos (by rw [size_list]; omega)]
    exact hi2
   ·have ho : orB (Dh l1 (Bn ps (i : Int)).f1) (Dh l2 (Bn ps (i : Int)).f1) = Dh l1 (Bn ps (i : Int)).f1 := by
     unfold orB
     rw [if_pos]
     rcases Nat.lt_or_ge (Dh l1 (Bn ps (i : Int)).f1).size 1 with h | h
     ·exact absurd (Fg (by omega)) h0
     ·exact h
    rw [ho, ← bytes_snoc] at hi2
    rw [if_neg h0, if_pos (by rw [size_list]; omega)]
    exact hi2
  ·have hv : Ey l1 l2 (Bn ps (i : Int)) = (Bn ps (i : Int)).f1 := by unfold Ey; rw [if_neg hb]
   rw [hv, ← bytes_snoc] at hi2
   rw [if_neg hb, if_pos (by rw [size_list]; omega)]
   exact hi2
theorem refEval (D : Nat) (hD : D ≤ 140737488355328) (s : ByteArray) (hs : s.size ≤ 140737488351232) (l1 l2 : List S174) (h1 : l1.length ≤ 140737488355328) (h2 : l2.length ≤ 140737488355328) (t1 : textsOk D l1) (t2 : textsOk D l2) (k : Nat) (hk : 2048 + Ij D l1 + Ij D l2 + 60 ≤ k) :
 Ar.f k s l1 l2 = some (C3 s l1 l2) := by
 obtain ⟨k, rfl⟩ : ∃ m, k = m + 1 := ⟨k - 1, by omega⟩
 have hc : Eg.f s = some (Gn s) := by unfold Eg.f; rw [if_pos (by omega), cutOf_eq]
 have hf := few_cut s
 unfold Ar.f
 rw [hc]
 simp only [Option.bind_some]
 have hno : Ar.j0 (k + 1) l1 l2 (Gn s).1 true = some (⟨#[]⟩, 500) := by rw [Ar.j0, if_pos rfl]
 by_cases h0 : (Gn s).2 = 0
 ·rw [if_pos h0, refScopeMay D hD l1 h1 t1 (k + 1) (by omega)]
  simp only [Option.bind_some]
  cases m1 : C5 l1
  ·rw [if_neg (by decide), hno]
   unfold C3
   rw [if_neg (by rw [m1]; simp)]
  ·rw [if_pos rfl, refScopeMay D hD l2 h2 t2 (k + 1) (by omega)]
   simp only [Option.bind_some]
   cases m2 : C5 l2
   ·rw [show (!false) = true from rfl, hno]
    unfold C3
    rw [if_neg (by rw [m2]; simp)]
   ·rw [show (!true) = false from rfl, Ar.j0, if_neg (by decide)]
    have hpl : (Gn s).1.length ≤ 2048 := by have := hf.1; omega
    have := ref_rounds D hD l1 l2 h1 h2 t1 t2 m1 m2 (Gn s).1 hf (Gn s).1.length k 0 (by omega) (by omega)
    unfold C3
    rw [if_pos ⟨h0, m1, m2⟩]
    exact this
 ·rw [if_neg h0, hno]
  unfold C3
  rw [if_neg (fun h => h0 h.1)]
def kSl : Kd Unit where
 sz := 1
 E := []
 K := fun _ _ cs => ∃ A n c, cs = [.slice A n c]
 M := fun _ _ _ _ cs => ∃ A n c, cs = [.slice A n c]
 K_len := by rintro w x cs ⟨A, n, c, rfl⟩; rfl
 K_one := by rintro w x cs ⟨A, n, c, rfl⟩ u hu; rw [List.mem_singleton.1 hu]; rfl
 K_below := fun _ h => h
 K_of_M := fun h => h
 M_mono := fun _ h => h
 M_bound := fun h => h
 M_move := fun _ h => h
 M_lower := fun _ h => h
def kq : Kd S116 := Kd.iso (Kd.pair Kd.string (Kd.pair Kd.string (Kd.pair Kd.bool (Kd.pair Kd.string kSl)))) (fun x : S116 => (x.f0, x.f1, x.f3, x.f2, ()))
theorem infoQ : (Tryz.prog.info? 95).map (fun i => (i.zero, i.size, i.bytes)) = some (some (.agg #[.string ⟨#[]⟩, .string ⟨#[]⟩, .bool false, .string ⟨#[]⟩, .slice none 0 0]), 5, 80) := by kernel_rfl
theorem kq_open {w : World} {x : S116} {cs : List Value} (h : kq.K w x cs) : ∃ A n c, cs = [.string x.f0, .string x.f1, .bool x.f3, .string x.f2, .slice A n c] := by
 obtain ⟨_, _, rfl, rfl, ⟨_, _, rfl, rfl, ⟨_, _, rfl, rfl, ⟨_, _, rfl, rfl, ⟨A, n, c, rfl⟩⟩⟩⟩⟩ := h
 exact ⟨A, n, c, rfl⟩
theorem kq_openM {w : World} {base : Nat} {ok : Nat → Prop} {x : S116} {cs : List Value} (h : kq.M w base ok x cs) : ∃ A n c, cs = [.string x.f0, .string x.f1, .bool x.f3, .string x.f2, .slice A n c] := by
 obtain ⟨_, _, rfl, rfl, ⟨_, _, rfl, rfl, ⟨_, _, rfl, rfl, ⟨_, _, rfl, rfl, ⟨A, n, c, rfl⟩⟩⟩⟩⟩ := h
 exact ⟨A, n, c, rfl⟩
theorem kq_mkM (w : World) (base : Nat) (ok : Nat → Prop) (x : S116) (A : Option Addr) (n c : Nat) : kq.M w base ok x [.string x.f0, .string x.f1, .bool x.f3, .string x.f2, .slice A n c] := ⟨[.string x.f0], _, rfl, rfl, ⟨[.string x.f1], _, rfl, rfl, ⟨[.bool x.f3], _, rfl, rfl, ⟨[.string x.f2], [.slice A n c], rfl, rfl, ⟨A, n, c, rfl⟩⟩⟩⟩⟩
theorem at_q {w : World} {A : Option Addr} {n : Nat} {xs : List S116} (h : Kd.C kq w A n xs) (i : Int) (h0 : 0 ≤ i) (h1 : i < n) : ∃ ad A4 n4 c4, A = some ad ∧ w.cell? (ad.add (i.toNat * 5)) = some (.string (Eh xs i).f0) ∧ w.cell? ⟨(ad.add (i.toNat * 5)).block, (ad.add (i.toNat * 5)).off + 1, none⟩ = some (.string (Eh xs i).f1) ∧ w.cell? ⟨(ad.add (i.toNat * 5)).block, (ad.add (i.toNat * 5)).off + 2, none⟩ = some (.bool (Eh xs i).f3) ∧ w.cell? ⟨(ad.add (i.toNat * 5)).block, (ad.add (i.toNat * 5)).off + 3, none⟩ = some (.string (Eh xs i).f2) ∧ w.cell? ⟨(ad.add (i.toNat * 5)).block, (ad.add (i.toNat * 5)).off + 4, none⟩ = some (.slice A4 n4 c4) := by
 obtain ⟨ad, c, e, _, hK, hc0⟩ := Kd.C_get h z116 i h0 h1
 have hc : ∀ j u, c[j]? = some u → w.cell? (ad.add (i.toNat * 5 + j)) = some u := hc0
 obtain ⟨A4, n4, c4, rfl⟩ := kq_open hK
 exact ⟨ad, A4, n4, c4, e, hc 0 _ rfl, by rw [← D9 _ _ 1 (by omega)]; exact hc 1 _ rfl, by rw [← D9 _ _ 2 (by omega)]; exact hc 2 _ rfl, by rw [← D9 _ _ 3 (by omega)]; exact hc 3 _ rfl, by rw [← D9 _ _ 4 (by omega)]; exact hc 4 _ rfl⟩
def cellsQ (x : S116) (v : Value) : List Value := [.string x.f0, .string x.f1, .bool x.f3, .string x.f2, v]
theorem q_last {w : World} {base g c : Nat} {ok : Nat → Prop} {xs : List S116} (h : Kd.R kq 95 w base ok (.slice (some ⟨g, 0, none⟩) xs.length c) xs) (hn : 1 ≤ xs.length) :
 ∃ A n cc, (∀ j u, (cellsQ (Cy xs) (.slice A n cc))[j]? = some u → w.cell? ⟨g, (xs.length - 1) * 5 + j, none⟩ = some u) ∧ (∀ j, w.frozen? ⟨g, (xs.length - 1) * 5 + j, none⟩ = false) ∧
 (∀ j u x' A' n' c', j < 5 → (cellsQ (Cy xs) (.slice A n cc)).set j u = cellsQ x' (.slice A' n' c') → Kd.R kq 95 (w.setCell ⟨g, (xs.length - 1) * 5 + j, none⟩ u) base ok (.slice (some ⟨g, 0, none⟩) xs.length c) (xs.set (xs.length - 1) x')) := by
 obtain ⟨cs, hcl, hM, hcc, hfr⟩ := Kd.R_elem h z116 ((xs.length - 1 : Nat) : Int) (by omega) (by omega)
 have hx : xs.getD ((xs.length - 1 : Nat) : Int).toNat z116 = Cy xs := by rw [Int.toNat_natCast]; rfl
 rw [hx] at hM
 obtain ⟨A, n, cc, rfl⟩ := kq_openM hM
 refine ⟨A, n, cc, fun j u hj => by have := hcc j u hj; rwa [Int.toNat_natCast] at this, fun j => by have := hfr j; rwa [Int.toNat_natCast] at this, fun j u x' A' n' c' hj hset => ?_⟩
 have hseg := (Kd.R_seg h ((xs.length - 1 : Nat) : Int) (by omega) (by omega) (seg := [u]) (j := j) hcl hcc (show j + 1 ≤ 5 from hj) (x' := x') (okp := fun _ => False) ?_ (fun k hk => hk.elim)).1
 ·rw [Int.toNat_natCast] at hseg
  exact hseg
 ·have he : [Value.string (Cy xs).f0, .string (Cy xs).f1, .bool (Cy xs).f3, .string (Cy xs).f2, .slice A n cc].take j ++ [u] ++ [Value.string (Cy xs).f0, .string (Cy xs).f1, .bool (Cy xs).f3, .string (Cy xs).f2, .slice A n cc].drop (j + [u].length) = cellsQ x' (.slice A' n' c') := by
   rw [← hset]
   show List.take j (cellsQ (Cy xs) (.slice A n cc)) ++ [u] ++ List.drop (j + 1) (cellsQ (Cy xs) (.slice A n cc)) = _
   rw [List.set_eq_take_append_cons_drop, if_pos (show j < (cellsQ (Cy xs) (.slice A n cc)).length from hj), List.append_assoc]
   rfl
  rw [he]
  exact kq_mkM _ _ _ _ _ _ _
def Rb (w : World) (B : Nat) (vE vP vD vR vO : Value) (op : Int) (v6 : Value) (nm : ByteArray) (v8 v9 v10 v11 : Value) : Prop := w.heap[B]? = some (.cells #[vE, vP, vD, vR, vO, .int .i64 op, v6, .string nm, v8, v9, v10, v11] 68 (0, 0))
theorem find58_calls (base B : Nat) (ok : Nat → Prop) (vE vP vD vR vO v6 v8 v9 v10 v11 : Value) (op : Int) (nm : ByteArray) (l : List S116) (s : ByteArray) (w : World) (h : Rb w B vE vP vD vR vO op v6 nm v8 v9 v10 v11) (hR : Kd.R kq 95 w base ok vR l) :
 Calls Tryz.prog 58 #[.pointer (some ⟨B, 0, none⟩), .string s] w fun e w' => e = .returned (.int .i64 (idxP (fun x : S116 => x.f0.toList == s.toList) l)) ∧ Below w.heap.size w w' := by
 obtain ⟨A0, c0, rfl, _, hC⟩ := Kd.Dl hR
 have HR := Aa.mk hC
 have HB := Aa.mk h
 have hm := Hb hC
 clear hC hR h
 generalize hp : (fun x : S116 => x.f0.toList == s.toList) = p
 have HPP := Lib.hid hp
 go_enter Tryz.func58, Tryz.ntmps58
 go_wp2
 go_loopw [5] (fun v5 wr => ∃ k : Nat, v5 = .int .i64 k ∧ k ≤ l.length ∧ Aa (Dy p (l.drop k) k = idxP p l) ∧ Below w.heap.size w wr) (fun v5 _ => l.length - (intOf v5).toNat)
 case atStart => exact ⟨0, rfl, by omega, ⟨rfl⟩, Below.refl _ _⟩
 case round =>
  obtain ⟨k, rfl, hk, hf, hbw⟩ := hrel
  have c3 : wr.cell? ⟨B, 3, none⟩ = some (.slice A0 l.length c0) := Be hbw (Ab HB.out 3)
  by_cases hlt : k < l.length
  ·obtain ⟨ad, A4, n4, c4, rfl, f0, f1, f2, f3, f4⟩ := at_q (Kd.Bb HR.out hbw) (k : Int) (by omega) (by omega)
   have hq := Lib.hid (Gm p l k hlt)
   rw [rd_at116 l k hlt] at f0 f1 f2 f3
   simp only [Int.toNat_natCast] at f0 f1 f2 f3 f4
   have hpx0 : p l[k] = (l[k].f0.toList == s.toList) := by rw [← HPP.out]
   generalize l[k] = x at *
   by_cases he : x.f0.toList = s.toList
   ·have hpx := Lib.hid (show p x = true by rw [hpx0]; exact beq_iff_eq.2 he)
    clear hpx0
    go_wp2
    go_ret
    exact ⟨Hq (by rw [← hf.out, hq.out, if_pos hpx.out]), hbw⟩
   ·have hpx := Lib.hid (show p x = false by rw [hpx0]; exact beq_eq_false_iff_ne.2 he)
    have he2 : (x.f0.toList == s.toList) = false := beq_eq_false_iff_ne.2 he
    clear hpx0
    go_wp2
    exact ⟨⟨k + 1, by go_num, by omega, ⟨by rw [← hf.out, hq.out, if_neg (by rw [hpx.out]; decide)]⟩, hbw⟩, by simp [intOf]; omega⟩
  ·have hd : l.drop k = [] := List.drop_of_length_le (by omega)
   have hq := Lib.hid hd
   clear hd
   go_wp2
   go_ret
   exact ⟨Hq (by rw [← hf.out, hq.out]; rfl), hbw⟩
end Go.Proofs.YtefheailchihaaaGreatDoor.Print
end
section
namespace Go.Proofs.YtefheailchihaaaGreatDoor.Print
open Go.RowKit Go.Lib Go.Shelf Go.Proofs.YtefheailchihaaaGreatDoorW.PrintWords Go.Proofs.YtefheailchihaaaGreatDoorW.PrintLast Go.Proofs.YtefheailchihaaaGreatDoorW.PrintMore
attribute [local go_sem ↓] Go.wp_at_zero Go.wp_at_succ
theorem R_readC {α : Type} {d : Kd α} {e base c : Nat} {w : World} {ok : Nat → Prop} {A : Option Addr} {xs : List α} (h : d.R e w base ok (.slice A xs.length c) xs) : d.C w A xs.length xs := (Kd.R_reads' h).2.2
theorem Dt {w : World} {B : Nat} {cs : Array Value} (h : w.heap[B]? = some (.cells cs 68 (0, 0))) {l : List Nat} (hl : 68 ∉ l) : ∀ k, k = B → ∃ cells q, w.heap[k]? = some (.cells cells q (0, 0)) ∧ q ∉ l := fun k hk => by subst hk; exact ⟨_, 68, h, hl⟩
def Gq (l : List S174) : Prop := l.length ≤ 16 ∧ textsOk 2048 l
theorem smallS_nil : Gq [] := ⟨Nat.zero_le _, fun k hk => absurd hk (by simp)⟩
theorem enough_small {l : List S174} (h : Gq l) : Ij 2048 l ≤ 2400 := by
 unfold Ij
 have h1 := h.1
 have h2 : l.length * (l.length + 3) ≤ 16 * 19 := Nat.mul_le_mul (by omega) (by omega)
 omega
theorem scopeSet_zero {l : List S174} {s t : ByteArray} (h : (Cn l s t).2 = 0) : Ce s = true ∧ Do t 256 = true ∧ setIn l s t = Cn l s t := by
 unfold Cn at h ⊢
 split at h
 ·rename_i hc
  simp only [Bool.and_eq_true] at hc
  rw [if_pos (by simp only [Bool.and_eq_true]; exact hc)]
  exact ⟨hc.2.1, hc.2.2, rfl⟩
 ·exact absurd h (by decide)
theorem smallS_put {l : List S174} (h : Gq l) (s t : ByteArray) : Gq (putL l s t) := by
 unfold putL
 split
 ·rename_i h0
  obtain ⟨h1, h2, h3⟩ := scopeSet_zero h0
  rw [← h3]
  have hs := (Hk h1).2
  have ht : (t.size : Int) ≤ 256 := by
   unfold Do at h2
   simp only [Bool.and_eq_true, decide_eq_true_eq] at h2
   exact h2.2
  rw [← h3] at h0
  unfold setIn at h0 ⊢
  split
  ·rename_i hf
   have hlt := findS_lt l s
   refine ⟨by rw [List.length_set]; exact h.1, fun k hk => ?_⟩
   have hk' : k < l.length := by
    have : k < (l.set (Ea l s).toNat ⟨(Bg l (Ea l s)).f0, t⟩).length := hk
    rw [List.length_set] at this
    exact this
   have hg : Bg (l.set (Ea l s).toNat ⟨(Bg l (Ea l s)).f0, t⟩) ((k : Nat) : Int) = (l.set (Ea l s).toNat ⟨(Bg l (Ea l s)).f0, t⟩)[k]'(by rw [List.length_set]; exact hk') := rd_get _ k _
   rw [hg, List.getElem_set]
   split
   ·have := h.2 (Ea l s).toNat (by omega)
    rw [show ((Ea l s).toNat : Int) = Ea l s by omega] at this
    exact ⟨this.1, by show t.size ≤ 2048; omega⟩
   ·have := h.2 k hk'
    rw [rd_get l k hk'] at this
    exact this
  ·rename_i hf
   rw [if_neg hf] at h0
   split
   ·rename_i h16
    rw [if_pos h16] at h0
    exact absurd h0 (by decide)
   ·rename_i h16
    have h1' := h.1
    refine ⟨by rw [List.length_append, List.length_singleton]; omega, fun k hk => ?_⟩
    rw [rd_get _ k hk]
    rcases List.mem_append.1 (List.getElem_mem hk) with hm | hm
    ·obtain ⟨j, hj, he⟩ := List.getElem_of_mem hm
     have := h.2 j hj
     rw [rd_get l j hj, he] at this
     exact this
    ·rw [List.mem_singleton.1 hm]
     exact ⟨by show s.size ≤ 2048; omega, by show t.size ≤ 2048; omega⟩
 ·exact h
theorem bindQ_ok (t : ByteArray) : (Gp t).2.2 = (Bt t).2.2 := by
 unfold Gp Bt
 cases hc : (cutC 61 t).2.2
 ·rw [if_neg (by decide)]; rfl
 ·rw [if_pos rfl]
theorem Iq {t : ByteArray} (h : (Bt t).2.2 = true) : Gp t = Bt t := by
 unfold Gp
 rw [if_pos]
 unfold Bt at h
 simp only [Bool.and_eq_true] at h
 exact h.1
theorem bindQ_small {t : ByteArray} (h : (Bt t).2.2 = true) : (Bt t).1.size ≤ 16 := by
 unfold Bt at h
 simp only [Bool.and_eq_true] at h
 exact (Hk h.2).2
theorem evalOf_err (s : ByteArray) (l1 l2 : List S174) : (C3 s l1 l2).2 ≠ 401 := by
 unfold C3
 split
 ·split
  ·exact (by decide : (0 : Int) ≠ 401)
  ·exact (by decide : (501 : Int) ≠ 401)
 ·exact (by decide : (500 : Int) ≠ 401)
theorem r53 (t : ByteArray) (ht : t.size ≤ 1048576) (w : World) : Calls Tryz.prog 53 #[.string t] w fun e w' => e = .returned (.tuple #[.string (Gp t).1, .string (Gp t).2.1, .bool (Gp t).2.2]) ∧ Below w.heap.size w w' :=
 (Bu.calls 3000000 t _ _ _ w (refBindLine t ht 3000000 (by omega))).mono (fun e w' h => ⟨h.1, h.2.below⟩)
theorem r94 (s : ByteArray) (hs : s.size ≤ 1048576) (l1 l2 : List S174) (h1 : Gq l1) (h2 : Gq l2) (A1 A2 : Option Addr) (c1 c2 : Nat) (w : World) (hr1 : Kd.C k174 w A1 l1.length l1) (hc1 : l1.length ≤ c1) (hr2 : Kd.C k174 w A2 l2.length l2) (hc2 : l2.length ≤ c2) :
 Calls Tryz.prog 94 #[.string s, .slice A1 l1.length c1, .slice A2 l2.length c2] w fun e w' => e = .returned (.tuple #[.string (C3 s l1 l2).1, .int .i64 (C3 s l1 l2).2]) ∧ Below w.heap.size w w' :=
 Ar.calls 10000 s A1 c1 l1 A2 c2 l2 _ _ w hr1 hc1 hr2 hc2 (refEval 2048 (by omega) s (by omega) l1 l2 (by have := h1.1; omega) (by have := h2.1; omega) h1.2 h2.2 10000 (by have := enough_small h1; have := enough_small h2; omega))
theorem r95 (l : List S174) (hl : Gq l) (s t : ByteArray) (hs : s.size ≤ 2048) (ht : t.size ≤ 2048) (A : Option Addr) (c : Nat) (w : World) (hr : Kd.C k174 w A l.length l) (hc : l.length ≤ c) :
 Calls Tryz.prog 95 #[.slice A l.length c, .string s, .string t] w fun e w' => ∃ v0_ : Value, e = .returned (.tuple #[v0_, .int .i64 (Cn l s t).2]) ∧ Kd.R k174 174 w' w.heap.size (fun _ => True) v0_ (Cn l s t).1 ∧ Below w.heap.size w w' :=
 Ax.calls 10000 A c l s t _ _ w hr hc (refSet 2048 (by omega) l (by have := hl.1; omega) hl.2 s t hs ht 10000 (by have := enough_small hl; omega))
def rbE (outer l : List S174) (t : ByteArray) : Int := if B9 0 (Bt t).2.2 = 0 then Db (Db 0 (C3 (Bt t).2.1 outer outer).2) (Cn l (Bt t).1 (C3 (Bt t).2.1 outer outer).1).2 else B9 0 (Bt t).2.2
def rbL (outer l : List S174) (t : ByteArray) : List S174 := putL l (Bt t).1 (C3 (Bt t).2.1 outer outer).1
theorem bind52_true (base B : Nat) (vE vP vD vR vO v6 v8 v9 v10 v11 : Value) (op : Int) (nm : ByteArray) (outer : List S174) (t : ByteArray) (w : World) (hbB : base ≤ B) (h : Rb w B vE vP vD vR vO op v6 nm v8 v9 v10 v11) (hO : Kd.R k174 174 w base (fun _ => True) vO outer) (hS : Gq outer) (ht : t.size ≤ 1048576) :
 Calls Tryz.prog 52 #[.pointer (some ⟨B, 0, none⟩), .string t, .bool true] w fun x w' => x = .returned (.int .i64 (rbE outer outer t)) ∧ Below base w w' ∧ Kept w w' (fun k => k = B) ∧ (rbE outer outer t = 0 → ∃ v' : Value, Rb w' B vE vP vD vR v' op v6 nm v8 v9 v10 v11 ∧ Kd.R k174 174 w' base (fun _ => True) v' (rbL outer outer t)) := by
 have hbw : base ≤ w.heap.size := Nat.le_trans hbB (Nat.le_of_lt (Cq h))
 have hEq : rbE outer outer t = if B9 0 (Bt t).2.2 = 0 then Db (Db 0 (C3 (Bt t).2.1 outer outer).2) (Cn outer (Bt t).1 (C3 (Bt t).2.1 outer outer).1).2 else B9 0 (Bt t).2.2 := rfl
 have hLq : rbL outer outer t = putL outer (Bt t).1 (C3 (Bt t).2.1 outer outer).1 := rfl
 have H53 := Lib.hid (r53 t ht w)
 have hv1 := (bindB_size t).2
 obtain ⟨AO, cO, rfl, hcO, hCO⟩ := Kd.Dl hO
 have HPa := Aa.mk h
 have HOa := Aa.mk hO
 have HSS := Aa.mk hS
 have HCO := Aa.mk hcO
 clear h hO hS hCO hcO
 have hbs : (Bt t).2.2 = true → (Bt t).1.size ≤ 16 := bindQ_small
 cases hok : (Bt t).2.2 with
 | false =>
  rw [hok] at hEq
  have hr : rbE outer outer t = 800 := by rw [hEq, if_neg (show ¬ B9 0 false = 0 by decide)]; rfl
  rw [hr]
  have hq : (Gp t).2.2 = false := by rw [bindQ_ok, hok]
  rw [hq] at H53
  generalize (Gp t).1 = q1 at H53
  generalize (Gp t).2.1 = q2 at H53
  clear hEq hLq hr hq hbs hok
  go_enter Tryz.func52, Tryz.ntmps52
  go_wp2_with (first | (go_at_call 53; refine H53.out.mono ?_; rintro x w1 ⟨rfl, hb⟩))
  go_ret
  exact ⟨rfl, hb.mono hbw, Kept.of_below hb _, fun h0 => absurd h0 (by decide)⟩
 | true =>
  have hq : Gp t = Bt t := Iq hok
  rw [hq, hok] at H53
  have hb16 := hbs hok
  rw [hok, if_pos (show B9 0 true = 0 by decide)] at hEq
  have hvs : (Bt t).2.1.size ≤ 1048576 := by omega
  generalize (Bt t).1 = key at *
  generalize (Bt t).2.1 = val at *
  have hes := Gt val outer outer
  obtain ⟨T, hT⟩ : ∃ T, (C3 val outer outer).1 = T := ⟨_, rfl⟩
  have hne := evalOf_err val outer outer
  obtain ⟨e1, he1⟩ : ∃ e1, (C3 val outer outer).2 = e1 := ⟨_, rfl⟩
  rw [he1] at hne
  have H94 := fun W hr => Lib.hid (r94 val hvs outer outer HSS.out HSS.out AO AO cO cO W hr HCO.out hr HCO.out)
  rw [hT, he1] at H94
  rw [hT] at hes hLq
  rw [hT, he1] at hEq
  obtain ⟨l2, hl2⟩ : ∃ l2, (Cn outer key T).1 = l2 := ⟨_, rfl⟩
  obtain ⟨e2, he2⟩ : ∃ e2, (Cn outer key T).2 = e2 := ⟨_, rfl⟩
  have H95 := fun W hr => Lib.hid (r95 outer HSS.out key T (by omega) (by omega) AO cO W hr HCO.out)
  rw [hl2, he2] at H95
  have hput : e2 = 0 → rbL outer outer t = l2 := fun h0 => by rw [hLq]; unfold putL; rw [he2, if_pos h0, hl2]
  rw [he2] at hEq
  have HEQ := Aa.mk hEq
  have HPUT := Aa.mk hput
  obtain ⟨E, hE⟩ : ∃ E, rbE outer outer t = E := ⟨_, rfl⟩
  rw [hE] at HEQ ⊢
  clear hEq hLq hbs hok hq hT he1 hl2 he2 hput hE hvs hes hb16 hv1
  go_enter Tryz.func52, Tryz.ntmps52
  go_upto_region 4 with (first | (go_at_call 53; refine H53.out.mono ?_; rintro x w1 ⟨rfl, hb⟩; have HP1 := Aa.mk (show Rb w1 B _ _ _ _ _ _ _ _ _ _ _ _ from Aj HPa.out hb); have HO1 := Aa.mk (Kd.Bj HOa.out hb); have HB1 := Aa.mk (hb.mono hbw); have HK1 := Aa.mk (Kept.of_below hb (fun k => k = B)); clear hb))
  refine sX 15 (S := fun w' => w'.cell? ⟨B, 4, none⟩ = some (.slice AO outer.length cO)) (ds := [9]) (Ab HP1.out 4) (fun hHeld => ?_)
  have hb := (Below.refl w1.heap.size w1).drew
  have HPd := Aa.mk (Aj HP1.out hb)
  have HOd := Aa.mk (Kd.Bj HO1.out hb)
  have HBd := Aa.mk (HB1.out.drew)
  have HKd := Aa.mk (Kept.then_ HK1.out (Kept.of_below hb (fun k => k = B)) (fun k hk => .inl hk))
  clear hb HP1 HO1 HB1 HK1
  generalize w1.drew = wd at HPd HOd HBd HKd hHeld ⊢
  refine pX 0 23 ?_
  refine pX 1 24 ?_
  refine pX 2 25 ?_
  refine pX 3 26 ?_
  refine pX 5 28 ?_
  refine pX 6 29 ?_
  refine pX 7 30 ?_
  refine tX 4 27 hHeld ?_
  refine tX 8 31 hHeld ?_
  refine lX 9 (some 32) (fun K hK => ?_)
  refine gX Tryz.func94 #[.string val, .slice AO outer.length cO, .slice AO outer.length cO] ?_
  with_reducible refine ((H94 _ (R_readC HOd.out)).out).mono ?_
  rintro x w2 ⟨rfl, hb⟩
  refine ⟨_, rfl, ?_⟩
  have HP2 := Aa.mk (Aj HPd.out hb)
  have HO2 := Aa.mk (Kd.Bj HOd.out hb)
  have HB2 := Aa.mk (HBd.out.trans (hb.mono (Nat.le_trans hbB (Nat.le_of_lt (Cq HPd.out)))))
  have HK2 := Aa.mk (Kept.then_ HKd.out (Kept.of_below hb (fun k => k = B)) (fun k hk => .inl hk))
  clear hb HPd HOd HBd HKd
  refine hK.out _ _ ?_
  clear hK K
  refine nX ?_
  refine pX 10 22 ?_
  refine pX 11 33 ?_
  refine pX 12 34 ?_
  refine pX 13 10 ?_
  refine pX 14 11 ?_
  refine dX ?_
  have c4 : w2.cell? ⟨B, 4, none⟩ = some (.slice AO outer.length cO) := Ab HP2.out 4
  have c11 : w2.cell? ⟨B, 11, none⟩ = some v11 := Ab HP2.out 11
  by_cases h1 : e1 = 0
  ·subst h1
   by_cases h2 : e2 = 0
   ·subst h2
    have hE0 : E = 0 := by rw [HEQ.out]; decide
    subst hE0
    go_wp2_with (first | (go_at_call 95; refine (H95 _ (R_readC HO2.out)).out.mono ?_; rintro x w3 ⟨v3, rfl, hv0, hb⟩; obtain ⟨A3, c3, rfl⟩ := Kd.Bd hv0; have HP3 := Aa.mk (Aj HP2.out hb); have hv := Kd.Dv hv0 (Nat.le_trans hbB (Nat.le_of_lt (Cq HP2.out))); have HB3 := Aa.mk (HB2.out.trans (hb.mono (Nat.le_trans hbB (Nat.le_of_lt (Cq HP2.out))))); have HK3 := Aa.mk (Kept.then_ HK2.out (Kept.of_below hb (fun k => k = B)) (fun k hk => .inl hk)); have q3 := As HP3.out 4; have q4 : w3.cell? ⟨B, 4, none⟩ = some (.slice AO outer.length cO) := Ab HP3.out 4; clear hb hv0))
    go_ret
    refine ⟨rfl, HB3.out.setCell (p := ⟨B, 4, none⟩) hbB _, Kept.then_ HK3.out (Bm _ B 4 _) (fun k hk => .inl hk), ⟨_, Az HP3.out 4 _ rfl, ?_⟩⟩
    rw [HPUT.out trivial]
    exact Kd.De (Bf hv (Bm _ B 4 _) (Dt HP3.out (by decide))) (fun _ _ => trivial)
   ·by_cases h3 : e2 = 401
    ·subst h3
     have hE0 : E = 801 := by rw [HEQ.out]; decide
     subst hE0
     go_wp2_with (first | (go_at_call 95; refine (H95 _ (R_readC HO2.out)).out.mono ?_; rintro x w3 ⟨v3, rfl, hv0, hb⟩; obtain ⟨A3, c3, rfl⟩ := Kd.Bd hv0; have HP3 := Aa.mk (Aj HP2.out hb); have hv := Kd.Dv hv0 (Nat.le_trans hbB (Nat.le_of_lt (Cq HP2.out))); have HB3 := Aa.mk (HB2.out.trans (hb.mono (Nat.le_trans hbB (Nat.le_of_lt (Cq HP2.out))))); have HK3 := Aa.mk (Kept.then_ HK2.out (Kept.of_below hb (fun k => k = B)) (fun k hk => .inl hk)); have q3 := As HP3.out 4; have q4 : w3.cell? ⟨B, 4, none⟩ = some (.slice AO outer.length cO) := Ab HP3.out 4; clear hb hv0))
     go_ret
     exact ⟨rfl, HB3.out, HK3.out, fun h0 => absurd h0 (by decide)⟩
    ·have hE0 : E = 800 := by rw [HEQ.out]; unfold Db B9 Gr; simp [h2, h3]
     subst hE0
     have h3b : (e2 == 401) = false := beq_eq_false_iff_ne.2 h3
     have h2b : (e2 != 0) = true := bne_iff_ne.2 h2
     go_wp2_with (first | (go_at_call 95; refine (H95 _ (R_readC HO2.out)).out.mono ?_; rintro x w3 ⟨v3, rfl, hv0, hb⟩; obtain ⟨A3, c3, rfl⟩ := Kd.Bd hv0; have HP3 := Aa.mk (Aj HP2.out hb); have hv := Kd.Dv hv0 (Nat.le_trans hbB (Nat.le_of_lt (Cq HP2.out))); have HB3 := Aa.mk (HB2.out.trans (hb.mono (Nat.le_trans hbB (Nat.le_of_lt (Cq HP2.out))))); have HK3 := Aa.mk (Kept.then_ HK2.out (Kept.of_below hb (fun k => k = B)) (fun k hk => .inl hk)); have q3 := As HP3.out 4; have q4 : w3.cell? ⟨B, 4, none⟩ = some (.slice AO outer.length cO) := Ab HP3.out 4; clear hb hv0))
     go_ret
     exact ⟨rfl, HB3.out, HK3.out, fun h0 => absurd h0 (by decide)⟩
  ·have hE0 : E = 800 := by rw [HEQ.out]; unfold Db B9 Gr; by_cases q2 : e2 = 0 <;> by_cases q3 : e2 = 401 <;> simp [h1, hne, q2, q3]
   subst hE0
   have h1b : (e1 != 0) = true := bne_iff_ne.2 h1
   go_wp2_with fail
   go_ret
   exact ⟨rfl, HB2.out, HK2.out, fun h0 => absurd h0 (by decide)⟩
theorem bind52_false (base B : Nat) (vE vP vD vR vO v6 v8 v9 v10 v11 : Value) (op : Int) (nm : ByteArray) (outer : List S174) (t : ByteArray) (w : World) (hbB : base ≤ B) (h : Rb w B vE vP vD vR vO op v6 nm v8 v9 v10 v11) (hO : Kd.R k174 174 w base (fun _ => True) vO outer) (hS : Gq outer) (ht : t.size ≤ 1048576) (own : List S174) (hW : Kd.R k174 174 w base (fun _ => True) v11 own) (hS2 : Gq own) :
 Calls Tryz.prog 52 #[.pointer (some ⟨B, 0, none⟩), .string t, .bool false] w fun x w' => x = .returned (.int .i64 (rbE outer own t)) ∧ Below base w w' ∧ Kept w w' (fun k => k = B) ∧ (rbE outer own t = 0 → ∃ v' : Value, Rb w' B vE vP vD vR vO op v6 nm v8 v9 v10 v' ∧ Kd.R k174 174 w' base (fun _ => True) v' (rbL outer own t)) := by
 have hbw : base ≤ w.heap.size := Nat.le_trans hbB (Nat.le_of_lt (Cq h))
 have hEq : rbE outer own t = if B9 0 (Bt t).2.2 = 0 then Db (Db 0 (C3 (Bt t).2.1 outer outer).2) (Cn own (Bt t).1 (C3 (Bt t).2.1 outer outer).1).2 else B9 0 (Bt t).2.2 := rfl
 have hLq : rbL outer own t = putL own (Bt t).1 (C3 (Bt t).2.1 outer outer).1 := rfl
 have H53 := Lib.hid (r53 t ht w)
 have hv1 := (bindB_size t).2
 obtain ⟨AO, cO, rfl, hcO, hCO⟩ := Kd.Dl hO
 obtain ⟨AW, cW, rfl, hcW, hCW⟩ := Kd.Dl hW
 have HPa := Aa.mk h
 have HOa := Aa.mk hO
 have HWa := Aa.mk hW
 have HSS := Aa.mk hS
 have HS2 := Aa.mk hS2
 have HCO := Aa.mk hcO
 have HCW := Aa.mk hcW
 clear h hO hS hCO hcO hW hS2 hCW hcW
 have hbs : (Bt t).2.2 = true → (Bt t).1.size ≤ 16 := bindQ_small
 cases hok : (Bt t).2.2 with
 | false =>
  rw [hok] at hEq
  have hr : rbE outer own t = 800 := by rw [hEq, if_neg (show ¬ B9 0 false = 0 by decide)]; rfl
  rw [hr]
  have hq : (Gp t).2.2 = false := by rw [bindQ_ok, hok]
  rw [hq] at H53
  generalize (Gp t).1 = q1 at H53
  generalize (Gp t).2.1 = q2 at H53
  clear hEq hLq hr hq hbs hok
  go_enter Tryz.func52, Tryz.ntmps52
  go_wp2_with (first | (go_at_call 53; refine H53.out.mono ?_; rintro x w1 ⟨rfl, hb⟩))
  go_ret
  exact ⟨rfl, hb.mono hbw, Kept.of_below hb _, fun h0 => absurd h0 (by decide)⟩
 | true =>
  have hq : Gp t = Bt t := Iq hok
  rw [hq, hok] at H53
  have hb16 := hbs hok
  rw [hok, if_pos (show B9 0 true = 0 by decide)] at hEq
  have hvs : (Bt t).2.1.size ≤ 1048576 := by omega
  generalize (Bt t).1 = key at *
  generalize (Bt t).2.1 = val at *
  have hes := Gt val outer outer
  obtain ⟨T, hT⟩ : ∃ T, (C3 val outer outer).1 = T := ⟨_, rfl⟩
  have hne := evalOf_err val outer outer
  obtain ⟨e1, he1⟩ : ∃ e1, (C3 val outer outer).2 = e1 := ⟨_, rfl⟩
  rw [he1] at hne
  have H94 := fun W hr => Lib.hid (r94 val hvs outer outer HSS.out HSS.out AO AO cO cO W hr HCO.out hr HCO.out)
  rw [hT, he1] at H94
  rw [hT] at hes hLq
  rw [hT, he1] at hEq
  obtain ⟨l2, hl2⟩ : ∃ l2, (Cn own key T).1 = l2 := ⟨_, rfl⟩
  obtain ⟨e2, he2⟩ : ∃ e2, (Cn own key T).2 = e2 := ⟨_, rfl⟩
  have H95 := fun W hr => Lib.hid (r95 own HS2.out key T (by omega) (by omega) AW cW W hr HCW.out)
  rw [hl2, he2] at H95
  have hput : e2 = 0 → rbL outer own t = l2 := fun h0 => by rw [hLq]; unfold putL; rw [he2, if_pos h0, hl2]
  rw [he2] at hEq
  have HEQ := Aa.mk hEq
  have HPUT := Aa.mk hput
  obtain ⟨E, hE⟩ : ∃ E, rbE outer own t = E := ⟨_, rfl⟩
  rw [hE] at HEQ ⊢
  clear hEq hLq hbs hok hq hT he1 hl2 he2 hput hE hvs hes hb16 hv1
  go_enter Tryz.func52, Tryz.ntmps52
  go_upto_region 4 with (first | (go_at_call 53; refine H53.out.mono ?_; rintro x w1 ⟨rfl, hb⟩; have HP1 := Aa.mk (show Rb w1 B _ _ _ _ _ _ _ _ _ _ _ _ from Aj HPa.out hb); have HO1 := Aa.mk (Kd.Bj HOa.out hb); have HW1 := Aa.mk (Kd.Bj HWa.out hb); have HB1 := Aa.mk (hb.mono hbw); have HK1 := Aa.mk (Kept.of_below hb (fun k => k = B)); clear hb))
  refine sX 15 (S := fun w' => w'.cell? ⟨B, 4, none⟩ = some (.slice AO outer.length cO)) (ds := [9]) (Ab HP1.out 4) (fun hHeld => ?_)
  have hb := (Below.refl w1.heap.size w1).drew
  have HPd := Aa.mk (Aj HP1.out hb)
  have HOd := Aa.mk (Kd.Bj HO1.out hb)
  have HWd := Aa.mk (Kd.Bj HW1.out hb)
  have HBd := Aa.mk (HB1.out.drew)
  have HKd := Aa.mk (Kept.then_ HK1.out (Kept.of_below hb (fun k => k = B)) (fun k hk => .inl hk))
  clear hb HP1 HO1 HB1 HK1 HW1
  generalize w1.drew = wd at HPd HOd HBd HKd HWd hHeld ⊢
  refine pX 0 23 ?_
  refine pX 1 24 ?_
  refine pX 2 25 ?_
  refine pX 3 26 ?_
  refine pX 5 28 ?_
  refine pX 6 29 ?_
  refine pX 7 30 ?_
  refine tX 4 27 hHeld ?_
  refine tX 8 31 hHeld ?_
  refine lX 9 (some 32) (fun K hK => ?_)
  refine gX Tryz.func94 #[.string val, .slice AO outer.length cO, .slice AO outer.length cO] ?_
  with_reducible refine ((H94 _ (R_readC HOd.out)).out).mono ?_
  rintro x w2 ⟨rfl, hb⟩
  refine ⟨_, rfl, ?_⟩
  have HP2 := Aa.mk (Aj HPd.out hb)
  have HO2 := Aa.mk (Kd.Bj HOd.out hb)
  have HW2 := Aa.mk (Kd.Bj HWd.out hb)
  have HB2 := Aa.mk (HBd.out.trans (hb.mono (Nat.le_trans hbB (Nat.le_of_lt (Cq HPd.out)))))
  have HK2 := Aa.mk (Kept.then_ HKd.out (Kept.of_below hb (fun k => k = B)) (fun k hk => .inl hk))
  clear hb HPd HOd HBd HKd HWd
  refine hK.out _ _ ?_
  clear hK K
  refine nX ?_
  refine pX 10 22 ?_
  refine pX 11 33 ?_
  refine pX 12 34 ?_
  refine pX 13 10 ?_
  refine pX 14 11 ?_
  refine dX ?_
  have c4 : w2.cell? ⟨B, 4, none⟩ = some (.slice AO outer.length cO) := Ab HP2.out 4
  have c11 : w2.cell? ⟨B, 11, none⟩ = some (.slice AW own.length cW) := Ab HP2.out 11
  by_cases h1 : e1 = 0
  ·subst h1
   by_cases h2 : e2 = 0
   ·subst h2
    have hE0 : E = 0 := by rw [HEQ.out]; decide
    subst hE0
    go_wp2_with (first | (go_at_call 95; refine (H95 _ (R_readC HW2.out)).out.mono ?_; rintro x w3 ⟨v3, rfl, hv0, hb⟩; obtain ⟨A3, c3, rfl⟩ := Kd.Bd hv0; have HP3 := Aa.mk (Aj HP2.out hb); have hv := Kd.Dv hv0 (Nat.le_trans hbB (Nat.le_of_lt (Cq HP2.out))); have HB3 := Aa.mk (HB2.out.trans (hb.mono (Nat.le_trans hbB (Nat.le_of_lt (Cq HP2.out))))); have HK3 := Aa.mk (Kept.then_ HK2.out (Kept.of_below hb (fun k => k = B)) (fun k hk => .inl hk)); have q3 := As HP3.out 11; have q4 : w3.cell? ⟨B, 11, none⟩ = some (.slice AW own.length cW) := Ab HP3.out 11; clear hb hv0))
    go_ret
    refine ⟨rfl, HB3.out.setCell (p := ⟨B, 11, none⟩) hbB _, Kept.then_ HK3.out (Bm _ B 11 _) (fun k hk => .inl hk), ⟨_, Az HP3.out 11 _ rfl, ?_⟩⟩
    rw [HPUT.out trivial]
    exact Kd.De (Bf hv (Bm _ B 11 _) (Dt HP3.out (by decide))) (fun _ _ => trivial)
   ·by_cases h3 : e2 = 401
    ·subst h3
     have hE0 : E = 801 := by rw [HEQ.out]; decide
     subst hE0
     go_wp2_with (first | (go_at_call 95; refine (H95 _ (R_readC HW2.out)).out.mono ?_; rintro x w3 ⟨v3, rfl, hv0, hb⟩; obtain ⟨A3, c3, rfl⟩ := Kd.Bd hv0; have HP3 := Aa.mk (Aj HP2.out hb); have hv := Kd.Dv hv0 (Nat.le_trans hbB (Nat.le_of_lt (Cq HP2.out))); have HB3 := Aa.mk (HB2.out.trans (hb.mono (Nat.le_trans hbB (Nat.le_of_lt (Cq HP2.out))))); have HK3 := Aa.mk (Kept.then_ HK2.out (Kept.of_below hb (fun k => k = B)) (fun k hk => .inl hk)); have q3 := As HP3.out 11; have q4 : w3.cell? ⟨B, 11, none⟩ = some (.slice AW own.length cW) := Ab HP3.out 11; clear hb hv0))
     go_ret
     exact ⟨rfl, HB3.out, HK3.out, fun h0 => absurd h0 (by decide)⟩
    ·have hE0 : E = 800 := by rw [HEQ.out]; unfold Db B9 Gr; simp [h2, h3]
     subst hE0
     have h3b : (e2 == 401) = false := beq_eq_false_iff_ne.2 h3
     have h2b : (e2 != 0) = true := bne_iff_ne.2 h2
     go_wp2_with (first | (go_at_call 95; refine (H95 _ (R_readC HW2.out)).out.mono ?_; rintro x w3 ⟨v3, rfl, hv0, hb⟩; obtain ⟨A3, c3, rfl⟩ := Kd.Bd hv0; have HP3 := Aa.mk (Aj HP2.out hb); have hv := Kd.Dv hv0 (Nat.le_trans hbB (Nat.le_of_lt (Cq HP2.out))); have HB3 := Aa.mk (HB2.out.trans (hb.mono (Nat.le_trans hbB (Nat.le_of_lt (Cq HP2.out))))); have HK3 := Aa.mk (Kept.then_ HK2.out (Kept.of_below hb (fun k => k = B)) (fun k hk => .inl hk)); have q3 := As HP3.out 11; have q4 : w3.cell? ⟨B, 11, none⟩ = some (.slice AW own.length cW) := Ab HP3.out 11; clear hb hv0))
     go_ret
     exact ⟨rfl, HB3.out, HK3.out, fun h0 => absurd h0 (by decide)⟩
  ·have hE0 : E = 800 := by rw [HEQ.out]; unfold Db B9 Gr; by_cases q2 : e2 = 0 <;> by_cases q3 : e2 = 401 <;> simp [h1, hne, q2, q3]
   subst hE0
   have h1b : (e1 != 0) = true := bne_iff_ne.2 h1
   go_wp2_with fail
   go_ret
   exact ⟨rfl, HB2.out, HK2.out, fun h0 => absurd h0 (by decide)⟩
end Go.Proofs.YtefheailchihaaaGreatDoor.Print
end
section
namespace Go.Proofs.YtefheailchihaaaGreatDoor.Print
open Go.RowKit Go.Lib Go.Shelf Go.Proofs.YtefheailchihaaaGreatDoorW.PrintWords Go.Proofs.YtefheailchihaaaGreatDoorW.PrintLast Go.Proofs.YtefheailchihaaaGreatDoorW.PrintMore
theorem plain_sub {s t : ByteArray} (h : Dn s.data.toList = true) (hs : ∀ b ∈ t.data.toList, b ∈ s.data.toList) : Dn t.data.toList = true := by
 unfold Dn at *
 rw [List.all_eq_true] at *
 exact fun b hb => h b (hs b hb)
theorem plain_ext {s : ByteArray} (a b : Nat) (h : Dn s.data.toList = true) : Dn (s.extract a b).data.toList = true :=
 plain_sub h (fun c hc => by rw [Lib.extract_data] at hc; exact List.mem_of_mem_drop (List.mem_of_mem_take hc))
theorem plain_app2 {s t : ByteArray} (h1 : Dn s.data.toList = true) (h2 : Dn t.data.toList = true) : Dn (s ++ t).data.toList = true := by
 unfold Dn at *
 rw [ByteArray.data_append, Array.toList_append, List.all_append, h1, h2]
 rfl
def PlainPs (out : List S162) : Prop := ∀ x ∈ out, Dn x.f1.data.toList = true
theorem plainPs_app {a : List S162} {x : S162} (h : PlainPs a) (hx : Dn x.f1.data.toList = true) : PlainPs (a ++ [x]) := fun y hy => by
 rcases List.mem_append.1 hy with h5 | h5
 ·exact h y h5
 ·rw [List.mem_singleton.1 h5]; exact hx
theorem addText_plain {out : List S162} {t : ByteArray} (h : PlainPs out) (ht : Dn t.data.toList = true) : PlainPs (Df out t) := by
 unfold Df
 split
 ·rename_i hc
  intro y hy
  rcases List.mem_or_eq_of_mem_set hy with h5 | rfl
  ·exact h y h5
  ·exact plain_app2 (h _ (rd57_mem out (out.length - 1) (by omega))) ht
 ·exact plainPs_app h ht
theorem plain_byte {r : ByteArray} (h : Dn r.data.toList = true) (i : Nat) (hi : i < r.size) : Dn (⟨#[r[i]]⟩ : ByteArray).data.toList = true :=
 plain_sub h (fun b hb => by
  have h1 : b = r[i] := by simpa using hb
  rw [h1]
  have h2 := E5 r i hi
  exact List.mem_of_mem_drop (by rw [h2]; exact List.mem_cons_self))
theorem brace_plain {q : ByteArray} (h : Dn q.data.toList = true) : Dn (Eo q).data.toList = true := by
 unfold Eo
 split
 ·exact plain_ext _ _ h
 ·exact h
theorem refGo_plain : ∀ (k : Nat) (r : ByteArray) (out : List S162), Dn r.data.toList = true → PlainPs out → PlainPs (Gj k r out).1
 | 0, r, out, _, h => h
 | k + 1, r, out, hr, h => by
  have hn : PlainPs [] := fun x hx => by simp at hx
  unfold Gj
  split
  ·split
   ·exact refGo_plain k _ _ (plain_ext _ _ hr) (addText_plain h (plain_byte hr 0 (by omega)))
   ·split
    ·split
     ·exact refGo_plain k _ _ (plain_ext _ _ hr) (addText_plain h (plain_byte hr 1 (by omega)))
     ·split
      ·exact refGo_plain k _ _ (plain_ext _ _ hr) (plainPs_app h (plain_ext _ _ (brace_plain (plain_ext _ _ hr))))
      ·exact hn
    ·exact hn
  ·exact h
theorem plainL_ofB {s : ByteArray} {m : Int} (h : Do s m = true) : Dn s.data.toList = true := by
 unfold Do at h
 simp only [Bool.and_eq_true, decide_eq_true_eq] at h
 exact h.1
theorem cutOf_plain (s : ByteArray) : PlainPs (Gn s).1 := by
 rw [cutOf_eq]
 unfold refOf
 split
 ·rename_i h
  exact refGo_plain _ _ _ (plainL_ofB h) (fun x hx => by simp at hx)
 ·exact fun x hx => by simp at hx
theorem get_plain {l : List S174} (h : C5 l = true) (s : ByteArray) : Dn (Dh l s).data.toList = true := by
 unfold Dh
 split
 ·rename_i h0
  have hlt := findS_lt l s
  obtain ⟨k, hk⟩ : ∃ k : Nat, Ea l s = k := ⟨(Ea l s).toNat, by omega⟩
  rw [hk] at hlt ⊢
  exact plainL_ofB (((may_iff l).1 h).1 k (by omega)).2.1
 ·rfl
theorem evalOf_plain {s : ByteArray} {l1 l2 : List S174} (h : (C3 s l1 l2).2 = 0) : Do (C3 s l1 l2).1 256 = true := by
 have hsz := Gt s l1 l2
 have hp : Dn (C3 s l1 l2).1.data.toList = true := by
  unfold C3 at h ⊢
  split
  ·rename_i hc
   split
   ·show Dn (Ew l1 l2 (Gn s).1) = true
    unfold Dn Ew
    rw [List.all_flatMap, List.all_eq_true]
    intro p hp
    have hpp := cutOf_plain s p hp
    show Dn (Ey l1 l2 p).data.toList = true
    unfold Ey orB
    split
    ·split
     ·exact get_plain hc.2.1 _
     ·exact get_plain hc.2.2 _
    ·exact hpp
   ·rfl
  ·rfl
 unfold Do
 rw [hp, Bool.true_and, decide_eq_true_eq]
 omega
def E4 (ps : List S44) : List (List UInt8) := ps.map (·.f0.toList)
def PoolIn (ps : List S44) (s : ByteArray) : Prop := s.toList = [] ∨ s.toList ∈ E4 ps
def Paths (l : List ByteArray) : Prop := (∀ x ∈ l, PathOk x) ∧ l.length ≤ 8
structure EdgeOk (ps : List S44) (e : S42) : Prop where
 outs : 0 < e.f0.length
 p0 : Paths e.f0
 p1 : Paths e.f1
 p2 : Paths e.f2
 p3 : Paths e.f3
 plain : Do e.f4 256 = true
 some' : 1 ≤ e.f4.size
 pool : PoolIn ps e.f6
def OpenOk (p : Pst) : Opn → Prop
 | .none => True
 | .rule => True
 | .pool => 0 < p.pools.length
 | .build outs ins imp ord r own => 0 < outs.length ∧ Paths outs ∧ Paths ins ∧ Paths imp ∧ Paths ord ∧ PoolIn p.pools r.f2 ∧ p.edges.length < 16
def posPools (p : Pst) : Opn → List S44
 | .pool => p.pools.dropLast
 | _ => p.pools
structure GM (p : Pst) (o : Opn) : Prop where
 names : ∀ x ∈ p.pools, Ce x.f0 = true
 uniq : (E4 p.pools).Nodup
 deep : ∀ x ∈ p.pools, 0 ≤ x.f1 ∧ x.f1 ≤ 8
 pos : ∀ x ∈ posPools p o, 1 ≤ x.f1
 plen : p.pools.length ≤ 4
 rules : ∀ r ∈ p.rules, PoolIn p.pools r.f2
 edges : ∀ e ∈ p.edges, EdgeOk p.pools e
 elen : p.edges.length ≤ 16
 defs : Paths p.defs
 opn : OpenOk p o
theorem gm0 : GM pst0 .none := ⟨fun x hx => by simp [pst0] at hx, List.nodup_nil, fun x hx => by simp [pst0] at hx, fun x hx => by simp [posPools, pst0] at hx, Nat.zero_le _, fun x hx => by simp [pst0] at hx, fun x hx => by simp [pst0] at hx, Nat.zero_le _, ⟨fun x hx => by simp [pst0] at hx, Nat.zero_le _⟩, trivial⟩
theorem G7 : ∀ (xs : List ByteArray) (e : Int), Dm e xs = 0 → e = 0 ∧ ∀ x ∈ xs, (Ej x).2 = 0
 | [], e, h => ⟨h, fun x hx => by simp at hx⟩
 | x :: xs, e, h => by
  have h1 : Dm (Db e (Ej x).2) xs = 0 := h
  obtain ⟨h2, h3⟩ := G7 xs _ h1
  obtain ⟨h4, h5⟩ := tookE_zero h2
  exact ⟨h4, fun y hy => by
   rcases List.mem_cons.1 hy with rfl | hy
   ·exact h5
   ·exact h3 y hy⟩
theorem paths_clean {xs : List ByteArray} (h : ∀ x ∈ xs, (Ej x).2 = 0) (hl : xs.length ≤ 8) : Paths (Bz xs) := by
 refine ⟨fun y hy => ?_, by unfold Bz; rw [List.length_map]; exact hl⟩
 unfold Bz at hy
 obtain ⟨x, hx, rfl⟩ := List.mem_map.1 hy
 exact clean_again (s := x) (Prod.ext rfl (h x hx))
theorem last_split {α : Type} (l : List α) (d : α) (h : 0 < l.length) : l = l.dropLast ++ [l.getD (l.length - 1) d] := by
 have hne : l ≠ [] := fun e => by rw [e] at h; simp at h
 have h1 := List.dropLast_concat_getLast hne
 rw [List.getLast_eq_getElem] at h1
 rw [List.getD_eq_getElem?_getD, List.getElem?_eq_getElem (by omega)]
 exact h1.symm
theorem gm_over {p : Pst} {o : Opn} (h : GM p o) (he : Hn p o 0 = 0) : GM (Gs p o) .none := by
 obtain ⟨h1, h2, h3, h4, h5, h6, h7, h8, h9, h10⟩ := h
 cases o with
 | none => exact ⟨h1, h2, h3, h4, h5, h6, h7, h8, h9, trivial⟩
 | rule => exact ⟨h1, h2, h3, h4, h5, h6, h7, h8, h9, trivial⟩
 | pool =>
  have hp : 0 < (C8 p.pools).f1 := by
   have := (Gu (show B9 0 (decide (0 < (C8 p.pools).f1)) = 0 from he)).2
   simpa using this
  refine ⟨h1, h2, h3, fun x hx => ?_, h5, h6, h7, h8, h9, trivial⟩
  have hx' : x ∈ p.pools := hx
  rw [last_split p.pools z44 h10] at hx'
  rcases List.mem_append.1 hx' with h11 | h11
  ·exact h4 x h11
  ·rw [List.mem_singleton.1 h11]; exact hp
 | build outs ins imp ord r own =>
  obtain ⟨i0, i1, i2, i3, i4, i5, i6⟩ := h10
  obtain ⟨a1, a2⟩ := Gu (show finE p.outer outs ins r own 0 = 0 from he)
  obtain ⟨a3, a4⟩ := tookE_zero a1
  have hpl := evalOf_plain (show (C3 r.f1 (finS2 outs ins own) p.outer).2 = 0 from a4)
  have hne : 1 ≤ (finC p.outer outs ins r own).1.size := by
   by_cases hc : 1 ≤ (finC p.outer outs ins r own).1.size
   ·exact hc
   ·rw [Fg hc] at a2
    exact absurd a2 (by decide)
  refine ⟨h1, h2, h3, h4, h5, h6, fun e hx => ?_, ?_, h9, trivial⟩
  ·have hx' : e ∈ p.edges ++ [⟨outs, ins, imp, ord, (finC p.outer outs ins r own).1, r.f3, r.f2⟩] := hx
   rcases List.mem_append.1 hx' with h11 | h11
   ·exact h7 e h11
   ·rw [List.mem_singleton.1 h11]
    exact ⟨i0, i1, i2, i3, i4, hpl, hne, i5⟩
  ·show (p.edges ++ [_]).length ≤ 16
   rw [List.length_append, List.length_singleton]
   omega
theorem byte_depth : ∀ n : Fin 256, (!(Op.bytesLess [UInt8.ofNat n.val] [49]) && (Op.bytesLess [UInt8.ofNat n.val] [56] || ([UInt8.ofNat n.val] == [56]))) = true → 1 ≤ IntKind.i64.wrap (IntKind.u8.wrap (((UInt8.ofNat n.val).toNat : Int) - 48)) ∧ IntKind.i64.wrap (IntKind.u8.wrap (((UInt8.ofNat n.val).toNat : Int) - 48)) ≤ 8 := by decide +kernel
theorem depth_ok {x : S44} {key value : ByteArray} (h : Fz x key value = true) : 1 ≤ IntKind.i64.wrap (IntKind.u8.wrap (bt value 0 - 48)) ∧ IntKind.i64.wrap (IntKind.u8.wrap (bt value 0 - 48)) ≤ 8 := by
 unfold Fz at h
 simp only [Bool.and_eq_true] at h
 obtain ⟨⟨⟨⟨_, _⟩, h1⟩, h2⟩, h3⟩ := h
 have hs : value.size = 1 := by
  have : ((value.size : Int) == 1) = true := h1
  have := eq_of_beq this
  omega
 have hb := Ga value 0 (by omega)
 have hl : value.toList = [value[0]] := by
  have h4 := E5 value 0 (by omega)
  rw [List.drop_zero, drop_end value 1 (by omega)] at h4
  have h5 : value.toList = value.data.toList := by rw [Lib.toList_data]
  rw [h5, h4]
 rw [show (0 : Int) = ((0 : Nat) : Int) from rfl, hb]
 have hn : value[0].toNat < 256 := value[0].toNat_lt
 have he : UInt8.ofNat value[0].toNat = value[0] := UInt8.ofNat_toNat
 have := byte_depth ⟨value[0].toNat, hn⟩
 simp only [he] at this
 refine this ?_
 rw [hl] at h2 h3
 rw [Bool.and_eq_true]
 exact ⟨h2, h3⟩
theorem names_set (ps : List S44) (d : Int) (h : 0 < ps.length) : E4 (ps.set (ps.length - 1) { C8 ps with f1 := d }) = E4 ps := by
 unfold E4
 rw [List.map_set]
 have hl : ps.length - 1 < (ps.map (·.f0.toList)).length := by rw [List.length_map]; omega
 have : ({ C8 ps with f1 := d } : S44).f0.toList = (ps.map (·.f0.toList))[ps.length - 1] := by
  rw [List.getElem_map]
  show (C8 ps).f0.toList = _
  unfold C8
  rw [List.getD_eq_getElem?_getD, List.getElem?_eq_getElem (by omega)]
  rfl
 rw [this, List.set_getElem_self]
theorem poolIn_eq {ps qs : List S44} (h : E4 qs = E4 ps) {s : ByteArray} (hs : PoolIn ps s) : PoolIn qs s := by
 unfold PoolIn at *
 rw [h]
 exact hs
theorem edgeOk_eq {ps qs : List S44} (h : ∀ s, PoolIn ps s → PoolIn qs s) {e : S42} (he : EdgeOk ps e) : EdgeOk qs e := ⟨he.outs, he.p0, he.p1, he.p2, he.p3, he.plain, he.some', h _ he.pool⟩
theorem idx_pool {ps : List S44} {s : ByteArray} (h : 0 ≤ idxP (fun x : S44 => x.f0.toList == s.toList) ps) : s.toList ∈ E4 ps := by
 rcases idxP_cases (fun x : S44 => x.f0.toList == s.toList) ps with ⟨h1, _⟩ | ⟨j, hj, h1, h2, _⟩
 ·omega
 ·unfold E4
  rw [← eq_of_beq h2]
  exact List.mem_map.2 ⟨ps[j], List.getElem_mem hj, rfl⟩
theorem idx_none {ps : List S44} {s : ByteArray} (h : idxP (fun x : S44 => x.f0.toList == s.toList) ps < 0) : s.toList ∉ E4 ps := by
 rcases idxP_cases (fun x : S44 => x.f0.toList == s.toList) ps with ⟨h1, h2⟩ | ⟨j, hj, h1, _⟩
 ·intro hm
  unfold E4 at hm
  obtain ⟨x, hx, he⟩ := List.mem_map.1 hm
  have := h2 x hx
  rw [he] at this
  simp at this
 ·omega
theorem lastR_pool {p : Pst} (h : ∀ r ∈ p.rules, PoolIn p.pools r.f2) : PoolIn p.pools (Cy p.rules).f2 := by
 unfold Cy
 rw [List.getD_eq_getElem?_getD]
 cases hx : p.rules[p.rules.length - 1]? with
 | none => exact .inl (Fg (s := ⟨#[]⟩) (by decide))
 | some x => exact h x (List.mem_of_getElem? hx)
theorem gm_deep {p : Pst} {o : Opn} {k v : ByteArray} (h : GM p o) (he : (deepR p o k v).2.2 = 0) : GM (deepR p o k v).1 (deepR p o k v).2.1 := by
 obtain ⟨h1, h2, h3, h4, h5, h6, h7, h8, h9, h10⟩ := h
 cases o with
 | none => exact ⟨h1, h2, h3, h4, h5, h6, h7, h8, h9, trivial⟩
 | rule =>
  refine ⟨h1, h2, h3, h4, h5, fun r hr => ?_, h7, h8, h9, trivial⟩
  have hr' : r ∈ p.rules.set (p.rules.length - 1) (Fl p.pools (Cy p.rules) k v).1 := hr
  have hok := (Gu (show B9 0 (Fl p.pools (Cy p.rules) k v).2 = 0 from he)).2
  rcases List.mem_or_eq_of_mem_set hr' with h11 | rfl
  ·exact h6 r h11
  ·have hl := lastR_pool h6
   show PoolIn p.pools (Fl p.pools (Cy p.rules) k v).1.f2
   unfold Fl at hok ⊢
   split
   ·exact hl
   rename_i q1
   rw [if_neg q1] at hok
   split
   ·exact hl
   rename_i q2
   rw [if_neg q2] at hok
   split
   ·rename_i q3
    rw [if_pos q3] at hok
    have hok' : ((!(Cy p.rules).f4) && decide (0 ≤ idxP (fun x : S44 => x.f0.toList == v.toList) p.pools)) = true := hok
    rw [Bool.and_eq_true, decide_eq_true_eq] at hok'
    exact .inr (idx_pool hok'.2)
   ·exact hl
 | pool =>
  have hE : poolDE p 0 k v = 0 := he
  have hok := (Gu (show B9 0 (Fz (C8 p.pools) k v) = 0 from hE)).2
  have hd := depth_ok hok
  show GM (poolD p 0 k v) .pool
  unfold poolD
  rw [if_pos hE]
  generalize IntKind.i64.wrap (IntKind.u8.wrap (bt v 0 - 48)) = D at hd
  have hnm := names_set p.pools D h10
  have hlen : (p.pools.set (p.pools.length - 1) { C8 p.pools with f1 := D }).length = p.pools.length := List.length_set
  have hlast : C8 p.pools ∈ p.pools := by
   unfold C8
   rw [List.getD_eq_getElem?_getD, List.getElem?_eq_getElem (show p.pools.length - 1 < p.pools.length by have : 0 < p.pools.length := h10; omega)]
   exact List.getElem_mem _
  refine ⟨fun x hx => ?_, ?_, fun x hx => ?_, fun x hx => ?_, ?_, fun r hr => poolIn_eq hnm (h6 r hr), fun e hx => edgeOk_eq (fun s hs => poolIn_eq hnm hs) (h7 e hx), h8, h9, ?_⟩
  ·rcases List.mem_or_eq_of_mem_set hx with h11 | rfl
   ·exact h1 x h11
   ·show Ce (C8 p.pools).f0 = true
    exact h1 _ hlast
  ·show (E4 (p.pools.set (p.pools.length - 1) { C8 p.pools with f1 := D })).Nodup
   rw [hnm]; exact h2
  ·rcases List.mem_or_eq_of_mem_set hx with h11 | rfl
   ·exact h3 x h11
   ·exact ⟨by have := hd.1; show 0 ≤ D; omega, hd.2⟩
  ·have hx' : x ∈ (p.pools.set (p.pools.length - 1) { C8 p.pools with f1 := D }).dropLast := hx
   have hds : (p.pools.set (p.pools.length - 1) { C8 p.pools with f1 := D }).dropLast = p.pools.dropLast := by
    rw [List.dropLast_eq_take, List.dropLast_eq_take, hlen, List.take_set_of_le (Nat.le_refl _)]
   rw [hds] at hx'
   exact h4 x hx'
  ·show (p.pools.set _ _).length ≤ 4
   rw [hlen]; exact h5
  ·show 0 < (p.pools.set _ _).length
   rw [hlen]; exact h10
 | build outs ins imp ord r own =>
  exact ⟨h1, h2, h3, h4, h5, h6, h7, h8, h9, h10⟩
theorem one_ok {rest : ByteArray} (h : (oneW 0 rest).2 = 0) : Ce (oneW 0 rest).1 = true := by
 have h' : B9 0 (oneOk (Cj rest)) = 0 := h
 unfold oneW
 rw [if_pos h']
 have hk := (Gu h').2
 unfold oneOk at hk
 unfold oneName
 split at hk
 ·exact hk
 ·exact absurd hk (by decide)
theorem build_lens {s : ByteArray} (h : (Cr s).2.2.2.2.2 = 0) : 0 < (Cr s).1.length ∧ (Cr s).1.length ≤ 8 ∧ (Cr s).2.2.1.length ≤ 8 ∧ (Cr s).2.2.2.1.length ≤ 8 ∧ (Cr s).2.2.2.2.1.length ≤ 8 := by
 have hp : ∀ ws sgn, (E7 ws sgn).2.2 = false → (E7 ws sgn).1.length ≤ 8 := by
  intro ws sgn hq
  unfold E7 at hq ⊢
  split
  ·rename_i hs
   rw [if_pos hs] at hq
   have hq' : (decide (Cm (ws.drop 1) < 1) || decide (8 < Cm (ws.drop 1))) = false := hq
   rw [Bool.or_eq_false_iff, decide_eq_false_iff_not, decide_eq_false_iff_not] at hq'
   show ((ws.drop 1).take (Cm (ws.drop 1))).length ≤ 8
   rw [List.length_take]
   omega
  ·exact Nat.zero_le _
 cases hb : buildB s with
 | none => rw [show Cr s = ([], ⟨#[]⟩, [], [], [], 700) by unfold Cr; rw [hb]] at h; exact absurd h (by decide)
 | some t =>
  obtain ⟨a, b, c, d, e⟩ := t
  rw [show Cr s = (a, b, c, d, e, 0) by unfold Cr; rw [hb]]
  unfold buildB at hb
  simp only at hb
  split at hb
  ·simp at hb
  rename_i q1
  split at hb
  ·simp at hb
  split at hb
  ·simp at hb
  split at hb
  ·simp at hb
  split at hb
  ·simp at hb
  rename_i q5
  simp only [Option.some.injEq, Prod.mk.injEq] at hb
  obtain ⟨rfl, rfl, rfl, rfl, rfl⟩ := hb
  simp only [Bool.or_eq_true, decide_eq_true_eq, not_or] at q1 q5
  have hle := F5 (Cj s)
  refine ⟨by rw [List.length_take]; omega, by rw [List.length_take]; omega, by rw [List.length_take]; omega, hp _ _ (by simpa using q5.1.1.2), hp _ _ (by simpa using q5.1.2)⟩
theorem gm_flat {p : Pst} {t : ByteArray} (h : GM p .none) (he : (F8 p t).2.2 = 0) : GM (F8 p t).1 (F8 p t).2.1 := by
 obtain ⟨h1, h2, h3, h4, h5, h6, h7, h8, h9, _⟩ := h
 unfold F8 at he ⊢
 simp only at he ⊢
 generalize cutC 32 t = c at *
 split at he
 ·rename_i hk
  rw [if_pos hk]
  refine ⟨h1, h2, h3, h4, h5, fun r hr => ?_, h7, h8, h9, trivial⟩
  have hr' : r ∈ p.rules ++ [⟨(oneW 0 c.2.1).1, ⟨#[]⟩, ⟨#[]⟩, false, false⟩] := hr
  rcases List.mem_append.1 hr' with h11 | h11
  ·exact h6 r h11
  ·rw [List.mem_singleton.1 h11]; exact .inl (Fg (s := ⟨#[]⟩) (by decide))
 rename_i k1
 rw [if_neg k1]
 split at he
 ·rename_i hk
  rw [if_pos hk]
  have hr : poolE p 0 c.2.1 = 0 := he
  obtain ⟨a1, a2⟩ := Hg hr
  obtain ⟨a3, a4⟩ := Gu a1
  simp only [decide_eq_true_eq] at a2 a4
  have hnm := one_ok a3
  have hno := idx_none a4
  generalize (oneW 0 c.2.1).1 = nm at hnm hno
  have hin : ∀ s, PoolIn p.pools s → PoolIn (p.pools ++ [⟨nm, 0⟩]) s := fun s hs => hs.imp id (fun q => by unfold E4 at *; rw [List.map_append]; exact List.mem_append_left _ q)
  refine ⟨fun x hx => ?_, ?_, fun x hx => ?_, fun x hx => ?_, ?_, fun r hr => hin _ (h6 r hr), fun e hx => edgeOk_eq hin (h7 e hx), h8, h9, ?_⟩
  ·rcases List.mem_append.1 (show x ∈ p.pools ++ [⟨nm, 0⟩] from hx) with h11 | h11
   ·exact h1 x h11
   ·rw [List.mem_singleton.1 h11]; exact hnm
  ·show (E4 (p.pools ++ [⟨nm, 0⟩])).Nodup
   unfold E4
   rw [List.map_append, List.nodup_append]
   refine ⟨h2, by simp, fun a ha b hb => ?_⟩
   have hb' : b = nm.toList := by simpa using hb
   rw [hb']
   exact fun e => hno (e ▸ ha)
  ·rcases List.mem_append.1 (show x ∈ p.pools ++ [⟨nm, 0⟩] from hx) with h11 | h11
   ·exact h3 x h11
   ·rw [List.mem_singleton.1 h11]; exact ⟨Int.le_refl 0, (by decide : (0 : Int) ≤ 8)⟩
  ·have hx' : x ∈ (p.pools ++ [(⟨nm, 0⟩ : S44)]).dropLast := hx
   rw [List.dropLast_concat] at hx'
   exact h4 x hx'
  ·show (p.pools ++ [_]).length ≤ 4
   rw [List.length_append, List.length_singleton]
   omega
  ·show 0 < (p.pools ++ [_]).length
   rw [List.length_append, List.length_singleton]
   omega
 rename_i k2
 rw [if_neg k2]
 split at he
 ·rename_i hk
  rw [if_pos hk]
  have hr : Io p (Cr c.2.1) (Ip p 0 (Cr c.2.1)) = 0 := he
  show GM p (Im p (Cr c.2.1) (Ip p 0 (Cr c.2.1)))
  unfold Io at hr
  unfold Im
  split at hr
  ·rename_i h0
   rw [if_pos h0]
   obtain ⟨a1, a2⟩ := Hg hr
   simp only [decide_eq_true_eq] at a2
   obtain ⟨b1, b2⟩ := Gu h0
   simp only [decide_eq_true_eq] at b2
   obtain ⟨l0, l1, l2, l3, l4⟩ := build_lens (tookE_zero b1).2
   obtain ⟨c1, c2⟩ := G7 _ _ a1
   obtain ⟨c3, c4⟩ := G7 _ _ c1
   obtain ⟨c5, c6⟩ := G7 _ _ c3
   obtain ⟨c7, c8⟩ := G7 _ _ c5
   exact ⟨h1, h2, h3, h4, h5, h6, h7, h8, h9, by unfold Bz; rw [List.length_map]; exact l0, paths_clean c8 l1, paths_clean c6 l2, paths_clean c4 l3, paths_clean c2 l4, h6 _ (idx_mem p _ b2), by omega⟩
  ·rename_i h0
   exact absurd hr h0
 rename_i k3
 rw [if_neg k3]
 split at he
 ·rename_i hk
  rw [if_pos hk]
  have hr : defE p 0 c.2.1 = 0 := he
  obtain ⟨a1, a2⟩ := Hg hr
  simp only [decide_eq_true_eq] at a2
  obtain ⟨c1, c2⟩ := G7 _ _ a1
  have hl : (Cj c.2.1).length ≤ 8 := by
   rw [List.length_append] at a2
   unfold Bz at a2
   rw [List.length_map] at a2
   omega
  refine ⟨h1, h2, h3, h4, h5, h6, h7, h8, ⟨fun x hx => ?_, ?_⟩, trivial⟩
  ·rcases List.mem_append.1 (show x ∈ p.defs ++ Bz (Cj c.2.1) from hx) with h11 | h11
   ·exact h9.1 x h11
   ·exact (paths_clean c2 hl).1 x h11
  ·show (p.defs ++ Bz (Cj c.2.1)).length ≤ 8
   omega
 rename_i k4
 rw [if_neg k4]
 unfold Ft at he ⊢
 split at he
 ·rename_i h0
  rw [if_pos h0]
  exact ⟨h1, h2, h3, h4, h5, h6, h7, h8, h9, trivial⟩
 ·rename_i h0
  exact absurd he h0
theorem gm_line {p : Pst} {o : Opn} {d : Bool} {t : ByteArray} (h : GM p o) (he : (Ez p o d t).2.2 = 0) : GM (Ez p o d t).1 (Ez p o d t).2.1 := by
 unfold Ez at he ⊢
 split at he
 ·rename_i hd
  rw [if_pos hd]
  unfold B7 at he ⊢
  split at he
  ·rename_i h0
   rw [if_pos h0]
   exact gm_deep h he
  ·rename_i h0
   exact absurd he h0
 ·rename_i hd
  rw [if_neg hd]
  split at he
  ·rename_i h0
   rw [if_pos h0]
   exact gm_flat (gm_over h h0) he
  ·rename_i h0
   exact absurd he h0
theorem gm_go : ∀ (l : List S59) (p : Pst) (o : Opn), GM p o → (Fw l p o).2.2 = 0 → GM (Fw l p o).1 (Fw l p o).2.1
 | [], p, o, h, _ => h
 | x :: l, p, o, h, he => by
  have e1 : Fw (x :: l) p o = if (Ez p o x.f0 x.f1).2.2 = 0 then Fw l (Ez p o x.f0 x.f1).1 (Ez p o x.f0 x.f1).2.1 else Ez p o x.f0 x.f1 := rfl
  rw [e1] at he ⊢
  by_cases h0 : (Ez p o x.f0 x.f1).2.2 = 0
  ·rw [if_pos h0] at he ⊢
   exact gm_go l _ _ (gm_line h h0) he
  ·rw [if_neg h0] at he
   exact absurd he h0
theorem gm_parse {s : ByteArray} (h : (Ge s).2.2.2 = 0) : ∃ p, GM p .none ∧ Ge s = (p.edges, p.pools, p.defs, 0) := by
 unfold Ge at h ⊢
 split at h
 ·rename_i h0
  rw [if_pos h0]
  unfold Ig at h ⊢
  split at h
  ·rename_i h1
   rw [if_pos h1]
   split at h
   ·rename_i h2
    rw [if_pos h2]
    exact ⟨_, gm_over (gm_go _ _ _ gm0 h1) h2, rfl⟩
   ·rename_i h2
    exact absurd h h2
  ·rename_i h1
   exact absurd h h1
 ·exact absurd h (by decide)
def Ha (w : World) (base : Nat) (p : Pst) (vE vP vD vR vO : Value) (ok : Nat → Prop) : Prop :=
 Kd.R k42 42 w base (fun k => some k ≠ vD.ownBlock ∧ ok k) vE p.edges ∧ Kd.R k44 44 w base (fun _ => True) vP p.pools ∧ Kd.R Kd.string 9 w base ok vD p.defs ∧ Kd.R kq 95 w base (fun _ => True) vR p.rules ∧ Kd.R k174 174 w base (fun _ => True) vO p.outer
structure Ir (seen : List ByteArray) (r : S116) : Prop where
 all : ∀ x ∈ seen, x.toList = [99, 111, 109, 109, 97, 110, 100] ∨ x.toList = [100, 101, 112, 115] ∨ x.toList = [112, 111, 111, 108]
 command : (seen.any fun x => x.toList == [99, 111, 109, 109, 97, 110, 100]) = !r.f1.toList.isEmpty
 deps : (seen.any fun x => x.toList == [100, 101, 112, 115]) = r.f3
 pool : (seen.any fun x => x.toList == [112, 111, 111, 108]) = r.f4
 len : seen.length ≤ (!r.f1.toList.isEmpty).toNat + r.f3.toNat + r.f4.toNat
def ROpn (w : World) (base : Nat) (p : Pst) (vP vD vR : Value) (op : Int) (v6 : Value) (nm : ByteArray) (v8 v9 v10 v11 : Value) (ok : Nat → Prop) : Opn → Prop
 | .none => op = 0
 | .rule => op = 1 ∧ 1 ≤ p.rules.length ∧ ∃ g c vS seen, vR = .slice (some ⟨g, 0, none⟩) p.rules.length c ∧ w.cell? ⟨g, (p.rules.length - 1) * 5 + 4, none⟩ = some vS ∧ Kd.R Kd.string 9 w base (fun _ => True) vS seen ∧ Ir seen (Cy p.rules) ∧ ∀ k, ok k → some k ≠ vS.ownBlock
 | .pool => op = 2 ∧ 1 ≤ p.pools.length ∧ ∃ g c, vP = .slice (some ⟨g, 0, none⟩) p.pools.length c
 | .build outs ins imp ord r own => op = 3 ∧ Kd.R Kd.string 9 w base (fun k => some k ≠ vD.ownBlock) v6 outs ∧ Kd.R Kd.string 9 w base (fun k => some k ≠ vD.ownBlock) v8 ins ∧ Kd.R Kd.string 9 w base (fun k => some k ≠ vD.ownBlock) v9 imp ∧ Kd.R Kd.string 9 w base (fun k => some k ≠ vD.ownBlock) v10 ord ∧ Kd.R k174 174 w base (fun _ => True) v11 own ∧ Gq own ∧ 0 ≤ idxP (fun x : S116 => x.f0.toList == nm.toList) p.rules ∧ Eh p.rules (idxP (fun x : S116 => x.f0.toList == nm.toList) p.rules) = r
def RSt (w : World) (base B : Nat) (p : Pst) (o : Opn) : Prop := ∃ vE vP vD vR vO op v6 nm v8 v9 v10 v11, ∃ ok : Nat → Prop, base ≤ B ∧ Rb w B vE vP vD vR vO op v6 nm v8 v9 v10 v11 ∧ Ha w base p vE vP vD vR vO ok ∧ Gq p.outer ∧ ROpn w base p vP vD vR op v6 nm v8 v9 v10 v11 ok o
theorem D8 {w w1 : World} {base : Nat} {p : Pst} {vE vP vD vR vO : Value} {ok : Nat → Prop} (h : Ha w base p vE vP vD vR vO ok) (hb : Below w.heap.size w w1) : Ha w1 base p vE vP vD vR vO ok := by
 obtain ⟨h1, h2, h3, h4, h5⟩ := h
 exact ⟨Kd.Bj h1 hb, Kd.Bj h2 hb, Kd.Bj h3 hb, Kd.Bj h4 hb, Kd.Bj h5 hb⟩
theorem ROpn_below {w w1 : World} {base : Nat} {p : Pst} {vP vD vR v6 v8 v9 v10 v11 : Value} {op : Int} {nm : ByteArray} {ok : Nat → Prop} {o : Opn} (h : ROpn w base p vP vD vR op v6 nm v8 v9 v10 v11 ok o) (hb : Below w.heap.size w w1) : ROpn w1 base p vP vD vR op v6 nm v8 v9 v10 v11 ok o := by
 cases o with
 | none => exact h
 | pool => exact h
 | rule =>
  obtain ⟨h1, h2, g, c, vS, seen, h3, h4, h5, h6⟩ := h
  exact ⟨h1, h2, g, c, vS, seen, h3, Be hb h4, Kd.Bj h5 hb, h6⟩
 | build outs ins imp ord r own =>
  obtain ⟨h1, h2, h3, h4, h5, h6, h7⟩ := h
  exact ⟨h1, Kd.Bj h2 hb, Kd.Bj h3 hb, Kd.Bj h4 hb, Kd.Bj h5 hb, Kd.Bj h6 hb, h7⟩
theorem RSt_below {w w1 : World} {base B : Nat} {p : Pst} {o : Opn} (h : RSt w base B p o) (hb : Below w.heap.size w w1) : RSt w1 base B p o := by
 obtain ⟨vE, vP, vD, vR, vO, op, v6, nm, v8, v9, v10, v11, ok, h1, h2, h3, h4, h5⟩ := h
 exact ⟨vE, vP, vD, vR, vO, op, v6, nm, v8, v9, v10, v11, ok, h1, Aj h2 hb, D8 h3 hb, h4, ROpn_below h5 hb⟩
theorem rb_flat (p : Pst) (t : ByteArray) : (Ft p t).2.2 = rbE p.outer p.outer t ∧ (rbE p.outer p.outer t = 0 → (Ft p t).1 = { p with outer := rbL p.outer p.outer t } ∧ (Ft p t).2.1 = .none) := by
 unfold Ft rbE rbL
 split
 ·exact ⟨rfl, fun _ => ⟨rfl, rfl⟩⟩
 ·rename_i h
  exact ⟨rfl, fun h0 => absurd h0 h⟩
theorem rb_deep (p : Pst) (outs ins imp ord : List ByteArray) (r : S116) (own : List S174) (t : ByteArray) : (B7 p (.build outs ins imp ord r own) t).2.2 = rbE p.outer own t ∧ (rbE p.outer own t = 0 → (B7 p (.build outs ins imp ord r own) t).1 = p ∧ (B7 p (.build outs ins imp ord r own) t).2.1 = .build outs ins imp ord r (rbL p.outer own t)) := by
 have e : B9 (B9 0 (isOpen (.build outs ins imp ord r own))) (Bt t).2.2 = B9 0 (Bt t).2.2 := rfl
 unfold B7 rbE rbL
 rw [e]
 split
 ·exact ⟨rfl, fun _ => ⟨rfl, rfl⟩⟩
 ·rename_i h
  exact ⟨rfl, fun h0 => absurd h0 h⟩
theorem rp_code : ∀ ok i l : Bool, Gr (B9 (B9 0 ok) i) l = if (ok && i) = true then (if l = true then 0 else 801) else 800 := by decide
theorem ruleE_eq (p : Pst) (s : ByteArray) : ruleE p 0 s = if (oneOk (Cj s) && decide (idxP (fun x : S116 => x.f0.toList == (oneW 0 s).1.toList) p.rules < 0)) = true then (if decide ((p.rules.length : Int) < 8) = true then 0 else 801) else 800 := rp_code _ _ _
theorem poolE_eq (p : Pst) (s : ByteArray) : poolE p 0 s = if (oneOk (Cj s) && decide (idxP (fun x : S44 => x.f0.toList == (oneW 0 s).1.toList) p.pools < 0)) = true then (if decide ((p.pools.length : Int) < 4) = true then 0 else 801) else 800 := rp_code _ _ _
theorem oneOk_len {ws : List ByteArray} (h : ws.length ≠ 1) : oneOk ws = false := by
 match ws, h with
 | [], _ => rfl
 | [x], h => exact absurd rfl h
 | x :: y :: l, _ => rfl
theorem oneW_one {s x : ByteArray} (h : Cj s = [x]) (hx : Ce x = true) : (oneW 0 s).1 = x := by
 unfold oneW
 rw [h, show oneOk [x] = true from hx]
 rfl
theorem rule_one {p : Pst} {s x : ByteArray} (h : Cj s = [x]) : ruleE p 0 s = if (Ce x && decide (idxP (fun y : S116 => y.f0.toList == x.toList) p.rules < 0)) = true then (if decide ((p.rules.length : Int) < 8) = true then 0 else 801) else 800 := by
 rw [ruleE_eq, h, show oneOk [x] = Ce x from rfl]
 cases hx : Ce x with
 | false => rfl
 | true => rw [oneW_one h hx]
theorem pool_one {p : Pst} {s x : ByteArray} (h : Cj s = [x]) : poolE p 0 s = if (Ce x && decide (idxP (fun y : S44 => y.f0.toList == x.toList) p.pools < 0)) = true then (if decide ((p.pools.length : Int) < 4) = true then 0 else 801) else 800 := by
 rw [poolE_eq, h, show oneOk [x] = Ce x from rfl]
 cases hx : Ce x with
 | false => rfl
 | true => rw [oneW_one h hx]
theorem rule_many {p : Pst} {s : ByteArray} (h : (Cj s).length ≠ 1) : ruleE p 0 s = 800 := by rw [ruleE_eq, oneOk_len h]; rfl
theorem pool_many {p : Pst} {s : ByteArray} (h : (Cj s).length ≠ 1) : poolE p 0 s = 800 := by rw [poolE_eq, oneOk_len h]; rfl
theorem one_of_len {ws : List ByteArray} (h : ws.length = 1) : ∃ x, ws = [x] := List.length_eq_one_iff.1 h
theorem tookE_800 (c : Int) : Db 800 c = 800 := by unfold Db B9 Gr; simp
theorem Fo : ∀ xs : List ByteArray, Dm 800 xs = 800
 | [] => rfl
 | x :: xs => by show Dm (Db 800 (Ej x).2) xs = 800; rw [tookE_800]; exact Fo xs
theorem clean_codes (s : ByteArray) : (Ej s).2 ≠ 401 := by
 unfold Ej
 split
 ·split
  ·decide
  ·split
   ·decide
   ·exact (by decide : (0 : Int) ≠ 401)
 ·decide
theorem Ia : ∀ xs : List ByteArray, Dm 0 xs = if Dq xs = true then 0 else 800
 | [] => rfl
 | x :: xs => by
  show Dm (Db 0 (Ej x).2) xs = _
  have hc := clean_codes x
  by_cases h : (Ej x).2 = 0
  ·rw [h, show Db 0 0 = 0 by decide, Ia xs]
   have : Dq (x :: xs) = Dq xs := by unfold Dq; rw [List.all_cons, h]; rfl
   rw [this]
  ·rw [show Db 0 (Ej x).2 = 800 by unfold Db; rw [bne_iff_ne.2 hc, beq_false_of_ne h]; rfl, Fo]
   have : Dq (x :: xs) = false := by unfold Dq; rw [List.all_cons, beq_false_of_ne h]; rfl
   rw [this]
   rfl
theorem roomE_800 (b : Bool) : Gr 800 b = 800 := by unfold Gr; simp
theorem def_eq (p : Pst) (s : ByteArray) : defE p 0 s = if (Dq (Cj s) && decide (0 < (Cj s).length)) = true then (if decide (((p.defs ++ Bz (Cj s)).length : Int) ≤ 8) = true then 0 else 801) else 800 := by
 unfold defE
 cases h : decide (0 < (Cj s).length) with
 | false =>
  rw [show B9 0 false = 800 by decide, Fo, roomE_800, Bool.and_false]
  rfl
 | true =>
  rw [show B9 0 true = 0 by decide, Ia, Bool.and_true]
  cases Dq (Cj s) with
  | false => exact roomE_800 _
  | true => cases decide (((p.defs ++ Bz (Cj s)).length : Int) ≤ 8) <;> rfl
theorem buildR_codes (s : ByteArray) : (Cr s).2.2.2.2.2 = 0 ∨ (Cr s).2.2.2.2.2 = 700 := by
 unfold Cr
 cases buildB s with
 | none => exact Or.inr rfl
 | some t => exact Or.inl rfl
theorem build_eq (p : Pst) (s : ByteArray) : Hv p 0 s = if ((Cr s).2.2.2.2.2 = 0 ∧ 0 ≤ idxP (fun x : S116 => x.f0.toList == (Cr s).2.1.toList) p.rules) ∧ (Dq (Cr s).1 && (Dq (Cr s).2.2.1 && (Dq (Cr s).2.2.2.1 && Dq (Cr s).2.2.2.2.1))) = true then (if decide ((p.edges.length : Int) < 16) = true then 0 else 801) else 800 := by
 unfold Hv Ip
 rcases buildR_codes s with h | h
 ·rw [h, show Db 0 0 = 0 by decide]
  by_cases hi : 0 ≤ idxP (fun x : S116 => x.f0.toList == (Cr s).2.1.toList) p.rules
  ·rw [decide_eq_true hi, show B9 0 true = 0 by decide]
   unfold Io
   rw [if_pos rfl, Ia]
   cases h1 : Dq (Cr s).1 with
   | false =>
    rw [if_neg (by decide), Fo, Fo, Fo, roomE_800, if_neg (fun q => by simp at q)]
   | true =>
    rw [if_pos rfl, Ia]
    cases h2 : Dq (Cr s).2.2.1 with
    | false =>
     rw [if_neg (by decide), Fo, Fo, roomE_800, if_neg (fun q => by simp at q)]
    | true =>
     rw [if_pos rfl, Ia]
     cases h3 : Dq (Cr s).2.2.2.1 with
     | false =>
      rw [if_neg (by decide), Fo, roomE_800, if_neg (fun q => by simp at q)]
     | true =>
      rw [if_pos rfl, Ia]
      cases h4 : Dq (Cr s).2.2.2.2.1 with
      | false => rw [if_neg (by decide), roomE_800, if_neg (fun q => by simp at q)]
      | true =>
       rw [if_pos rfl, if_pos ⟨⟨rfl, hi⟩, rfl⟩]
       cases decide ((p.edges.length : Int) < 16) <;> rfl
  ·rw [decide_eq_false hi, show B9 0 false = 800 by decide, if_neg (fun q => hi q.1.2)]
   rfl
 ·rw [h, show Db 0 700 = 800 by decide, if_neg (fun q => absurd q.1.1 (by decide))]
  unfold B9
  rw [if_neg (fun q => absurd q.2 (by decide))]
  rfl
end Go.Proofs.YtefheailchihaaaGreatDoor.Print
end
section
namespace Go.Proofs.YtefheailchihaaaGreatDoor.Print
open Go.RowKit Go.Lib Go.Shelf Go.Proofs.YtefheailchihaaaGreatDoorW.PrintWords Go.Proofs.YtefheailchihaaaGreatDoorW.PrintLast Go.Proofs.YtefheailchihaaaGreatDoorW.PrintMore
attribute [local go_sem ↓] Go.wp_at_zero Go.wp_at_succ
theorem RRows_set {w : World} {base B : Nat} {p : Pst} {vE vP vD vR vO v6 v8 v9 v10 v11 : Value} {op : Int} {nm : ByteArray} {ok : Nat → Prop} (h : Ha w base p vE vP vD vR vO ok) (hb : Rb w B vE vP vD vR vO op v6 nm v8 v9 v10 v11) (j : Nat) (u : Value) : Ha (w.setCell ⟨B, j, none⟩ u) base p vE vP vD vR vO ok := by
 obtain ⟨h1, h2, h3, h4, h5⟩ := h
 exact ⟨Bf h1 (Bm w B j u) (Dt hb (by decide)), Bf h2 (Bm w B j u) (Dt hb (by decide)), Bf h3 (Bm w B j u) (Dt hb (by decide)), Bf h4 (Bm w B j u) (Dt hb (by decide)), Bf h5 (Bm w B j u) (Dt hb (by decide))⟩
theorem rst_close {w : World} {base B : Nat} {p : Pst} {vE vP vD vR vO v6 v8 v9 v10 v11 : Value} {op : Int} {nm : ByteArray} {ok : Nat → Prop} (hbB : base ≤ B) (hb : Rb w B vE vP vD vR vO op v6 nm v8 v9 v10 v11) (h : Ha w base p vE vP vD vR vO ok) (hS : Gq p.outer) : RSt (w.setCell ⟨B, 5, none⟩ (.int .i64 0)) base B p .none :=
 ⟨vE, vP, vD, vR, vO, 0, v6, nm, v8, v9, v10, v11, ok, hbB, Az hb 5 _ rfl, RRows_set h hb 5 _, hS, rfl⟩
theorem over23_none (base B : Nat) (p : Pst) (w : World) (h : RSt w base B p .none) :
 Calls Tryz.prog 23 #[.pointer (some ⟨B, 0, none⟩)] w fun x w' => x = .returned (.int .i64 0) ∧ RSt w' base B p .none ∧ Below base w w' := by
 obtain ⟨vE, vP, vD, vR, vO, op, v6, nm, v8, v9, v10, v11, ok, hbB, hb, hR, hS, ho⟩ := h
 obtain rfl : op = 0 := ho
 have HR := Aa.mk hR
 have HB := Aa.mk hb
 have c5 : w.cell? ⟨B, 5, none⟩ = some (.int .i64 0) := Ab hb 5
 have f5 := As hb 5
 clear hR hb
 go_enter Tryz.func23, Tryz.ntmps23
 go_wp2_with fail
 go_ret
 exact ⟨rfl, rst_close hbB HB.out HR.out hS, (Below.refl base w).setCell (p := ⟨B, 5, none⟩) hbB _⟩
theorem over23_rule (base B : Nat) (p : Pst) (w : World) (h : RSt w base B p .rule) :
 Calls Tryz.prog 23 #[.pointer (some ⟨B, 0, none⟩)] w fun x w' => x = .returned (.int .i64 (Hn p .rule 0)) ∧ RSt w' base B p .none ∧ Below base w w' := by
 obtain ⟨vE, vP, vD, vR, vO, op, v6, nm, v8, v9, v10, v11, ok, hbB, hb, hR, hS, ho⟩ := h
 obtain ⟨rfl, hn, g, c, vS, seen, hv, hvS, hvR, _, _⟩ := ho
 subst hv
 obtain ⟨A4, n4, c4, lc, _, _⟩ := q_last hR.2.2.2.1 hn
 have y1 := lc 1 _ rfl
 clear lc
 have hE : Hn p .rule 0 = B9 0 (!(Cy p.rules).f1.toList.isEmpty) := rfl
 rw [hE]
 clear hE
 obtain ⟨r, hr⟩ : ∃ r, Cy p.rules = r := ⟨_, rfl⟩
 rw [hr] at y1 ⊢
 clear hr
 have HR := Aa.mk hR
 have HB := Aa.mk hb
 have hm := Hb (Kd.R_reads' hR.2.2.2.1).2.2
 have c5 : w.cell? ⟨B, 5, none⟩ = some (.int .i64 1) := Ab hb 5
 have f5 := As hb 5
 have hBg : ¬ B = g := by
  obtain ⟨cs, hg⟩ := Da hR.2.2.2.1 (k := g) rfl
  exact fun q => Du hb hg (by decide) q
 have hw1 : (w.setCell ⟨B, 5, none⟩ (.int .i64 0)).cell? ⟨B, 3, none⟩ = some (.slice (some ⟨g, 0, none⟩) p.rules.length c) := Ab (Az hb 5 (.int .i64 0) rfl) 3
 have hw2 : (w.setCell ⟨B, 5, none⟩ (.int .i64 0)).cell? ⟨g, (p.rules.length - 1) * 5 + 1, none⟩ = some (.string r.f1) := by rw [World.cell?_setCell_far _ _ _ _ hBg]; exact y1
 have HRS := Aa.mk (rst_close hbB HB.out HR.out hS)
 have HBS := Aa.mk ((Below.refl base w).setCell (p := ⟨B, 5, none⟩) hbB (.int .i64 0))
 clear hR hb y1 hvS hvR
 obtain ⟨n, hnn⟩ : ∃ n, p.rules.length = n := ⟨_, rfl⟩
 have HNN := Aa.mk hnn
 rw [hnn] at hn hm hw1 hw2
 clear hnn
 have hlt : n - 1 < n := by omega
 have hwn : wrap64 (((n : Nat) : Int) - 1) = ((n - 1 : Nat) : Int) := by unfold wrap64; omega
 go_enter Tryz.func23, Tryz.ntmps23
 go_upto_region 5 with (fail)
 generalize w.setCell ⟨B, 5, none⟩ (.int .i64 0) = w1 at hw1 hw2 HRS HBS ⊢
 clear HR HB c5 f5 hBg
 by_cases hx : r.f1.toList = []
 ·have hb1 : (r.f1.toList == ([] : List UInt8)) = true := beq_iff_eq.2 hx
  refine sX 14 (S := fun w' => w'.cell? ⟨B, 3, none⟩ = some (.slice (some ⟨g, 0, none⟩) n c) ∧ w'.cell? ⟨g, (n - 1) * 5 + 1, none⟩ = some (.string r.f1)) (ds := []) ⟨hw1, hw2⟩ (fun hHeld => ?_)
  have HRd := Aa.mk (RSt_below HRS.out (Below.refl w1.heap.size w1).drew)
  have HBd := Aa.mk (HBS.out.drew)
  clear HRS HBS hw1 hw2
  generalize w1.drew = wd at HRd HBd hHeld ⊢
  refine pX 0 14 ?_
  refine pX 1 15 ?_
  refine pX 2 16 ?_
  refine pX 4 18 ?_
  refine pX 5 19 ?_
  refine pX 6 20 ?_
  refine tX 3 17 hHeld ?_
  refine tX 7 21 hHeld ?_
  refine pX 8 22 ?_
  refine pX 9 23 ?_
  refine pX 10 24 ?_
  refine pX 11 25 ?_
  refine tX 12 26 hHeld ?_
  refine pX 13 27 ?_
  refine dX ?_
  go_wp2_with fail
  go_ret
  exact ⟨by rw [show (!r.f1.toList.isEmpty) = false by rw [hx]; rfl]; rfl, HRd.out, HBd.out⟩
 ·have hb1 : (r.f1.toList == ([] : List UInt8)) = false := beq_eq_false_iff_ne.2 hx
  refine sX 14 (S := fun w' => w'.cell? ⟨B, 3, none⟩ = some (.slice (some ⟨g, 0, none⟩) n c) ∧ w'.cell? ⟨g, (n - 1) * 5 + 1, none⟩ = some (.string r.f1)) (ds := []) ⟨hw1, hw2⟩ (fun hHeld => ?_)
  have HRd := Aa.mk (RSt_below HRS.out (Below.refl w1.heap.size w1).drew)
  have HBd := Aa.mk (HBS.out.drew)
  clear HRS HBS hw1 hw2
  generalize w1.drew = wd at HRd HBd hHeld ⊢
  refine pX 0 14 ?_
  refine pX 1 15 ?_
  refine pX 2 16 ?_
  refine pX 4 18 ?_
  refine pX 5 19 ?_
  refine pX 6 20 ?_
  refine tX 3 17 hHeld ?_
  refine tX 7 21 hHeld ?_
  refine pX 8 22 ?_
  refine pX 9 23 ?_
  refine pX 10 24 ?_
  refine pX 11 25 ?_
  refine tX 12 26 hHeld ?_
  refine pX 13 27 ?_
  refine dX ?_
  go_wp2_with fail
  go_ret
  exact ⟨by rw [show (!r.f1.toList.isEmpty) = true by cases hh : r.f1.toList with | nil => exact absurd hh hx | cons a l => rfl]; rfl, HRd.out, HBd.out⟩
theorem over23_pool (base B : Nat) (p : Pst) (w : World) (h : RSt w base B p .pool) (hdp : 0 ≤ (C8 p.pools).f1) :
 Calls Tryz.prog 23 #[.pointer (some ⟨B, 0, none⟩)] w fun x w' => x = .returned (.int .i64 (Hn p .pool 0)) ∧ RSt w' base B p .none ∧ Below base w w' := by
 obtain ⟨vE, vP, vD, vR, vO, op, v6, nm, v8, v9, v10, v11, ok, hbB, hb, hR, hS, ho⟩ := h
 obtain ⟨rfl, hn, g, c, hv⟩ := ho
 subst hv
 obtain ⟨lc, _, _⟩ := G6 hR.2.1 hn
 have y1 := lc 1 _ rfl
 clear lc
 have hE : Hn p .pool 0 = B9 0 (decide (0 < (C8 p.pools).f1)) := rfl
 rw [hE]
 clear hE
 obtain ⟨r, hr⟩ : ∃ r, C8 p.pools = r := ⟨_, rfl⟩
 rw [hr] at y1 ⊢
 rw [hr] at hdp
 clear hr
 have HR := Aa.mk hR
 have HB := Aa.mk hb
 have hm := Hb (Kd.R_reads' hR.2.1).2.2
 have c5 : w.cell? ⟨B, 5, none⟩ = some (.int .i64 2) := Ab hb 5
 have f5 := As hb 5
 have hBg : ¬ B = g := by
  obtain ⟨cs, hg⟩ := Da hR.2.1 (k := g) rfl
  exact fun q => Du hb hg (by decide) q
 have hw1 : (w.setCell ⟨B, 5, none⟩ (.int .i64 0)).cell? ⟨B, 1, none⟩ = some (.slice (some ⟨g, 0, none⟩) p.pools.length c) := Ab (Az hb 5 (.int .i64 0) rfl) 1
 have hw2 : (w.setCell ⟨B, 5, none⟩ (.int .i64 0)).cell? ⟨g, (p.pools.length - 1) * 2 + 1, none⟩ = some (.int .i64 r.f1) := by rw [World.cell?_setCell_far _ _ _ _ hBg]; exact y1
 have HRS := Aa.mk (rst_close hbB HB.out HR.out hS)
 have HBS := Aa.mk ((Below.refl base w).setCell (p := ⟨B, 5, none⟩) hbB (.int .i64 0))
 clear hR hb y1
 obtain ⟨n, hnn⟩ : ∃ n, p.pools.length = n := ⟨_, rfl⟩
 have HNN := Aa.mk hnn
 rw [hnn] at hn hm hw1 hw2
 clear hnn
 have hlt : n - 1 < n := by omega
 have hwn : wrap64 (((n : Nat) : Int) - 1) = ((n - 1 : Nat) : Int) := by unfold wrap64; omega
 go_enter Tryz.func23, Tryz.ntmps23
 go_upto_region 8 with (fail)
 generalize w.setCell ⟨B, 5, none⟩ (.int .i64 0) = w1 at hw1 hw2 HRS HBS ⊢
 clear HR HB c5 f5 hBg
 by_cases hx : r.f1 = 0
 ·have hb1 : (r.f1 == 0) = true := beq_iff_eq.2 hx
  refine sX 16 (S := fun w' => w'.cell? ⟨B, 1, none⟩ = some (.slice (some ⟨g, 0, none⟩) n c) ∧ w'.cell? ⟨g, (n - 1) * 2 + 1, none⟩ = some (.int .i64 r.f1)) (ds := []) ⟨hw1, hw2⟩ (fun hHeld => ?_)
  have HRd := Aa.mk (RSt_below HRS.out (Below.refl w1.heap.size w1).drew)
  have HBd := Aa.mk (HBS.out.drew)
  clear HRS HBS hw1 hw2
  generalize w1.drew = wd at HRd HBd hHeld ⊢
  refine pX 0 30 ?_
  refine pX 1 31 ?_
  refine pX 2 32 ?_
  refine pX 3 33 ?_
  refine pX 5 35 ?_
  refine pX 6 36 ?_
  refine pX 7 37 ?_
  refine pX 8 38 ?_
  refine tX 4 34 hHeld ?_
  refine tX 9 39 hHeld ?_
  refine pX 10 40 ?_
  refine pX 11 41 ?_
  refine pX 12 42 ?_
  refine pX 13 43 ?_
  refine tX 14 44 hHeld ?_
  refine pX 15 45 ?_
  refine dX ?_
  go_wp2_with fail
  go_ret
  exact ⟨by rw [show (decide (0 < r.f1)) = false by rw [hx]; rfl]; rfl, HRd.out, HBd.out⟩
 ·have hb1 : (r.f1 == 0) = false := beq_eq_false_iff_ne.2 hx
  refine sX 16 (S := fun w' => w'.cell? ⟨B, 1, none⟩ = some (.slice (some ⟨g, 0, none⟩) n c) ∧ w'.cell? ⟨g, (n - 1) * 2 + 1, none⟩ = some (.int .i64 r.f1)) (ds := []) ⟨hw1, hw2⟩ (fun hHeld => ?_)
  have HRd := Aa.mk (RSt_below HRS.out (Below.refl w1.heap.size w1).drew)
  have HBd := Aa.mk (HBS.out.drew)
  clear HRS HBS hw1 hw2
  generalize w1.drew = wd at HRd HBd hHeld ⊢
  refine pX 0 30 ?_
  refine pX 1 31 ?_
  refine pX 2 32 ?_
  refine pX 3 33 ?_
  refine pX 5 35 ?_
  refine pX 6 36 ?_
  refine pX 7 37 ?_
  refine pX 8 38 ?_
  refine tX 4 34 hHeld ?_
  refine tX 9 39 hHeld ?_
  refine pX 10 40 ?_
  refine pX 11 41 ?_
  refine pX 12 42 ?_
  refine pX 13 43 ?_
  refine tX 14 44 hHeld ?_
  refine pX 15 45 ?_
  refine dX ?_
  go_wp2_with fail
  go_ret
  exact ⟨by rw [show (decide (0 < r.f1)) = true by rw [decide_eq_true_eq]; omega]; rfl, HRd.out, HBd.out⟩
end Go.Proofs.YtefheailchihaaaGreatDoor.Print
end
