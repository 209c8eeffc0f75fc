import Derived.Laws.EntriesVeiled
import Derived.BigRegion
import Derived.Deep.QuietTactic
import Derived.Test.YtefheailchihaaaGreatDoorSg10
set_option maxHeartbeats 8000000
set_option maxRecDepth 100000
set_option linter.unusedVariables false
set_option linter.unusedSimpArgs false
section
namespace Go.Proofs.YtefheailchihaaaGreatDoor.Print
open Go.RowKit Go.Lib Go.Shelf Go.Proofs.YtefheailchihaaaGreatDoorW.PrintWords Go.Proofs.YtefheailchihaaaGreatDoorW.PrintLast Go.Proofs.YtefheailchihaaaGreatDoorW.PrintMore
structure Pst where
 edges : List S42
 pools : List S44
 defs : List ByteArray
 outer : List S174
 rules : List S116
inductive Opn where
 | none
 | rule
 | pool
 | build (outs ins imp ord : List ByteArray) (r : S116) (own : List S174)
def Rows (w : World) (base : Nat) (p : Pst) (vE vP vD vO vR : Value) : Prop :=
 Kd.R k42 42 w base (fun k => some k ≠ vD.ownBlock) vE p.edges ∧ Kd.R k44 44 w base (fun _ => True) vP p.pools ∧ Kd.R Kd.string 9 w base (fun _ => True) vD p.defs ∧ Kd.R k174 174 w base (fun _ => True) vO p.outer ∧ Kd.R k116 116 w base (fun _ => True) vR p.rules
def Apart5 (w : World) (S : Nat → Prop) : Prop := ∀ k, S k → ∃ cells q, w.heap[k]? = some (.cells cells q (0, 0)) ∧ q ∉ [42, 9, 44, 174, 116]
theorem Ca {w : World} {g t : Nat} {cs : Array Value} (h : w.heap[g]? = some (.cells cs t (0, 0))) (ht : t ∉ [42, 9, 44, 174, 116]) : Apart5 w (fun k => k = g) := fun k hk => by
 have hk' : k = g := hk
 subst hk'
 exact ⟨cs, t, h, ht⟩
theorem B4 {w w1 : World} {base : Nat} {p : Pst} {vE vP vD vO vR : Value} {S : Nat → Prop} (h : Rows w base p vE vP vD vO vR) (hk : Kept w w1 S) (hS : Apart5 w S) : Rows w1 base p vE vP vD vO vR := by
 obtain ⟨h1, h2, h3, h4, h5⟩ := h
 have row : ∀ {α : Type} {d : Kd α} {t : Nat} {ok : Nat → Prop} {v : Value} {xs : List α}, d.R t w base ok v xs → (∀ q, q ∈ t :: d.E → q ∈ [42, 9, 44, 174, 116]) → d.R t w1 base ok v xs := by
  intro α d t ok v xs h hq
  refine Kd.De (Kd.R_kept (Kd.Ex h) hk (fun k h1 h2 => ?_)) (fun k hk => hk.1)
  obtain ⟨_, _, _, q, hq1, cells, hc⟩ := h1
  obtain ⟨cells2, q2, hc2, hq2⟩ := hS k h2
  rw [hc] at hc2
  simp only [Option.some.injEq, Obj.cells.injEq] at hc2
  exact hq2 (by rw [← hc2.2.1]; exact hq q hq1)
 exact ⟨row h1 (by decide), row h2 (by decide), row h3 (by decide), row h4 (by decide), row h5 (by decide)⟩
theorem Cb {w w1 : World} {base : Nat} {p : Pst} {vE vP vD vO vR : Value} (h : Rows w base p vE vP vD vO vR) (hb : Below w.heap.size w w1) : Rows w1 base p vE vP vD vO vR := B4 h (Kept.of_below hb (fun _ => False)) (fun k hk => hk.elim)
def Cl (w : World) (base B : Nat) (nP nR : Nat) (o : Opn) (vP vD vR fd fo : Value) : Prop := match o with
 | .none => fd = .nilFunc ∧ fo = .nilFunc
 | .rule => ∃ Bp Br g c, fd = .func (.func 80) #[] #[.pointer (some ⟨Bp, 0, none⟩), .pointer (some ⟨Br, 0, none⟩)] ∧ fo = .func (.func 82) #[] #[.pointer (some ⟨Bp, 0, none⟩), .pointer (some ⟨Br, 0, none⟩)] ∧ w.heap[Bp]? = some (.cells #[.pointer (some ⟨B, 0, none⟩)] 52 (0, 0)) ∧ w.heap[Br]? = some (.cells #[.pointer (some ⟨g, (nR - 1) * 5, none⟩)] 117 (0, 0)) ∧ vR = .slice (some ⟨g, 0, none⟩) nR c ∧ 0 < nR
 | .pool => ∃ Bp Br g c, fd = .func (.func 83) #[] #[.pointer (some ⟨Bp, 0, none⟩), .pointer (some ⟨Br, 0, none⟩)] ∧ fo = .func (.func 84) #[] #[.pointer (some ⟨Bp, 0, none⟩), .pointer (some ⟨Br, 0, none⟩)] ∧ w.heap[Bp]? = some (.cells #[.pointer (some ⟨B, 0, none⟩)] 52 (0, 0)) ∧ w.heap[Br]? = some (.cells #[.pointer (some ⟨g, (nP - 1) * 2, none⟩)] 118 (0, 0)) ∧ vP = .slice (some ⟨g, 0, none⟩) nP c ∧ 0 < nP
 | .build outs ins imp ord r own => ∃ Bp Bx X v0 v1 v2 v3 vS, fd = .func (.func 88) #[] #[.pointer (some ⟨Bp, 0, none⟩), .pointer (some ⟨Bx, 0, none⟩)] ∧ fo = .func (.func 89) #[] #[.pointer (some ⟨Bp, 0, none⟩), .pointer (some ⟨Bx, 0, none⟩)] ∧ w.heap[Bp]? = some (.cells #[.pointer (some ⟨B, 0, none⟩)] 52 (0, 0)) ∧ w.heap[Bx]? = some (.cells #[.pointer (some ⟨X, 0, none⟩)] 122 (0, 0)) ∧ base ≤ X ∧
  w.heap[X]? = some (.cells #[v0, v1, v2, v3, .string ⟨#[]⟩, .bool r.f3, .string r.f2, .string r.f0, .string r.f1, .string r.f2, .bool r.f3, .bool r.f4, vS] 124 (0, 0)) ∧
  Kd.R Kd.string 9 w base (fun k => some k ≠ vD.ownBlock) v0 outs ∧ Kd.R Kd.string 9 w base (fun k => some k ≠ vD.ownBlock) v1 ins ∧ Kd.R Kd.string 9 w base (fun k => some k ≠ vD.ownBlock) v2 imp ∧ Kd.R Kd.string 9 w base (fun k => some k ≠ vD.ownBlock) v3 ord ∧ Kd.R k174 174 w base (fun _ => True) vS own
def Mst (w : World) (base B : Nat) (p : Pst) (o : Opn) (e : Int) : Prop := ∃ vE vP vD vO vR fd fo, base ≤ B ∧ Pb w B vE vP vD vO vR fd fo e ∧ Rows w base p vE vP vD vO vR ∧ Cl w base B p.pools.length p.rules.length o vP vD vR fd fo
theorem infoD44 : (Tryz.prog.info? 44).map (fun i => (i.zero, i.size, i.bytes)) = some (some (.agg #[.string ⟨#[]⟩, .int .i64 0]), 2, 24) := by kernel_rfl
theorem Du {w : World} {g g' : Nat} {t t' : TypeId} {cs cs' : Array Value} (h : w.heap[g]? = some (.cells cs t (0, 0))) (h' : w.heap[g']? = some (.cells cs' t' (0, 0))) (hne : (t == t') = false) : ¬ g = g' := blk_ne h h' (by simpa using hne)
theorem Da {α : Type} {d : Kd α} {e base : Nat} {w : World} {ok : Nat → Prop} {v : Value} {xs : List α} (h : d.R e w base ok v xs) {k : Nat} (hk : v.ownBlock = some k) : ∃ cells, w.heap[k]? = some (.cells cells e (0, 0)) := by
 obtain ⟨_, inner, ho, _⟩ := h
 exact own_typed ho k hk
theorem Dd {α β : Type} {d : Kd α} {d' : Kd β} {t t' base base' : Nat} {ok ok' : Nat → Prop} {w w1 : World} {v v' : Value} {xs : List α} {ys : List β} (h : d.R t w base ok v xs) (h' : d'.R t' w base' ok' v' ys) (hg : w.grownBy w1 v'.ownBlock) (ht : ∀ q, q ∈ t :: d.E → q ≠ t') : d.R t w1 base ok v xs := by
 refine Kd.De (Kd.R_grown (Kd.Ex h) hg (fun k hk he => ?_)) (fun k hk => hk.1)
 obtain ⟨_, _, _, q, hq1, cells, hc⟩ := hk
 obtain ⟨cells2, hc2⟩ := Da h' he.symm
 rw [hc] at hc2
 simp only [Option.some.injEq, Obj.cells.injEq] at hc2
 exact ht q hq1 hc2.2.1
theorem Dw {β : Type} {d' : Kd β} {t t' base' : Nat} {ok' : Nat → Prop} {w w1 : World} {v' : Value} {ys : List β} {g : Nat} {cs : Array Value} (h : w.heap[g]? = some (.cells cs t (0, 0))) (h' : d'.R t' w base' ok' v' ys) (hg : w.grownBy w1 v'.ownBlock) (ht : (t' == t) = false) : w1.heap[g]? = some (.cells cs t (0, 0)) :=
 blk_grown h hg (Kd.R_ne h' h (by simpa using ht))
end Go.Proofs.YtefheailchihaaaGreatDoor.Print
end
section
namespace Go.Proofs.YtefheailchihaaaGreatDoor.Print
open Go.RowKit Go.Lib Go.Shelf Go.Proofs.YtefheailchihaaaGreatDoorW.PrintWords Go.Proofs.YtefheailchihaaaGreatDoorW.PrintLast Go.Proofs.YtefheailchihaaaGreatDoorW.PrintMore
attribute [local go_sem ↓] Go.wp_at_zero Go.wp_at_succ
def ruleE (p : Pst) (e : Int) (s : ByteArray) : Int := Gr (B9 (oneW e s).2 (decide (idxP (fun x : S116 => x.f0.toList == (oneW e s).1.toList) p.rules < 0))) (decide ((p.rules.length : Int) < 8))
theorem ruleLine_calls (base B : Nat) (p : Pst) (vE vP vD vO vR fd fo : Value) (e : Int) (s : ByteArray) (hs : s.size ≤ 1048576) (hlen : p.rules.length ≤ 1048576) (w : World) (hbB : base ≤ B) (hbw : base ≤ w.heap.size) (h : Pb w B vE vP vD vO vR fd fo e) (hR : Rows w base p vE vP vD vO vR) :
 Calls Tryz.prog 42 #[.pointer (some ⟨B, 0, none⟩), .string s] w fun x w' => x = .returned (.tuple #[]) ∧ Mst w' base B { p with rules := p.rules ++ [⟨(oneW e s).1, ⟨#[]⟩, ⟨#[]⟩, false, false⟩] } .rule (ruleE p e s) ∧ Below base w w' := by
 have hEq : ruleE p e s = Gr (B9 (oneW e s).2 (decide (idxP (fun x : S116 => x.f0.toList == (oneW e s).1.toList) p.rules < 0))) (decide ((p.rules.length : Int) < 8)) := rfl
 have HEQ := Lib.hid hEq
 clear hEq
 have hmf : ∀ (fn : Fn) (first cap : Array Value) (w : World), (Instr.makeFunc fn first cap).run Tryz.prog w = .ok (.func fn first cap) w := fun _ _ _ _ => rfl
 obtain ⟨A, c, rfl, _⟩ := Kd.Dl hR.2.2.2.2
 have hB := Cq h
 have hne : ¬ w.heap.size = B := by omega
 have hbw0 := hbw
 have H := Lib.hid h
 have HR := Aa.mk hR
 clear h hR
 obtain ⟨⟨s1, e1⟩, h1⟩ : ∃ q, oneW e s = q := ⟨_, rfl⟩
 have H1 := Lib.hid h1
 rw [h1] at HEQ ⊢
 clear h1
 simp only at HEQ ⊢
 obtain ⟨e4, he4⟩ : ∃ q, ruleE p e s = q := ⟨_, rfl⟩
 obtain ⟨L, hL⟩ : ∃ L, p.rules ++ [⟨s1, ⟨#[]⟩, ⟨#[]⟩, false, false⟩] = L := ⟨_, rfl⟩
 rw [he4] at HEQ ⊢
 rw [hL]
 have hlL : L.length = p.rules.length + 1 := by rw [← hL]; simp
 have hL1 : 1 ≤ L.length := by omega
 have hL2 : L.length ≤ 1048577 := by omega
 clear hlL
 have HL := Lib.hid hL
 clear he4 hL
 go_enter Tryz.func42, Tryz.ntmps42
 have HA := Aa.mk ((Below.refl w.heap.size w).alloc (Nat.le_refl _) (.cells #[.pointer (some ⟨B, 0, none⟩)] 52))
 have BPa := Aa.mk (Cv w (.cells #[.pointer (some ⟨B, 0, none⟩)] 52))
 have HPa := Aa.mk (Cf H.out HA.out)
 have HRa := Aa.mk (Cb HR.out HA.out)
 have HBa := Aa.mk (HA.out.mono hbw0)
 clear HA H HR
 go_upto_region 2 with (first | (go_at_call 77; refine (one_calls B vE vP vD vO (.slice A (p.rules).length c) fd fo e s hs _ HPa.out).mono ?_; rw [H1.out]; rintro x w1 ⟨rfl, hp, hk, hb⟩; have HP1 := Aa.mk hp; have HR1 := Aa.mk (B4 HRa.out hk (Ca HPa.out (by decide))); have BP1 := Aa.mk (Bc BPa.out hk hne); have HB1 := Aa.mk (HBa.out.trans (hb base hbB)); clear hp hk hb HPa HRa BPa HBa))
 have HC := Aa.mk (Kd.Bb (Kd.R_reads' HR1.out.2.2.2.2).2.2 (Below.refl _ _).drew)
 obtain ⟨I, hI⟩ : ∃ I, idxP (fun x : S116 => x.f0.toList == s1.toList) p.rules = I := ⟨_, rfl⟩
 have HI := Lib.hid hI
 rw [hI] at HEQ
 clear hI
 refine sX 6 (S := fun w' => w'.cell? ⟨w.heap.size, 0, none⟩ = some (.pointer (some ⟨B, 0, none⟩))) (ds := [5]) (Ab BP1.out 0) (fun hHeld => ?_)
 have HPd := Aa.mk (Cf HP1.out (Below.refl _ _).drew)
 have HRd := Aa.mk (Cb HR1.out (Below.refl _ _).drew)
 have BPd := Aa.mk (Aj BP1.out (Below.refl _ _).drew)
 have HBd := Aa.mk (HB1.out.drew)
 generalize w1.drew = wdd at HPd HRd BPd HBd HC hHeld ⊢
 clear HP1 HR1 BP1 HB1
 refine pX 2 11 ?_
 refine tX 0 9 hHeld ?_
 refine tX 1 10 hHeld ?_
 refine oX 3 (some 12) (fun K hK => ?_)
 refine gX Tryz.func78 #[.pointer (some ⟨B, 0, none⟩), .string s1] ?_
 with_reducible refine (pfind_calls B vE vP vD vO (.slice A (p.rules).length c) fd fo e1 A c p.rules s1 _ HPd.out rfl HC.out).mono ?_
 rw [HI.out]
 rintro x w2 ⟨rfl, hb⟩
 refine ⟨_, rfl, ?_⟩
 have HP2 := Aa.mk (Cf HPd.out hb)
 have HR2 := Aa.mk (Cb HRd.out hb)
 have BP2 := Aa.mk (Aj BPd.out hb)
 have HB2 := Aa.mk (HBd.out.trans (hb.mono (Nat.le_trans hbw0 HBd.out.size)))
 clear hb HPd HRd BPd HBd HC
 refine hK.out _ _ (Ab BP2.out 0) (fun hHeld => ?_)
 clear hK K
 refine nX ?_
 refine pX 4 13 ?_
 refine lX 5 (some 14) (fun K hK => ?_)
 refine gX Tryz.func40 #[.pointer (some ⟨B, 0, none⟩), .bool (decide (I < 0))] ?_
 with_reducible refine (C6 B vE vP vD vO (.slice A (p.rules).length c) fd fo e1 (decide (I < 0)) _ HP2.out).mono ?_
 rintro x w3 ⟨rfl, hp, hk, hb⟩
 refine ⟨_, rfl, ?_⟩
 have HP3 := Aa.mk hp
 have HR3 := Aa.mk (B4 HR2.out hk (Ca HP2.out (by decide)))
 have BP3 := Aa.mk (Bc BP2.out hk hne)
 have HB3 := Aa.mk (HB2.out.trans (hb base hbB))
 clear hp hk hb HP2 HR2 BP2 HB2
 refine hK.out _ _ ?_
 clear hK K
 refine nX ?_
 refine dX ?_
 obtain ⟨e3, he3⟩ : ∃ q, B9 e1 (decide (I < 0)) = q := ⟨_, rfl⟩
 rw [he3] at HEQ HP3
 clear he3
 have hP3 := HP3.out
 go_upto_region 3 with (fail)
 clear hP3
 refine sX 8 (S := fun w' => w'.cell? ⟨w.heap.size, 0, none⟩ = some (.pointer (some ⟨B, 0, none⟩)) ∧ w'.cell? ⟨B, 4, none⟩ = some (.slice A (p.rules).length c)) (ds := [7]) ⟨Ab BP3.out 0, Ab HP3.out 4⟩ (fun hHeld => ?_)
 have HPq := Aa.mk (Cf HP3.out (Below.refl _ _).drew)
 have HRq := Aa.mk (Cb HR3.out (Below.refl _ _).drew)
 have BPq := Aa.mk (Aj BP3.out (Below.refl _ _).drew)
 have HBq := Aa.mk (HB3.out.drew)
 generalize w3.drew = wdq at HPq HRq BPq HBq hHeld ⊢
 clear HP3 HR3 BP3 HB3
 refine tX 0 15 hHeld ?_
 refine tX 1 16 hHeld ?_
 refine pX 2 17 ?_
 refine pX 3 18 ?_
 refine tX 4 19 hHeld ?_
 refine pX 5 20 ?_
 refine pX 6 21 ?_
 refine lX 7 (some 22) (fun K hK => ?_)
 refine gX Tryz.func79 #[.pointer (some ⟨B, 0, none⟩), .bool (decide ((p.rules.length : Int) < 8))] ?_
 with_reducible refine (room_calls B vE vP vD vO (.slice A (p.rules).length c) fd fo e3 (decide ((p.rules.length : Int) < 8)) _ HPq.out).mono ?_
 rintro x w4 ⟨rfl, hp, hk, hb⟩
 refine ⟨_, rfl, ?_⟩
 have HP4 := Aa.mk hp
 have HR4 := Aa.mk (B4 HRq.out hk (Ca HPq.out (by decide)))
 have BP4 := Aa.mk (Bc BPq.out hk hne)
 have HB4 := Aa.mk (HBq.out.trans (hb base hbB))
 clear hp hk hb HPq HRq BPq HBq
 refine hK.out _ _ ?_
 clear hK K
 refine nX ?_
 refine dX ?_
 rw [← HEQ.out] at HP4
 clear HEQ
 go_upto_region 4 with (fail)
 refine sX 12 (S := fun w' => w'.cell? ⟨w.heap.size, 0, none⟩ = some (.pointer (some ⟨B, 0, none⟩)) ∧ w'.cell? ⟨B, 4, none⟩ = some (.slice A (p.rules).length c)) (ds := [11]) ⟨Ab BP4.out 0, Ab HP4.out 4⟩ (fun hHeld => ?_)
 have HPr := Aa.mk (Cf HP4.out (Below.refl _ _).drew)
 have HRr := Aa.mk (Cb HR4.out (Below.refl _ _).drew)
 have BPr := Aa.mk (Aj BP4.out (Below.refl _ _).drew)
 have HBr := Aa.mk (HB4.out.drew)
 generalize w4.drew = wdr at HPr HRr BPr HBr hHeld ⊢
 clear HP4 HR4 BP4 HB4
 have hfr := As HPr.out 4
 refine pX 5 28 ?_
 refine pX 6 29 ?_
 refine tX 0 23 hHeld ?_
 refine tX 1 24 hHeld ?_
 refine pX 2 25 ?_
 refine pX 3 26 ?_
 refine tX 4 27 hHeld ?_
 refine oX 7 (some 30) (fun K hK => ?_)
 refine vX ?_
 refine hK.out _ _ ⟨Ab (Cw BPr.out _) 0, Ab (Cw HPr.out _) 4⟩ (fun hHeld => ?_)
 clear hK K
 refine nX ?_
 refine oX 8 (some 31) (fun K hK => ?_)
 refine Kd.Hp k116 (w0 := w) base (by rfl) (.tmp 27) (.tmp 30) 54 116 (.agg #[.string ⟨#[]⟩, .string ⟨#[]⟩, .string ⟨#[]⟩, .bool false, .bool false]) 56 rfl Tryz.underlying54 info116 rfl (by decide) (by omega) (.slice A (p.rules).length c) p.rules ⟨s1, ⟨#[]⟩, ⟨#[]⟩, false, false⟩ _ (fun _ => True) (fun _ => False) rfl rfl (k116_mkM _ _ _ _) (fun _ hk => hk.elim) (fun _ _ => trivial) HRr.out.2.2.2.2 HBr.out (Nat.le_trans hbw0 HBr.out.size) (by omega) ?_
 intro v5 w5 ho5 hb5 hg5 hat5
 clear hat5
 rw [HL.out] at ho5
 obtain ⟨g, c6, rfl, _, _, _⟩ := Kd.Gy ho5 (by omega)
 have BP5 := Aa.mk (Dw (Aj BPr.out (Below.refl _ _)) HRr.out.2.2.2.2 hg5 (by decide))
 have HP5 := Aa.mk (show Pb w5 B vE vP vD vO (.slice A (p.rules).length c) fd fo e4 from Dw HPr.out HRr.out.2.2.2.2 hg5 (by decide))
 have HR5 := Aa.mk (show Rows w5 base { p with rules := L } vE vP vD vO (.slice (some ⟨g, 0, none⟩) L.length c6) from ⟨Dd HRr.out.1 HRr.out.2.2.2.2 hg5 (by decide), Dd HRr.out.2.1 HRr.out.2.2.2.2 hg5 (by decide), Dd HRr.out.2.2.1 HRr.out.2.2.2.2 hg5 (by decide), Dd HRr.out.2.2.2.1 HRr.out.2.2.2.2 hg5 (by decide), ho5⟩)
 have HB5 := Aa.mk hb5
 have hfr5 := As HP5.out 4
 clear ho5 hb5 hg5 HRr HPr BPr HBr hfr
 refine hK.out _ _ ⟨Ab BP5.out 0, Ab HP5.out 4⟩ (fun hHeld => ?_)
 clear hK K
 refine nX ?_
 refine pX 9 32 ?_
 refine pX 10 33 ?_
 refine lX 11 none (fun K hK => ?_)
 refine kX ?_
 refine hK.out _ _ ?_
 clear hK K
 refine dX ?_
 have HP6 := Aa.mk (show Pb (w5.setCell ⟨B, 4, none⟩ (.slice (some ⟨g, 0, none⟩) L.length c6)) B vE vP vD vO (.slice (some ⟨g, 0, none⟩) L.length c6) fd fo e4 from Az HP5.out 4 _ rfl)
 have HR6 := Aa.mk (B4 HR5.out (Bm w5 B 4 (.slice (some ⟨g, 0, none⟩) L.length c6)) (Ca HP5.out (by decide)))
 have BP6 := Aa.mk (Bc BP5.out (Bm w5 B 4 (.slice (some ⟨g, 0, none⟩) L.length c6)) hne)
 have HB6 := Aa.mk (HB5.out.setCell (p := ⟨B, 4, none⟩) hbB (.slice (some ⟨g, 0, none⟩) L.length c6))
 generalize w5.setCell ⟨B, 4, none⟩ (.slice (some ⟨g, 0, none⟩) L.length c6) = w6 at HP6 HR6 BP6 HB6 ⊢
 clear HP5 HR5 BP5 HB5 hfr5
 go_upto_region 5 with (fail)
 have hn1 : wrap64 ((L.length : Int) - 1) = (L.length : Int) - 1 := by unfold wrap64; omega
 have hn2 : (1 : Int) ≤ L.length := by omega
 have hn3 : (L.length : Int) - 1 < L.length := by omega
 refine sX 13 (S := fun w' => w'.cell? ⟨w.heap.size, 0, none⟩ = some (.pointer (some ⟨B, 0, none⟩)) ∧ w'.cell? ⟨B, 4, none⟩ = some (.slice (some ⟨g, 0, none⟩) L.length c6)) (ds := [12]) ⟨Ab BP6.out 0, Ab HP6.out 4⟩ (fun hHeld => ?_)
 have HPt := Aa.mk (Cf HP6.out (Below.refl _ _).drew)
 have HRt := Aa.mk (Cb HR6.out (Below.refl _ _).drew)
 have BPt := Aa.mk (Aj BP6.out (Below.refl _ _).drew)
 have HBt := Aa.mk (HB6.out.drew)
 generalize w6.drew = wdt at HPt HRt BPt HBt hHeld ⊢
 clear HP6 HR6 BP6 HB6
 refine tX 0 34 hHeld ?_
 refine pX 1 35 ?_
 refine pX 2 36 ?_
 refine tX 3 37 hHeld ?_
 refine tX 4 38 hHeld ?_
 refine pX 5 39 ?_
 refine pX 6 40 ?_
 refine tX 7 41 hHeld ?_
 refine pX 8 42 ?_
 refine pX 9 43 ?_
 refine pX 10 44 ?_
 refine oX 11 (some 5) (fun K hK => ?_)
 refine vX ?_
 refine hK.out _ _ ⟨Ab (Cw BPt.out _) 0, Ab (Cw HPt.out _) 4⟩ (fun hHeld => ?_)
 clear hK K
 refine nX ?_
 refine lX 12 none (fun K hK => ?_)
 refine kX ?_
 refine hK.out _ _ ?_
 clear hK K
 refine dX ?_
 have HA7 := Aa.mk ((Below.refl wdt.heap.size wdt).alloc (Nat.le_refl _) (.cells #[.pointer (some ⟨g, (L.length - 1) * 5, none⟩)] 117))
 have BR7 := Aa.mk (Cv wdt (.cells #[.pointer (some ⟨g, (L.length - 1) * 5, none⟩)] 117))
 have BP7 := Aa.mk (Aj BPt.out HA7.out)
 have HP7 := Aa.mk (Cf HPt.out HA7.out)
 have HR7 := Aa.mk (Cb HRt.out HA7.out)
 have HB7 := Aa.mk (HBt.out.trans (HA7.out.mono (Nat.le_trans hbw0 HBt.out.size)))
 obtain ⟨Br, hBr⟩ : ∃ Br, wdt.heap.size = Br := ⟨_, rfl⟩
 generalize wdt.alloc (.cells #[.pointer (some ⟨g, (L.length - 1) * 5, none⟩)] 117) = w7 at HA7 BR7 BP7 HP7 HR7 HB7 ⊢
 rw [hBr] at BR7 ⊢
 clear hHeld HPt HRt BPt HBt HA7 hBr
 have hq1 : w7.cell? ⟨w.heap.size, 0, none⟩ = some (.pointer (some ⟨B, 0, none⟩)) := Ab BP7.out 0
 have hq4 : w7.cell? ⟨B, 5, none⟩ = some fd := Ab HP7.out 5
 have hq5 : w7.cell? ⟨B, 6, none⟩ = some fo := Ab HP7.out 6
 have hq2 := As HP7.out 5
 have hq3 := As HP7.out 6
 have hBr : ¬ Br = B := fun h => Du BR7.out HP7.out (by decide) h
 go_wp2_with fail
 go_end0
 have k1 := Bm w7 B 5 (.func (.func 80) #[] #[.pointer (some ⟨w.heap.size, 0, none⟩), .pointer (some ⟨Br, 0, none⟩)])
 have p1 : Pb _ B vE vP vD vO (.slice (some ⟨g, 0, none⟩) L.length c6) (.func (.func 80) #[] #[.pointer (some ⟨w.heap.size, 0, none⟩), .pointer (some ⟨Br, 0, none⟩)]) fo e4 := Az HP7.out 5 _ rfl
 have k2 := Bm (w7.setCell ⟨B, 5, none⟩ (.func (.func 80) #[] #[.pointer (some ⟨w.heap.size, 0, none⟩), .pointer (some ⟨Br, 0, none⟩)])) B 6 (.func (.func 82) #[] #[.pointer (some ⟨w.heap.size, 0, none⟩), .pointer (some ⟨Br, 0, none⟩)])
 exact ⟨rfl, ⟨vE, vP, vD, vO, (.slice (some ⟨g, 0, none⟩) L.length c6), _, _, hbB, Az p1 6 _ rfl, B4 (B4 HR7.out k1 (Ca HP7.out (by decide))) k2 (Ca p1 (by decide)), ⟨w.heap.size, Br, g, c6, rfl, rfl, Bc (Bc BP7.out k1 hne) k2 hne, Bc (Bc BR7.out k1 hBr) k2 hBr, rfl, hL1⟩⟩, (HB7.out.setCell (p := ⟨B, 5, none⟩) hbB _).setCell (p := ⟨B, 6, none⟩) hbB _⟩
def poolE (p : Pst) (e : Int) (s : ByteArray) : Int := Gr (B9 (oneW e s).2 (decide (idxP (fun x : S44 => x.f0.toList == (oneW e s).1.toList) p.pools < 0))) (decide ((p.pools.length : Int) < 4))
theorem poolLine_calls (base B : Nat) (p : Pst) (vE vP vD vO vR fd fo : Value) (e : Int) (s : ByteArray) (hs : s.size ≤ 1048576) (hlen : p.pools.length ≤ 1048576) (w : World) (hbB : base ≤ B) (hbw : base ≤ w.heap.size) (h : Pb w B vE vP vD vO vR fd fo e) (hR : Rows w base p vE vP vD vO vR) :
 Calls Tryz.prog 43 #[.pointer (some ⟨B, 0, none⟩), .string s] w fun x w' => x = .returned (.tuple #[]) ∧ Mst w' base B { p with pools := p.pools ++ [⟨(oneW e s).1, 0⟩] } .pool (poolE p e s) ∧ Below base w w' := by
 have hEq : poolE p e s = Gr (B9 (oneW e s).2 (decide (idxP (fun x : S44 => x.f0.toList == (oneW e s).1.toList) p.pools < 0))) (decide ((p.pools.length : Int) < 4)) := rfl
 have HEQ := Lib.hid hEq
 clear hEq
 have hmf : ∀ (fn : Fn) (first cap : Array Value) (w : World), (Instr.makeFunc fn first cap).run Tryz.prog w = .ok (.func fn first cap) w := fun _ _ _ _ => rfl
 obtain ⟨A, c, rfl, _⟩ := Kd.Dl hR.2.1
 have hB := Cq h
 have hne : ¬ w.heap.size = B := by omega
 have hbw0 := hbw
 have H := Lib.hid h
 have HR := Aa.mk hR
 clear h hR
 obtain ⟨⟨s1, e1⟩, h1⟩ : ∃ q, oneW e s = q := ⟨_, rfl⟩
 have H1 := Lib.hid h1
 rw [h1] at HEQ ⊢
 clear h1
 simp only at HEQ ⊢
 obtain ⟨e4, he4⟩ : ∃ q, poolE p e s = q := ⟨_, rfl⟩
 obtain ⟨L, hL⟩ : ∃ L, p.pools ++ [⟨s1, 0⟩] = L := ⟨_, rfl⟩
 rw [he4] at HEQ ⊢
 rw [hL]
 have hlL : L.length = p.pools.length + 1 := by rw [← hL]; simp
 have hL1 : 1 ≤ L.length := by omega
 have hL2 : L.length ≤ 1048577 := by omega
 clear hlL
 have HL := Lib.hid hL
 clear he4 hL
 go_enter Tryz.func43, Tryz.ntmps43
 have HA := Aa.mk ((Below.refl w.heap.size w).alloc (Nat.le_refl _) (.cells #[.pointer (some ⟨B, 0, none⟩)] 52))
 have BPa := Aa.mk (Cv w (.cells #[.pointer (some ⟨B, 0, none⟩)] 52))
 have HPa := Aa.mk (Cf H.out HA.out)
 have HRa := Aa.mk (Cb HR.out HA.out)
 have HBa := Aa.mk (HA.out.mono hbw0)
 clear HA H HR
 go_upto_region 2 with (first | (go_at_call 77; refine (one_calls B vE (.slice A (p.pools).length c) vD vO vR fd fo e s hs _ HPa.out).mono ?_; rw [H1.out]; rintro x w1 ⟨rfl, hp, hk, hb⟩; have HP1 := Aa.mk hp; have HR1 := Aa.mk (B4 HRa.out hk (Ca HPa.out (by decide))); have BP1 := Aa.mk (Bc BPa.out hk hne); have HB1 := Aa.mk (HBa.out.trans (hb base hbB)); clear hp hk hb HPa HRa BPa HBa))
 have HC := Aa.mk (Kd.Bb (Kd.R_reads' HR1.out.2.1).2.2 (Below.refl _ _).drew)
 obtain ⟨I, hI⟩ : ∃ I, idxP (fun x : S44 => x.f0.toList == s1.toList) p.pools = I := ⟨_, rfl⟩
 have HI := Lib.hid hI
 rw [hI] at HEQ
 clear hI
 refine sX 6 (S := fun w' => w'.cell? ⟨w.heap.size, 0, none⟩ = some (.pointer (some ⟨B, 0, none⟩))) (ds := [5]) (Ab BP1.out 0) (fun hHeld => ?_)
 have HPd := Aa.mk (Cf HP1.out (Below.refl _ _).drew)
 have HRd := Aa.mk (Cb HR1.out (Below.refl _ _).drew)
 have BPd := Aa.mk (Aj BP1.out (Below.refl _ _).drew)
 have HBd := Aa.mk (HB1.out.drew)
 generalize w1.drew = wdd at HPd HRd BPd HBd HC hHeld ⊢
 clear HP1 HR1 BP1 HB1
 refine pX 2 11 ?_
 refine tX 0 9 hHeld ?_
 refine tX 1 10 hHeld ?_
 refine oX 3 (some 12) (fun K hK => ?_)
 refine gX Tryz.func81 #[.pointer (some ⟨B, 0, none⟩), .string s1] ?_
 with_reducible refine (ppool_calls B vE (.slice A (p.pools).length c) vD vO vR fd fo e1 A c p.pools s1 _ HPd.out rfl HC.out).mono ?_
 rw [HI.out]
 rintro x w2 ⟨rfl, hb⟩
 refine ⟨_, rfl, ?_⟩
 have HP2 := Aa.mk (Cf HPd.out hb)
 have HR2 := Aa.mk (Cb HRd.out hb)
 have BP2 := Aa.mk (Aj BPd.out hb)
 have HB2 := Aa.mk (HBd.out.trans (hb.mono (Nat.le_trans hbw0 HBd.out.size)))
 clear hb HPd HRd BPd HBd HC
 refine hK.out _ _ (Ab BP2.out 0) (fun hHeld => ?_)
 clear hK K
 refine nX ?_
 refine pX 4 13 ?_
 refine lX 5 (some 14) (fun K hK => ?_)
 refine gX Tryz.func40 #[.pointer (some ⟨B, 0, none⟩), .bool (decide (I < 0))] ?_
 with_reducible refine (C6 B vE (.slice A (p.pools).length c) vD vO vR fd fo e1 (decide (I < 0)) _ HP2.out).mono ?_
 rintro x w3 ⟨rfl, hp, hk, hb⟩
 refine ⟨_, rfl, ?_⟩
 have HP3 := Aa.mk hp
 have HR3 := Aa.mk (B4 HR2.out hk (Ca HP2.out (by decide)))
 have BP3 := Aa.mk (Bc BP2.out hk hne)
 have HB3 := Aa.mk (HB2.out.trans (hb base hbB))
 clear hp hk hb HP2 HR2 BP2 HB2
 refine hK.out _ _ ?_
 clear hK K
 refine nX ?_
 refine dX ?_
 obtain ⟨e3, he3⟩ : ∃ q, B9 e1 (decide (I < 0)) = q := ⟨_, rfl⟩
 rw [he3] at HEQ HP3
 clear he3
 have hP3 := HP3.out
 go_upto_region 3 with (fail)
 clear hP3
 refine sX 9 (S := fun w' => w'.cell? ⟨w.heap.size, 0, none⟩ = some (.pointer (some ⟨B, 0, none⟩)) ∧ w'.cell? ⟨B, 1, none⟩ = some (.slice A (p.pools).length c)) (ds := [8]) ⟨Ab BP3.out 0, Ab HP3.out 1⟩ (fun hHeld => ?_)
 have HPq := Aa.mk (Cf HP3.out (Below.refl _ _).drew)
 have HRq := Aa.mk (Cb HR3.out (Below.refl _ _).drew)
 have BPq := Aa.mk (Aj BP3.out (Below.refl _ _).drew)
 have HBq := Aa.mk (HB3.out.drew)
 generalize w3.drew = wdq at HPq HRq BPq HBq hHeld ⊢
 clear HP3 HR3 BP3 HB3
 refine tX 0 15 hHeld ?_
 refine tX 1 16 hHeld ?_
 refine pX 2 17 ?_
 refine pX 3 18 ?_
 refine pX 4 19 ?_
 refine tX 5 20 hHeld ?_
 refine pX 6 21 ?_
 refine pX 7 22 ?_
 refine lX 8 (some 23) (fun K hK => ?_)
 refine gX Tryz.func79 #[.pointer (some ⟨B, 0, none⟩), .bool (decide ((p.pools.length : Int) < 4))] ?_
 with_reducible refine (room_calls B vE (.slice A (p.pools).length c) vD vO vR fd fo e3 (decide ((p.pools.length : Int) < 4)) _ HPq.out).mono ?_
 rintro x w4 ⟨rfl, hp, hk, hb⟩
 refine ⟨_, rfl, ?_⟩
 have HP4 := Aa.mk hp
 have HR4 := Aa.mk (B4 HRq.out hk (Ca HPq.out (by decide)))
 have BP4 := Aa.mk (Bc BPq.out hk hne)
 have HB4 := Aa.mk (HBq.out.trans (hb base hbB))
 clear hp hk hb HPq HRq BPq HBq
 refine hK.out _ _ ?_
 clear hK K
 refine nX ?_
 refine dX ?_
 rw [← HEQ.out] at HP4
 clear HEQ
 go_upto_region 4 with (fail)
 refine sX 14 (S := fun w' => w'.cell? ⟨w.heap.size, 0, none⟩ = some (.pointer (some ⟨B, 0, none⟩)) ∧ w'.cell? ⟨B, 1, none⟩ = some (.slice A (p.pools).length c)) (ds := [13]) ⟨Ab BP4.out 0, Ab HP4.out 1⟩ (fun hHeld => ?_)
 have HPr := Aa.mk (Cf HP4.out (Below.refl _ _).drew)
 have HRr := Aa.mk (Cb HR4.out (Below.refl _ _).drew)
 have BPr := Aa.mk (Aj BP4.out (Below.refl _ _).drew)
 have HBr := Aa.mk (HB4.out.drew)
 generalize w4.drew = wdr at HPr HRr BPr HBr hHeld ⊢
 clear HP4 HR4 BP4 HB4
 have hfr := As HPr.out 1
 refine pX 6 30 ?_
 refine pX 7 31 ?_
 refine tX 0 24 hHeld ?_
 refine tX 1 25 hHeld ?_
 refine pX 2 26 ?_
 refine pX 3 27 ?_
 refine pX 4 28 ?_
 refine tX 5 29 hHeld ?_
 refine oX 8 (some 32) (fun K hK => ?_)
 refine vX ?_
 refine hK.out _ _ ⟨Ab (Cw BPr.out _) 0, Ab (Cw HPr.out _) 1⟩ (fun hHeld => ?_)
 clear hK K
 refine nX ?_
 refine oX 9 (some 33) (fun K hK => ?_)
 refine Kd.Hp k44 (w0 := w) base (by rfl) (.tmp 29) (.tmp 32) 23 44 (.agg #[.string ⟨#[]⟩, .int .i64 0]) 24 rfl Tryz.underlying23 infoD44 rfl (by decide) (by omega) (.slice A (p.pools).length c) p.pools ⟨s1, 0⟩ _ (fun _ => True) (fun _ => False) rfl rfl (k44_mkM _ _ _ _) (fun _ hk => hk.elim) (fun _ _ => trivial) HRr.out.2.1 HBr.out (Nat.le_trans hbw0 HBr.out.size) (by omega) ?_
 intro v5 w5 ho5 hb5 hg5 hat5
 clear hat5
 rw [HL.out] at ho5
 obtain ⟨g, c6, rfl, _, _, _⟩ := Kd.Gy ho5 (by omega)
 have BP5 := Aa.mk (Dw (Aj BPr.out (Below.refl _ _)) HRr.out.2.1 hg5 (by decide))
 have HP5 := Aa.mk (show Pb w5 B vE (.slice A (p.pools).length c) vD vO vR fd fo e4 from Dw HPr.out HRr.out.2.1 hg5 (by decide))
 have HR5 := Aa.mk (show Rows w5 base { p with pools := L } vE (.slice (some ⟨g, 0, none⟩) L.length c6) vD vO vR from ⟨Dd HRr.out.1 HRr.out.2.1 hg5 (by decide), ho5, Dd HRr.out.2.2.1 HRr.out.2.1 hg5 (by decide), Dd HRr.out.2.2.2.1 HRr.out.2.1 hg5 (by decide), Dd HRr.out.2.2.2.2 HRr.out.2.1 hg5 (by decide)⟩)
 have HB5 := Aa.mk hb5
 have hfr5 := As HP5.out 1
 clear ho5 hb5 hg5 HRr HPr BPr HBr hfr
 refine hK.out _ _ ⟨Ab BP5.out 0, Ab HP5.out 1⟩ (fun hHeld => ?_)
 clear hK K
 refine nX ?_
 refine pX 10 34 ?_
 refine pX 11 35 ?_
 refine pX 12 36 ?_
 refine lX 13 none (fun K hK => ?_)
 refine kX ?_
 refine hK.out _ _ ?_
 clear hK K
 refine dX ?_
 have HP6 := Aa.mk (show Pb (w5.setCell ⟨B, 1, none⟩ (.slice (some ⟨g, 0, none⟩) L.length c6)) B vE (.slice (some ⟨g, 0, none⟩) L.length c6) vD vO vR fd fo e4 from Az HP5.out 1 _ rfl)
 have HR6 := Aa.mk (B4 HR5.out (Bm w5 B 1 (.slice (some ⟨g, 0, none⟩) L.length c6)) (Ca HP5.out (by decide)))
 have BP6 := Aa.mk (Bc BP5.out (Bm w5 B 1 (.slice (some ⟨g, 0, none⟩) L.length c6)) hne)
 have HB6 := Aa.mk (HB5.out.setCell (p := ⟨B, 1, none⟩) hbB (.slice (some ⟨g, 0, none⟩) L.length c6))
 generalize w5.setCell ⟨B, 1, none⟩ (.slice (some ⟨g, 0, none⟩) L.length c6) = w6 at HP6 HR6 BP6 HB6 ⊢
 clear HP5 HR5 BP5 HB5 hfr5
 go_upto_region 5 with (fail)
 have hn1 : wrap64 ((L.length : Int) - 1) = (L.length : Int) - 1 := by unfold wrap64; omega
 have hn2 : (1 : Int) ≤ L.length := by omega
 have hn3 : (L.length : Int) - 1 < L.length := by omega
 refine sX 15 (S := fun w' => w'.cell? ⟨w.heap.size, 0, none⟩ = some (.pointer (some ⟨B, 0, none⟩)) ∧ w'.cell? ⟨B, 1, none⟩ = some (.slice (some ⟨g, 0, none⟩) L.length c6)) (ds := [14]) ⟨Ab BP6.out 0, Ab HP6.out 1⟩ (fun hHeld => ?_)
 have HPt := Aa.mk (Cf HP6.out (Below.refl _ _).drew)
 have HRt := Aa.mk (Cb HR6.out (Below.refl _ _).drew)
 have BPt := Aa.mk (Aj BP6.out (Below.refl _ _).drew)
 have HBt := Aa.mk (HB6.out.drew)
 generalize w6.drew = wdt at HPt HRt BPt HBt hHeld ⊢
 clear HP6 HR6 BP6 HB6
 refine tX 0 37 hHeld ?_
 refine pX 1 38 ?_
 refine pX 2 39 ?_
 refine pX 3 40 ?_
 refine tX 4 41 hHeld ?_
 refine tX 5 42 hHeld ?_
 refine pX 6 43 ?_
 refine pX 7 44 ?_
 refine pX 8 45 ?_
 refine tX 9 46 hHeld ?_
 refine pX 10 47 ?_
 refine pX 11 48 ?_
 refine pX 12 49 ?_
 refine oX 13 (some 5) (fun K hK => ?_)
 refine vX ?_
 refine hK.out _ _ ⟨Ab (Cw BPt.out _) 0, Ab (Cw HPt.out _) 1⟩ (fun hHeld => ?_)
 clear hK K
 refine nX ?_
 refine lX 14 none (fun K hK => ?_)
 refine kX ?_
 refine hK.out _ _ ?_
 clear hK K
 refine dX ?_
 have HA7 := Aa.mk ((Below.refl wdt.heap.size wdt).alloc (Nat.le_refl _) (.cells #[.pointer (some ⟨g, (L.length - 1) * 2, none⟩)] 118))
 have BR7 := Aa.mk (Cv wdt (.cells #[.pointer (some ⟨g, (L.length - 1) * 2, none⟩)] 118))
 have BP7 := Aa.mk (Aj BPt.out HA7.out)
 have HP7 := Aa.mk (Cf HPt.out HA7.out)
 have HR7 := Aa.mk (Cb HRt.out HA7.out)
 have HB7 := Aa.mk (HBt.out.trans (HA7.out.mono (Nat.le_trans hbw0 HBt.out.size)))
 obtain ⟨Br, hBr⟩ : ∃ Br, wdt.heap.size = Br := ⟨_, rfl⟩
 generalize wdt.alloc (.cells #[.pointer (some ⟨g, (L.length - 1) * 2, none⟩)] 118) = w7 at HA7 BR7 BP7 HP7 HR7 HB7 ⊢
 rw [hBr] at BR7 ⊢
 clear hHeld HPt HRt BPt HBt HA7 hBr
 have hq1 : w7.cell? ⟨w.heap.size, 0, none⟩ = some (.pointer (some ⟨B, 0, none⟩)) := Ab BP7.out 0
 have hq4 : w7.cell? ⟨B, 5, none⟩ = some fd := Ab HP7.out 5
 have hq5 : w7.cell? ⟨B, 6, none⟩ = some fo := Ab HP7.out 6
 have hq2 := As HP7.out 5
 have hq3 := As HP7.out 6
 have hBr : ¬ Br = B := fun h => Du BR7.out HP7.out (by decide) h
 go_wp2_with fail
 go_end0
 have k1 := Bm w7 B 5 (.func (.func 83) #[] #[.pointer (some ⟨w.heap.size, 0, none⟩), .pointer (some ⟨Br, 0, none⟩)])
 have p1 : Pb _ B vE (.slice (some ⟨g, 0, none⟩) L.length c6) vD vO vR (.func (.func 83) #[] #[.pointer (some ⟨w.heap.size, 0, none⟩), .pointer (some ⟨Br, 0, none⟩)]) fo e4 := Az HP7.out 5 _ rfl
 have k2 := Bm (w7.setCell ⟨B, 5, none⟩ (.func (.func 83) #[] #[.pointer (some ⟨w.heap.size, 0, none⟩), .pointer (some ⟨Br, 0, none⟩)])) B 6 (.func (.func 84) #[] #[.pointer (some ⟨w.heap.size, 0, none⟩), .pointer (some ⟨Br, 0, none⟩)])
 exact ⟨rfl, ⟨vE, (.slice (some ⟨g, 0, none⟩) L.length c6), vD, vO, vR, _, _, hbB, Az p1 6 _ rfl, B4 (B4 HR7.out k1 (Ca HP7.out (by decide))) k2 (Ca p1 (by decide)), ⟨w.heap.size, Br, g, c6, rfl, rfl, Bc (Bc BP7.out k1 hne) k2 hne, Bc (Bc BR7.out k1 hBr) k2 hBr, rfl, hL1⟩⟩, (HB7.out.setCell (p := ⟨B, 5, none⟩) hbB _).setCell (p := ⟨B, 6, none⟩) hbB _⟩
def Cy (l : List S116) : S116 := l.getD (l.length - 1) z116
def cells116 (x : S116) : List Value := [.string x.f0, .string x.f1, .string x.f2, .bool x.f3, .bool x.f4]
theorem Gi {w : World} {base g c : Nat} {ok : Nat → Prop} {xs : List S116} (h : Kd.R k116 116 w base ok (.slice (some ⟨g, 0, none⟩) xs.length c) xs) (hn : 1 ≤ xs.length) :
 (∀ j u, (cells116 (Cy xs))[j]? = some u → w.cell? ⟨g, (xs.length - 1) * 5 + j, none⟩ = some u) ∧ (∀ j, w.frozen? ⟨g, (xs.length - 1) * 5 + j, none⟩ = false) ∧
 (∀ j u x', j < 5 → (cells116 (Cy xs)).set j u = cells116 x' → Kd.R k116 116 (w.setCell ⟨g, (xs.length - 1) * 5 + j, none⟩ u) base ok (.slice (some ⟨g, 0, none⟩) xs.length c) (xs.set (xs.length - 1) x')) := by
 obtain ⟨cs, hcl, hM, hcc, hfr⟩ := Kd.R_elem h z116 ((xs.length - 1 : Nat) : Int) (by omega) (by omega)
 have hx : xs.getD ((xs.length - 1 : Nat) : Int).toNat z116 = Cy xs := by rw [Int.toNat_natCast]; rfl
 rw [hx] at hM
 obtain rfl := k116_openM hM
 refine ⟨fun j u hj => by have := hcc j u hj; rwa [Int.toNat_natCast] at this, fun j => by have := hfr j; rwa [Int.toNat_natCast] at this, fun j u x' hj hset => ?_⟩
 have hseg := (Kd.R_seg h ((xs.length - 1 : Nat) : Int) (by omega) (by omega) (seg := [u]) (j := j) hcl hcc (show j + 1 ≤ 5 from hj) (x' := x') (okp := fun _ => False) ?_ (fun k hk => hk.elim)).1
 ·rw [Int.toNat_natCast] at hseg
  exact hseg
 ·have he : [Value.string (Cy xs).f0, .string (Cy xs).f1, .string (Cy xs).f2, .bool (Cy xs).f3, .bool (Cy xs).f4].take j ++ [u] ++ [Value.string (Cy xs).f0, .string (Cy xs).f1, .string (Cy xs).f2, .bool (Cy xs).f3, .bool (Cy xs).f4].drop (j + [u].length) = cells116 x' := by
   rw [← hset]
   show List.take j (cells116 (Cy xs)) ++ [u] ++ List.drop (j + 1) (cells116 (Cy xs)) = _
   rw [List.set_eq_take_append_cons_drop, if_pos (show j < (cells116 (Cy xs)).length from hj), List.append_assoc]
   rfl
  rw [he]
  exact k116_mkM _ _ _ _
theorem below_to {w wd w2 : World} {base : Nat} (h : Below base w wd) (hb : Below wd.heap.size wd w2) (hbw : base ≤ wd.heap.size) : Below base w w2 := h.trans (hb.mono hbw)
theorem Rows_rules {w w1 : World} {base : Nat} {p : Pst} {vE vP vD vO vR vR' : Value} {S : Nat → Prop} {L : List S116} (h : Rows w base p vE vP vD vO vR) (h5 : Kd.R k116 116 w1 base (fun _ => True) vR' L) (hk : Kept w w1 S) (hS : ∀ k, S k → ∃ cells, w.heap[k]? = some (.cells cells 116 (0, 0))) : Rows w1 base { p with rules := L } vE vP vD vO vR' := by
 obtain ⟨h1, h2, h3, h4, _⟩ := h
 have ap : ∀ {l : List Nat}, 116 ∉ l → ∀ k, S k → ∃ cells q, w.heap[k]? = some (.cells cells q (0, 0)) ∧ q ∉ l := fun hl k hk => by
  obtain ⟨cs, hc⟩ := hS k hk
  exact ⟨cs, 116, hc, hl⟩
 exact ⟨Bf h1 hk (ap (by decide)), Bf h2 hk (ap (by decide)), Bf h3 hk (ap (by decide)), Bf h4 hk (ap (by decide)), h5⟩
theorem rule_done {w : World} {base B Bp Br g c : Nat} {p : Pst} {vE vP vD vO fd fo : Value} {e : Int} {r : S116} (hbB : base ≤ B) (h : Pb w B vE vP vD vO (.slice (some ⟨g, 0, none⟩) p.rules.length c) fd fo e) (hR : Rows w base { p with rules := p.rules.set (p.rules.length - 1) r } vE vP vD vO (.slice (some ⟨g, 0, none⟩) p.rules.length c))
 (bp : w.heap[Bp]? = some (.cells #[.pointer (some ⟨B, 0, none⟩)] 52 (0, 0))) (br : w.heap[Br]? = some (.cells #[.pointer (some ⟨g, (p.rules.length - 1) * 5, none⟩)] 117 (0, 0)))
 (hfd : fd = .func (.func 80) #[] #[.pointer (some ⟨Bp, 0, none⟩), .pointer (some ⟨Br, 0, none⟩)]) (hfo : fo = .func (.func 82) #[] #[.pointer (some ⟨Bp, 0, none⟩), .pointer (some ⟨Br, 0, none⟩)]) (hn : 1 ≤ p.rules.length) :
 Mst w base B { p with rules := p.rules.set (p.rules.length - 1) r } .rule e := by
 have hl : (p.rules.set (p.rules.length - 1) r).length = p.rules.length := List.length_set
 refine ⟨vE, vP, vD, vO, _, fd, fo, hbB, h, hR, Bp, Br, g, c, hfd, hfo, bp, ?_, ?_, ?_⟩
 ·show _ = some (Obj.cells #[Value.pointer (some ⟨g, ((p.rules.set (p.rules.length - 1) r).length - 1) * 5, none⟩)] 117 (0, 0))
  rw [hl]
  exact br
 ·show _ = Value.slice _ (p.rules.set (p.rules.length - 1) r).length _
  rw [hl]
 ·show 0 < (p.rules.set (p.rules.length - 1) r).length
  rw [hl]
  exact hn
theorem lastR_set (l : List S116) (x : S116) (hn : 1 ≤ l.length) : Cy (l.set (l.length - 1) x) = x := by
 unfold Cy
 rw [List.length_set, List.getD_eq_getElem?_getD, List.getElem?_set_self (by omega)]
 rfl
theorem lastR_self (l : List S116) (hn : 1 ≤ l.length) : l.set (l.length - 1) (Cy l) = l := by
 unfold Cy
 rw [List.getD_eq_getElem?_getD, List.getElem?_eq_getElem (by omega)]
 exact List.set_getElem_self (by omega)
theorem rule_two {w : World} {base g c : Nat} {ok : Nat → Prop} {xs : List S116} (value : ByteArray) (h : Kd.R k116 116 w base ok (.slice (some ⟨g, 0, none⟩) xs.length c) xs) (hn : 1 ≤ xs.length) :
 Kd.R k116 116 ((w.setCell ⟨g, (xs.length - 1) * 5 + 2, none⟩ (.string value)).setCell ⟨g, (xs.length - 1) * 5 + 4, none⟩ (.bool true)) base ok (.slice (some ⟨g, 0, none⟩) xs.length c) (xs.set (xs.length - 1) { Cy xs with f2 := value, f4 := true }) := by
 have h1 := (Gi h hn).2.2 2 (.string value) { Cy xs with f2 := value } (by decide) rfl
 obtain ⟨x1, hx1⟩ : ∃ x : S116, { Cy xs with f2 := value } = x := ⟨_, rfl⟩
 rw [hx1] at h1
 obtain ⟨L, hL⟩ : ∃ L, xs.set (xs.length - 1) x1 = L := ⟨_, rfl⟩
 have hl : L.length = xs.length := by rw [← hL]; exact List.length_set
 have hlast : Cy L = x1 := by rw [← hL]; exact lastR_set xs x1 hn
 rw [hL, ← hl] at h1
 have h2 := (Gi h1 (by rw [hl]; exact hn)).2.2 4 (.bool true) { Cy xs with f2 := value, f4 := true } (by decide) (by rw [hlast, ← hx1]; rfl)
 rw [hl, ← hL, List.set_set] at h2
 exact h2
def Fl (pools : List S44) (r : S116) (key value : ByteArray) : S116 × Bool :=
 if (key.toList == [99, 111, 109, 109, 97, 110, 100]) = true then ({ r with f1 := value }, r.f1.toList.isEmpty && !value.toList.isEmpty)
 else if (key.toList == [100, 101, 112, 115]) = true then ({ r with f3 := true }, !r.f3 && value.toList == [49])
 else if (key.toList == [112, 111, 111, 108]) = true then ({ r with f2 := value, f4 := true }, !r.f4 && decide (0 ≤ idxP (fun x : S44 => x.f0.toList == value.toList) pools))
 else (r, false)
def ruleD (p : Pst) (key value : ByteArray) : Pst := { p with rules := p.rules.set (p.rules.length - 1) (Fl p.pools (Cy p.rules) key value).1 }
def ruleDE (p : Pst) (e : Int) (key value : ByteArray) : Int := B9 e (Fl p.pools (Cy p.rules) key value).2
theorem deep80_calls (base B Bp Br g c : Nat) (p : Pst) (vE vP vD vO fd fo : Value) (e : Int) (key value : ByteArray) (w : World) (hbB : base ≤ B) (hbg : base ≤ g) (h : Pb w B vE vP vD vO (.slice (some ⟨g, 0, none⟩) p.rules.length c) fd fo e) (hR : Rows w base p vE vP vD vO (.slice (some ⟨g, 0, none⟩) p.rules.length c)) (hn : 1 ≤ p.rules.length)
 (bp : w.heap[Bp]? = some (.cells #[.pointer (some ⟨B, 0, none⟩)] 52 (0, 0))) (br : w.heap[Br]? = some (.cells #[.pointer (some ⟨g, (p.rules.length - 1) * 5, none⟩)] 117 (0, 0)))
 (hfd : fd = .func (.func 80) #[] #[.pointer (some ⟨Bp, 0, none⟩), .pointer (some ⟨Br, 0, none⟩)]) (hfo : fo = .func (.func 82) #[] #[.pointer (some ⟨Bp, 0, none⟩), .pointer (some ⟨Br, 0, none⟩)]) :
 Calls Tryz.prog 80 #[.string key, .string value, .pointer (some ⟨Bp, 0, none⟩), .pointer (some ⟨Br, 0, none⟩)] w fun x w' => x = .returned (.tuple #[]) ∧ Mst w' base B (ruleD p key value) .rule (ruleDE p e key value) ∧ Below base w w' := by
 have hBpB : ¬ Bp = B := fun q => Du bp h (by decide) q
 have hBrB : ¬ Br = B := fun q => Du br h (by decide) q
 have hBpg : ¬ Bp = g := by
  obtain ⟨cs, hg⟩ := Da hR.2.2.2.2 (k := g) rfl
  exact fun q => Du bp hg (by decide) q
 have hBrg : ¬ Br = g := by
  obtain ⟨cs, hg⟩ := Da hR.2.2.2.2 (k := g) rfl
  exact fun q => Du br hg (by decide) q
 have hBg : ¬ B = g := by
  obtain ⟨cs, hg⟩ := Da hR.2.2.2.2 (k := g) rfl
  exact fun q => Du h hg (by decide) q
 have hbw : base ≤ w.heap.size := Nat.le_trans hbB (Nat.le_of_lt (Cq h))
 have HRW := Aa.mk hR
 have HPW := Aa.mk h
 have BPW := Aa.mk bp
 have BRW := Aa.mk br
 have HFD := Aa.mk hfd
 have HFO := Aa.mk hfo
 obtain ⟨lc, lf, _⟩ := Gi hR.2.2.2.2 hn
 have z0 : w.cell? ⟨Bp, 0, none⟩ = some (.pointer (some ⟨B, 0, none⟩)) := Ab bp 0
 have z1 : w.cell? ⟨Br, 0, none⟩ = some (.pointer (some ⟨g, (p.rules.length - 1) * 5, none⟩)) := Ab br 0
 have c1 := lc 1 _ rfl
 have c3 := lc 3 _ rfl
 have c4 := lc 4 _ rfl
 have hEQ : ruleDE p e key value = B9 e (Fl p.pools (Cy p.rules) key value).2 := rfl
 have hPQ : ruleD p key value = { p with rules := p.rules.set (p.rules.length - 1) (Fl p.pools (Cy p.rules) key value).1 } := rfl
 unfold Fl at hEQ hPQ
 have HEQ := Aa.mk hEQ
 have HPQ := Aa.mk hPQ
 obtain ⟨E', hE'⟩ : ∃ E', ruleDE p e key value = E' := ⟨_, rfl⟩
 obtain ⟨P', hP'⟩ : ∃ P', ruleD p key value = P' := ⟨_, rfl⟩
 rw [hE'] at HEQ ⊢
 rw [hP'] at HPQ ⊢
 clear h hR bp br hfd hfo lc lf hEQ hPQ hE' hP'
 obtain ⟨r, hr⟩ : ∃ r, Cy p.rules = r := ⟨_, rfl⟩
 rw [hr] at c1 c3 c4 HEQ HPQ
 have HRR := Aa.mk hr
 clear hr
 obtain ⟨o, ho⟩ : ∃ o, (p.rules.length - 1) * 5 = o := ⟨_, rfl⟩
 have HOO := Aa.mk ho
 rw [ho] at z1 c1 c3 c4
 clear ho
 go_enter Tryz.func80, Tryz.ntmps80
 go_upto_region 3 with (fail)
 ·rename_i hk1
  cases hf1 : r.f1.toList.isEmpty with
  | true =>
   refine sX 11 (S := fun w' => w'.cell? ⟨Bp, 0, none⟩ = some (.pointer (some ⟨B, 0, none⟩)) ∧ w'.cell? ⟨Br, 0, none⟩ = some (.pointer (some ⟨g, o, none⟩)) ∧ w'.cell? ⟨g, o + 1, none⟩ = some (.string r.f1)) (ds := [10]) ⟨z0, z1, c1⟩ (fun hHeld => ?_)
   have HPd := Aa.mk (Cf HPW.out (Below.refl _ _).drew)
   have HRd := Aa.mk (Cb HRW.out (Below.refl _ _).drew)
   have BPd := Aa.mk (Aj BPW.out (Below.refl _ _).drew)
   have BRd := Aa.mk (Aj BRW.out (Below.refl _ _).drew)
   have HBd := Aa.mk ((Below.refl base w).drew)
   generalize w.drew = wd at HPd HRd BPd BRd HBd hHeld ⊢
   refine tX 0 11 hHeld ?_
   refine tX 1 12 hHeld ?_
   refine pX 2 13 ?_
   refine pX 3 14 ?_
   refine tX 4 15 hHeld ?_
   refine pX 5 16 ?_
   refine pX 6 17 ?_
   refine pX 7 18 ?_
   refine pX 8 19 ?_
   refine pX 9 20 ?_
   refine lX 10 (some 21) (fun K hK => ?_)
   refine gX Tryz.func40 #[.pointer (some ⟨B, 0, none⟩), .bool (!value.toList.isEmpty)] ?_
   with_reducible refine (C6 B vE vP vD vO (.slice (some ⟨g, 0, none⟩) p.rules.length c) fd fo e (!value.toList.isEmpty) _ HPd.out).mono ?_
   rintro x w3 ⟨rfl, hp, hk, hb⟩
   refine ⟨_, rfl, ?_⟩
   have HP3 := Aa.mk hp
   have HR3 := Aa.mk (B4 HRd.out hk (Ca HPd.out (by decide)))
   have BP3 := Aa.mk (Bc BPd.out hk hBpB)
   have BR3 := Aa.mk (Bc BRd.out hk hBrB)
   have HB3 := Aa.mk (HBd.out.trans (hb base hbB))
   clear hp hk hb HPd HRd BPd BRd HBd
   refine hK.out _ _ ?_
   clear hK K
   refine nX ?_
   refine dX ?_
   obtain ⟨lc, lf, lset⟩ := Gi HR3.out.2.2.2.2 hn
   rw [HRR.out, HOO.out] at lc
   rw [HOO.out] at lf lset
   rw [HRR.out] at lset
   have y0 : w3.cell? ⟨Bp, 0, none⟩ = some (.pointer (some ⟨B, 0, none⟩)) := Ab BP3.out 0
   have y1 : w3.cell? ⟨Br, 0, none⟩ = some (.pointer (some ⟨g, o, none⟩)) := by have := Ab BR3.out 0; rw [HOO.out] at this; exact this
   have y2 := lc 1 _ rfl
   have y3 := lf 1
   have LS := Aa.mk (lset 1 (.string value) { r with f1 := value } (by decide) rfl)
   clear lc lf lset
   go_wp2_with fail
   go_end0
   have hk := Bm w3 g (o + 1) (.string value)
   refine ⟨rfl, ?_, HB3.out.setCell (p := ⟨g, o + 1, none⟩) hbg _⟩
   have hE : B9 e (!value.toList.isEmpty) = E' := by rw [HEQ.out]; simp [*]
   have hP : { p with rules := p.rules.set (p.rules.length - 1) { r with f1 := value } } = P' := by rw [HPQ.out]; simp [*]
   rw [← hE, ← hP]
   exact rule_done hbB (E9 HP3.out hBg _) (Rows_rules HR3.out LS.out hk (fun k hk => by have hk' : k = g := hk; subst hk'; exact Da HR3.out.2.2.2.2 rfl)) (Bc BP3.out hk hBpg) (Bc BR3.out hk hBrg) HFD.out HFO.out hn
  | false =>
   refine sX 11 (S := fun w' => w'.cell? ⟨Bp, 0, none⟩ = some (.pointer (some ⟨B, 0, none⟩)) ∧ w'.cell? ⟨Br, 0, none⟩ = some (.pointer (some ⟨g, o, none⟩)) ∧ w'.cell? ⟨g, o + 1, none⟩ = some (.string r.f1)) (ds := [10]) ⟨z0, z1, c1⟩ (fun hHeld => ?_)
   have HPd := Aa.mk (Cf HPW.out (Below.refl _ _).drew)
   have HRd := Aa.mk (Cb HRW.out (Below.refl _ _).drew)
   have BPd := Aa.mk (Aj BPW.out (Below.refl _ _).drew)
   have BRd := Aa.mk (Aj BRW.out (Below.refl _ _).drew)
   have HBd := Aa.mk ((Below.refl base w).drew)
   generalize w.drew = wd at HPd HRd BPd BRd HBd hHeld ⊢
   refine tX 0 11 hHeld ?_
   refine tX 1 12 hHeld ?_
   refine pX 2 13 ?_
   refine pX 3 14 ?_
   refine tX 4 15 hHeld ?_
   refine pX 5 16 ?_
   refine pX 6 17 ?_
   refine qX 7 18 ?_
   refine qX 8 19 ?_
   refine pX 9 20 ?_
   refine lX 10 (some 21) (fun K hK => ?_)
   refine gX Tryz.func40 #[.pointer (some ⟨B, 0, none⟩), .bool false] ?_
   with_reducible refine (C6 B vE vP vD vO (.slice (some ⟨g, 0, none⟩) p.rules.length c) fd fo e false _ HPd.out).mono ?_
   rintro x w3 ⟨rfl, hp, hk, hb⟩
   refine ⟨_, rfl, ?_⟩
   have HP3 := Aa.mk hp
   have HR3 := Aa.mk (B4 HRd.out hk (Ca HPd.out (by decide)))
   have BP3 := Aa.mk (Bc BPd.out hk hBpB)
   have BR3 := Aa.mk (Bc BRd.out hk hBrB)
   have HB3 := Aa.mk (HBd.out.trans (hb base hbB))
   clear hp hk hb HPd HRd BPd BRd HBd
   refine hK.out _ _ ?_
   clear hK K
   refine nX ?_
   refine dX ?_
   obtain ⟨lc, lf, lset⟩ := Gi HR3.out.2.2.2.2 hn
   rw [HRR.out, HOO.out] at lc
   rw [HOO.out] at lf lset
   rw [HRR.out] at lset
   have y0 : w3.cell? ⟨Bp, 0, none⟩ = some (.pointer (some ⟨B, 0, none⟩)) := Ab BP3.out 0
   have y1 : w3.cell? ⟨Br, 0, none⟩ = some (.pointer (some ⟨g, o, none⟩)) := by have := Ab BR3.out 0; rw [HOO.out] at this; exact this
   have y2 := lc 1 _ rfl
   have y3 := lf 1
   have LS := Aa.mk (lset 1 (.string value) { r with f1 := value } (by decide) rfl)
   clear lc lf lset
   go_wp2_with fail
   go_end0
   have hk := Bm w3 g (o + 1) (.string value)
   refine ⟨rfl, ?_, HB3.out.setCell (p := ⟨g, o + 1, none⟩) hbg _⟩
   have hE : B9 e false = E' := by rw [HEQ.out]; simp [*]
   have hP : { p with rules := p.rules.set (p.rules.length - 1) { r with f1 := value } } = P' := by rw [HPQ.out]; simp [*]
   rw [← hE, ← hP]
   exact rule_done hbB (E9 HP3.out hBg _) (Rows_rules HR3.out LS.out hk (fun k hk => by have hk' : k = g := hk; subst hk'; exact Da HR3.out.2.2.2.2 rfl)) (Bc BP3.out hk hBpg) (Bc BR3.out hk hBrg) HFD.out HFO.out hn
 ·rename_i hk1 hk2
  cases hf1 : r.f3 with
  | false =>
   rw [hf1] at c3
   refine sX 11 (S := fun w' => w'.cell? ⟨Bp, 0, none⟩ = some (.pointer (some ⟨B, 0, none⟩)) ∧ w'.cell? ⟨Br, 0, none⟩ = some (.pointer (some ⟨g, o, none⟩)) ∧ w'.cell? ⟨g, o + 3, none⟩ = some (.bool false)) (ds := [10]) ⟨z0, z1, c3⟩ (fun hHeld => ?_)
   have HPd := Aa.mk (Cf HPW.out (Below.refl _ _).drew)
   have HRd := Aa.mk (Cb HRW.out (Below.refl _ _).drew)
   have BPd := Aa.mk (Aj BPW.out (Below.refl _ _).drew)
   have BRd := Aa.mk (Aj BRW.out (Below.refl _ _).drew)
   have HBd := Aa.mk ((Below.refl base w).drew)
   generalize w.drew = wd at HPd HRd BPd BRd HBd hHeld ⊢
   refine tX 0 28 hHeld ?_
   refine tX 1 29 hHeld ?_
   refine pX 2 30 ?_
   refine pX 3 31 ?_
   refine tX 4 32 hHeld ?_
   refine pX 5 33 ?_
   refine pX 6 34 ?_
   refine pX 7 35 ?_
   refine pX 8 36 ?_
   refine pX 9 37 ?_
   refine lX 10 (some 38) (fun K hK => ?_)
   refine gX Tryz.func40 #[.pointer (some ⟨B, 0, none⟩), .bool (value.toList == [49])] ?_
   with_reducible refine (C6 B vE vP vD vO (.slice (some ⟨g, 0, none⟩) p.rules.length c) fd fo e (value.toList == [49]) _ HPd.out).mono ?_
   rintro x w3 ⟨rfl, hp, hk, hb⟩
   refine ⟨_, rfl, ?_⟩
   have HP3 := Aa.mk hp
   have HR3 := Aa.mk (B4 HRd.out hk (Ca HPd.out (by decide)))
   have BP3 := Aa.mk (Bc BPd.out hk hBpB)
   have BR3 := Aa.mk (Bc BRd.out hk hBrB)
   have HB3 := Aa.mk (HBd.out.trans (hb base hbB))
   clear hp hk hb HPd HRd BPd BRd HBd
   refine hK.out _ _ ?_
   clear hK K
   refine nX ?_
   refine dX ?_
   obtain ⟨lc, lf, lset⟩ := Gi HR3.out.2.2.2.2 hn
   rw [HRR.out, HOO.out] at lc
   rw [HOO.out] at lf lset
   rw [HRR.out] at lset
   have y0 : w3.cell? ⟨Bp, 0, none⟩ = some (.pointer (some ⟨B, 0, none⟩)) := Ab BP3.out 0
   have y1 : w3.cell? ⟨Br, 0, none⟩ = some (.pointer (some ⟨g, o, none⟩)) := by have := Ab BR3.out 0; rw [HOO.out] at this; exact this
   have y2 := lc 3 _ rfl
   have y3 := lf 3
   have LS := Aa.mk (lset 3 (.bool true) { r with f3 := true } (by decide) rfl)
   clear lc lf lset
   go_wp2_with fail
   go_end0
   have hk := Bm w3 g (o + 3) (.bool true)
   refine ⟨rfl, ?_, HB3.out.setCell (p := ⟨g, o + 3, none⟩) hbg _⟩
   have hE : B9 e (value.toList == [49]) = E' := by rw [HEQ.out]; simp [*]
   have hP : { p with rules := p.rules.set (p.rules.length - 1) { r with f3 := true } } = P' := by rw [HPQ.out]; simp [*]
   rw [← hE, ← hP]
   exact rule_done hbB (E9 HP3.out hBg _) (Rows_rules HR3.out LS.out hk (fun k hk => by have hk' : k = g := hk; subst hk'; exact Da HR3.out.2.2.2.2 rfl)) (Bc BP3.out hk hBpg) (Bc BR3.out hk hBrg) HFD.out HFO.out hn
  | true =>
   rw [hf1] at c3
   refine sX 11 (S := fun w' => w'.cell? ⟨Bp, 0, none⟩ = some (.pointer (some ⟨B, 0, none⟩)) ∧ w'.cell? ⟨Br, 0, none⟩ = some (.pointer (some ⟨g, o, none⟩)) ∧ w'.cell? ⟨g, o + 3, none⟩ = some (.bool true)) (ds := [10]) ⟨z0, z1, c3⟩ (fun hHeld => ?_)
   have HPd := Aa.mk (Cf HPW.out (Below.refl _ _).drew)
   have HRd := Aa.mk (Cb HRW.out (Below.refl _ _).drew)
   have BPd := Aa.mk (Aj BPW.out (Below.refl _ _).drew)
   have BRd := Aa.mk (Aj BRW.out (Below.refl _ _).drew)
   have HBd := Aa.mk ((Below.refl base w).drew)
   generalize w.drew = wd at HPd HRd BPd BRd HBd hHeld ⊢
   refine tX 0 28 hHeld ?_
   refine tX 1 29 hHeld ?_
   refine pX 2 30 ?_
   refine pX 3 31 ?_
   refine tX 4 32 hHeld ?_
   refine pX 5 33 ?_
   refine pX 6 34 ?_
   refine qX 7 35 ?_
   refine qX 8 36 ?_
   refine pX 9 37 ?_
   refine lX 10 (some 38) (fun K hK => ?_)
   refine gX Tryz.func40 #[.pointer (some ⟨B, 0, none⟩), .bool false] ?_
   with_reducible refine (C6 B vE vP vD vO (.slice (some ⟨g, 0, none⟩) p.rules.length c) fd fo e false _ HPd.out).mono ?_
   rintro x w3 ⟨rfl, hp, hk, hb⟩
   refine ⟨_, rfl, ?_⟩
   have HP3 := Aa.mk hp
   have HR3 := Aa.mk (B4 HRd.out hk (Ca HPd.out (by decide)))
   have BP3 := Aa.mk (Bc BPd.out hk hBpB)
   have BR3 := Aa.mk (Bc BRd.out hk hBrB)
   have HB3 := Aa.mk (HBd.out.trans (hb base hbB))
   clear hp hk hb HPd HRd BPd BRd HBd
   refine hK.out _ _ ?_
   clear hK K
   refine nX ?_
   refine dX ?_
   obtain ⟨lc, lf, lset⟩ := Gi HR3.out.2.2.2.2 hn
   rw [HRR.out, HOO.out] at lc
   rw [HOO.out] at lf lset
   rw [HRR.out] at lset
   have y0 : w3.cell? ⟨Bp, 0, none⟩ = some (.pointer (some ⟨B, 0, none⟩)) := Ab BP3.out 0
   have y1 : w3.cell? ⟨Br, 0, none⟩ = some (.pointer (some ⟨g, o, none⟩)) := by have := Ab BR3.out 0; rw [HOO.out] at this; exact this
   have y2 := lc 3 _ rfl
   have y3 := lf 3
   have LS := Aa.mk (lset 3 (.bool true) { r with f3 := true } (by decide) rfl)
   clear lc lf lset
   go_wp2_with fail
   go_end0
   have hk := Bm w3 g (o + 3) (.bool true)
   refine ⟨rfl, ?_, HB3.out.setCell (p := ⟨g, o + 3, none⟩) hbg _⟩
   have hE : B9 e false = E' := by rw [HEQ.out]; simp [*]
   have hP : { p with rules := p.rules.set (p.rules.length - 1) { r with f3 := true } } = P' := by rw [HPQ.out]; simp [*]
   rw [← hE, ← hP]
   exact rule_done hbB (E9 HP3.out hBg _) (Rows_rules HR3.out LS.out hk (fun k hk => by have hk' : k = g := hk; subst hk'; exact Da HR3.out.2.2.2.2 rfl)) (Bc BP3.out hk hBpg) (Bc BR3.out hk hBrg) HFD.out HFO.out hn
 ·rename_i hk1 hk2 hk3
  cases hf1 : r.f4 with
  | false =>
   rw [hf1] at c4
   obtain ⟨A1, c1q, rfl, _⟩ := Kd.Dl HRW.out.2.1
   have HCW := Aa.mk (Kd.R_reads' HRW.out.2.1).2.2
   obtain ⟨I, hI⟩ : ∃ I, idxP (fun x : S44 => x.f0.toList == value.toList) p.pools = I := ⟨_, rfl⟩
   rw [hI] at HEQ
   have HI := Lib.hid hI
   clear hI
   refine sX 13 (S := fun w' => w'.cell? ⟨Bp, 0, none⟩ = some (.pointer (some ⟨B, 0, none⟩)) ∧ w'.cell? ⟨Br, 0, none⟩ = some (.pointer (some ⟨g, o, none⟩)) ∧ w'.cell? ⟨g, o + 4, none⟩ = some (.bool false)) (ds := [12]) ⟨z0, z1, c4⟩ (fun hHeld => ?_)
   have HCD := Aa.mk (Kd.Bb HCW.out (Below.refl _ _).drew)
   have HPd := Aa.mk (Cf HPW.out (Below.refl _ _).drew)
   have HRd := Aa.mk (Cb HRW.out (Below.refl _ _).drew)
   have BPd := Aa.mk (Aj BPW.out (Below.refl _ _).drew)
   have BRd := Aa.mk (Aj BRW.out (Below.refl _ _).drew)
   have HBd := Aa.mk ((Below.refl base w).drew)
   generalize w.drew = wd at HPd HRd BPd BRd HBd HCD hHeld ⊢
   refine tX 0 44 hHeld ?_
   refine tX 1 45 hHeld ?_
   refine pX 2 46 ?_
   refine pX 3 47 ?_
   refine tX 4 48 hHeld ?_
   refine pX 5 49 ?_
   refine pX 6 50 ?_
   refine pX 8 52 ?_
   refine tX 7 51 hHeld ?_
   refine oX 9 (some 53) (fun K hK => ?_)
   refine gX Tryz.func81 #[.pointer (some ⟨B, 0, none⟩), .string value] ?_
   with_reducible refine (ppool_calls B vE _ vD vO (.slice (some ⟨g, 0, none⟩) p.rules.length c) fd fo e A1 c1q p.pools value _ HPd.out rfl HCD.out).mono ?_
   rw [HI.out]
   rintro x w2 ⟨rfl, hb⟩
   refine ⟨_, rfl, ?_⟩
   replace HPd := Aa.mk (Cf HPd.out hb)
   replace HRd := Aa.mk (Cb HRd.out hb)
   replace BPd := Aa.mk (Aj BPd.out hb)
   replace BRd := Aa.mk (Aj BRd.out hb)
   replace HBd := Aa.mk (below_to HBd.out hb (Nat.le_trans hbw HBd.out.size))
   clear hb HCD
   obtain ⟨lc, lf, _⟩ := Gi HRd.out.2.2.2.2 hn
   rw [HRR.out, HOO.out] at lc
   have t4 := lc 4 _ rfl
   simp only [hf1] at t4
   have t1 : w2.cell? ⟨Br, 0, none⟩ = some (.pointer (some ⟨g, o, none⟩)) := by have := Ab BRd.out 0; rw [HOO.out] at this; exact this
   clear lc lf
   refine hK.out _ _ ⟨Ab BPd.out 0, t1, t4⟩ (fun hHeld => ?_)
   clear hK K
   refine nX ?_
   refine pX 10 54 ?_
   refine pX 11 55 ?_
   refine lX 12 (some 56) (fun K hK => ?_)
   refine gX Tryz.func40 #[.pointer (some ⟨B, 0, none⟩), .bool (decide (0 ≤ I))] ?_
   with_reducible refine (C6 B vE _ vD vO (.slice (some ⟨g, 0, none⟩) p.rules.length c) fd fo e (decide (0 ≤ I)) _ HPd.out).mono ?_
   rintro x w3 ⟨rfl, hp, hk, hb⟩
   refine ⟨_, rfl, ?_⟩
   have HP3 := Aa.mk hp
   have HR3 := Aa.mk (B4 HRd.out hk (Ca HPd.out (by decide)))
   have BP3 := Aa.mk (Bc BPd.out hk hBpB)
   have BR3 := Aa.mk (Bc BRd.out hk hBrB)
   have HB3 := Aa.mk (HBd.out.trans (hb base hbB))
   clear hp hk hb HPd HRd BPd BRd HBd
   refine hK.out _ _ ?_
   clear hK K
   refine nX ?_
   refine dX ?_
   obtain ⟨lc, lf, lset⟩ := Gi HR3.out.2.2.2.2 hn
   rw [HRR.out, HOO.out] at lc
   rw [HOO.out] at lf lset
   rw [HRR.out] at lset
   have y0 : w3.cell? ⟨Bp, 0, none⟩ = some (.pointer (some ⟨B, 0, none⟩)) := Ab BP3.out 0
   have y1 : w3.cell? ⟨Br, 0, none⟩ = some (.pointer (some ⟨g, o, none⟩)) := by have := Ab BR3.out 0; rw [HOO.out] at this; exact this
   have y2 := lc 2 _ rfl
   have y3 := lf 2
   have y4 := lc 4 _ rfl
   have y5 := lf 4
   have LS0 := rule_two value HR3.out.2.2.2.2 hn
   rw [HOO.out, HRR.out] at LS0
   have LS := Aa.mk LS0
   clear lc lf lset LS0
   go_upto_region 10 with (fail)
   refine sX 9 (S := fun w' => w'.cell? ⟨Br, 0, none⟩ = some (.pointer (some ⟨g, o, none⟩))) (ds := [8]) (y1) (fun hHeld => ?_)
   have HPd := Aa.mk (Cf HP3.out (Below.refl _ _).drew)
   have HRd := Aa.mk (Cb HR3.out (Below.refl _ _).drew)
   have BPd := Aa.mk (Aj BP3.out (Below.refl _ _).drew)
   have BRd := Aa.mk (Aj BR3.out (Below.refl _ _).drew)
   have HBd := Aa.mk (HB3.out.drew)
   replace y2 : w3.drew.cell? ⟨g, o + 2, none⟩ = some (.string r.f2) := y2
   replace y3 : w3.drew.frozen? ⟨g, o + 2, none⟩ = false := y3
   replace y4 : w3.drew.cell? ⟨g, o + 4, none⟩ = some (.bool r.f4) := y4
   replace y5 : w3.drew.frozen? ⟨g, o + 4, none⟩ = false := y5
   have LSd := Aa.mk (rule_two value HRd.out.2.2.2.2 hn)
   rw [HOO.out, HRR.out] at LSd
   clear LS y0 y1
   generalize w3.drew = wq at HPd HRd BPd BRd HBd LSd y2 y3 y4 y5 hHeld ⊢
   clear HP3 HR3 BP3 BR3 HB3
   refine pX 2 59 ?_
   refine tX 0 57 hHeld ?_
   refine pX 3 60 ?_
   refine pX 4 61 ?_
   refine tX 1 58 hHeld ?_
   refine oX 5 none (fun K hK => ?_)
   refine kX ?_
   refine hK.out _ _ ((by have := Ab (Bc BRd.out (Bm wq g (o + 2) (.string value)) hBrg) 0; rw [HOO.out] at this; exact this)) (fun hHeld => ?_)
   clear hK K
   refine pX 6 62 ?_
   refine pX 7 63 ?_
   refine lX 8 none (fun K hK => ?_)
   refine kX ?_
   refine hK.out _ _ ?_
   clear hK K
   refine dX ?_
   go_end0
   have hk := Kept.then_ (Bm wq g (o + 2) (.string value)) (Bm _ g (o + 4) (.bool true)) (fun k hk => .inl hk)
   refine ⟨rfl, ?_, (HBd.out.setCell (p := ⟨g, o + 2, none⟩) hbg _).setCell (p := ⟨g, o + 4, none⟩) hbg _⟩
   have hE : B9 e (decide (0 ≤ I)) = E' := by rw [HEQ.out]; simp [*]
   have hP : { p with rules := p.rules.set (p.rules.length - 1) { r with f2 := value, f4 := true } } = P' := by rw [HPQ.out]; simp [*]
   rw [← hE, ← hP]
   exact rule_done hbB (E9 (E9 HPd.out hBg _) hBg _) (Rows_rules HRd.out LSd.out hk (fun k hk => by have hk' : k = g := hk; subst hk'; exact Da HRd.out.2.2.2.2 rfl)) (Bc BPd.out hk hBpg) (Bc BRd.out hk hBrg) HFD.out HFO.out hn
  | true =>
   rw [hf1] at c4
   refine sX 13 (S := fun w' => w'.cell? ⟨Bp, 0, none⟩ = some (.pointer (some ⟨B, 0, none⟩)) ∧ w'.cell? ⟨Br, 0, none⟩ = some (.pointer (some ⟨g, o, none⟩)) ∧ w'.cell? ⟨g, o + 4, none⟩ = some (.bool true)) (ds := [12]) ⟨z0, z1, c4⟩ (fun hHeld => ?_)
   have HPd := Aa.mk (Cf HPW.out (Below.refl _ _).drew)
   have HRd := Aa.mk (Cb HRW.out (Below.refl _ _).drew)
   have BPd := Aa.mk (Aj BPW.out (Below.refl _ _).drew)
   have BRd := Aa.mk (Aj BRW.out (Below.refl _ _).drew)
   have HBd := Aa.mk ((Below.refl base w).drew)
   generalize w.drew = wd at HPd HRd BPd BRd HBd hHeld ⊢
   refine tX 0 44 hHeld ?_
   refine tX 1 45 hHeld ?_
   refine pX 2 46 ?_
   refine pX 3 47 ?_
   refine tX 4 48 hHeld ?_
   refine pX 5 49 ?_
   refine pX 6 50 ?_
   refine qX 7 51 ?_
   refine qX 8 52 ?_
   refine qX 9 53 ?_
   refine qX 10 54 ?_
   refine pX 11 55 ?_
   refine lX 12 (some 56) (fun K hK => ?_)
   refine gX Tryz.func40 #[.pointer (some ⟨B, 0, none⟩), .bool false] ?_
   with_reducible refine (C6 B vE vP vD vO (.slice (some ⟨g, 0, none⟩) p.rules.length c) fd fo e false _ HPd.out).mono ?_
   rintro x w3 ⟨rfl, hp, hk, hb⟩
   refine ⟨_, rfl, ?_⟩
   have HP3 := Aa.mk hp
   have HR3 := Aa.mk (B4 HRd.out hk (Ca HPd.out (by decide)))
   have BP3 := Aa.mk (Bc BPd.out hk hBpB)
   have BR3 := Aa.mk (Bc BRd.out hk hBrB)
   have HB3 := Aa.mk (HBd.out.trans (hb base hbB))
   clear hp hk hb HPd HRd BPd BRd HBd
   refine hK.out _ _ ?_
   clear hK K
   refine nX ?_
   refine dX ?_
   obtain ⟨lc, lf, lset⟩ := Gi HR3.out.2.2.2.2 hn
   rw [HRR.out, HOO.out] at lc
   rw [HOO.out] at lf lset
   rw [HRR.out] at lset
   have y0 : w3.cell? ⟨Bp, 0, none⟩ = some (.pointer (some ⟨B, 0, none⟩)) := Ab BP3.out 0
   have y1 : w3.cell? ⟨Br, 0, none⟩ = some (.pointer (some ⟨g, o, none⟩)) := by have := Ab BR3.out 0; rw [HOO.out] at this; exact this
   have y2 := lc 2 _ rfl
   have y3 := lf 2
   have y4 := lc 4 _ rfl
   have y5 := lf 4
   have LS0 := rule_two value HR3.out.2.2.2.2 hn
   rw [HOO.out, HRR.out] at LS0
   have LS := Aa.mk LS0
   clear lc lf lset LS0
   go_upto_region 10 with (fail)
   refine sX 9 (S := fun w' => w'.cell? ⟨Br, 0, none⟩ = some (.pointer (some ⟨g, o, none⟩))) (ds := [8]) (y1) (fun hHeld => ?_)
   have HPd := Aa.mk (Cf HP3.out (Below.refl _ _).drew)
   have HRd := Aa.mk (Cb HR3.out (Below.refl _ _).drew)
   have BPd := Aa.mk (Aj BP3.out (Below.refl _ _).drew)
   have BRd := Aa.mk (Aj BR3.out (Below.refl _ _).drew)
   have HBd := Aa.mk (HB3.out.drew)
   replace y2 : w3.drew.cell? ⟨g, o + 2, none⟩ = some (.string r.f2) := y2
   replace y3 : w3.drew.frozen? ⟨g, o + 2, none⟩ = false := y3
   replace y4 : w3.drew.cell? ⟨g, o + 4, none⟩ = some (.bool r.f4) := y4
   replace y5 : w3.drew.frozen? ⟨g, o + 4, none⟩ = false := y5
   have LSd := Aa.mk (rule_two value HRd.out.2.2.2.2 hn)
   rw [HOO.out, HRR.out] at LSd
   clear LS y0 y1
   generalize w3.drew = wq at HPd HRd BPd BRd HBd LSd y2 y3 y4 y5 hHeld ⊢
   clear HP3 HR3 BP3 BR3 HB3
   refine pX 2 59 ?_
   refine tX 0 57 hHeld ?_
   refine pX 3 60 ?_
   refine pX 4 61 ?_
   refine tX 1 58 hHeld ?_
   refine oX 5 none (fun K hK => ?_)
   refine kX ?_
   refine hK.out _ _ ((by have := Ab (Bc BRd.out (Bm wq g (o + 2) (.string value)) hBrg) 0; rw [HOO.out] at this; exact this)) (fun hHeld => ?_)
   clear hK K
   refine pX 6 62 ?_
   refine pX 7 63 ?_
   refine lX 8 none (fun K hK => ?_)
   refine kX ?_
   refine hK.out _ _ ?_
   clear hK K
   refine dX ?_
   go_end0
   have hk := Kept.then_ (Bm wq g (o + 2) (.string value)) (Bm _ g (o + 4) (.bool true)) (fun k hk => .inl hk)
   refine ⟨rfl, ?_, (HBd.out.setCell (p := ⟨g, o + 2, none⟩) hbg _).setCell (p := ⟨g, o + 4, none⟩) hbg _⟩
   have hE : B9 e false = E' := by rw [HEQ.out]; simp [*]
   have hP : { p with rules := p.rules.set (p.rules.length - 1) { r with f2 := value, f4 := true } } = P' := by rw [HPQ.out]; simp [*]
   rw [← hE, ← hP]
   exact rule_done hbB (E9 (E9 HPd.out hBg _) hBg _) (Rows_rules HRd.out LSd.out hk (fun k hk => by have hk' : k = g := hk; subst hk'; exact Da HRd.out.2.2.2.2 rfl)) (Bc BPd.out hk hBpg) (Bc BRd.out hk hBrg) HFD.out HFO.out hn
 ·go_wp2_with (first | (go_at_call 40; refine (C6 B vE vP vD vO (.slice (some ⟨g, 0, none⟩) p.rules.length c) fd fo e false _ HPW.out).mono ?_; rintro x w3 ⟨rfl, hp, hk, hb⟩; have HP3 := Aa.mk hp; have HR3 := Aa.mk (B4 HRW.out hk (Ca HPW.out (by decide))); have BP3 := Aa.mk (Bc BPW.out hk hBpB); have BR3 := Aa.mk (Bc BRW.out hk hBrB); have HB3 := Aa.mk (hb base hbB); clear hp hk hb))
  go_end0
  refine ⟨rfl, ?_, HB3.out⟩
  have hE : B9 e false = E' := by rw [HEQ.out]; simp [*]
  have hP : { p with rules := p.rules.set (p.rules.length - 1) (Cy p.rules) } = P' := by rw [HPQ.out, HRR.out]; simp [*]
  rw [← hE, ← hP]
  exact rule_done hbB HP3.out (show Rows _ _ { p with rules := p.rules.set (p.rules.length - 1) (Cy p.rules) } _ _ _ _ _ by rw [lastR_self _ hn]; exact HR3.out) BP3.out BR3.out HFD.out HFO.out hn
def Txt (w : World) (M g n : Nat) : Prop := ∃ cur : Array Value, w.heap[g]? = some (.cells cur 9 (0, 0)) ∧ ∀ i, i < n → ∃ x : ByteArray, cur[i]? = some (.string x) ∧ x.size ≤ M
def SG (w : World) (base M : Nat) (v : Value) : Prop := ∃ A n c, v = .slice A n c ∧ n ≤ 1048576 ∧ (n = 0 ∨ ∃ g, A = some ⟨g, 0, none⟩ ∧ base ≤ g ∧ Txt w M g n)
structure Sp (w w' : World) (base M M' : Nat) : Prop where
 below : Below base w w'
 kept : Kept w w' (fun k => ∃ cells, w.heap[k]? = some (.cells cells 9 (0, 0)))
 txt : ∀ g n, Txt w M g n → Txt w' M' g n
theorem txt_mono {w : World} {M M' g n : Nat} (h : Txt w M g n) (hm : M ≤ M') : Txt w M' g n := by
 obtain ⟨cur, hg, hc⟩ := h
 exact ⟨cur, hg, fun i hi => by obtain ⟨x, h1, h2⟩ := hc i hi; exact ⟨x, h1, Nat.le_trans h2 hm⟩⟩
theorem Sp.refl {w : World} {base M M' : Nat} (hm : M ≤ M') : Sp w w base M M' := ⟨Below.refl _ _, Kept.refl _ _, fun g n h => txt_mono h hm⟩
theorem Sp.blk {w w' : World} {base M M' g t : Nat} {cs : Array Value} (h : Sp w w' base M M') (hg : w.heap[g]? = some (.cells cs t (0, 0))) (ht : (t == 9) = false) : w'.heap[g]? = some (.cells cs t (0, 0)) :=
 Bc hg h.kept (fun ⟨cells, hc⟩ => by
  rw [hg] at hc
  simp only [Option.some.injEq, Obj.cells.injEq] at hc
  rw [hc.2.1] at ht
  exact absurd ht (by decide))
theorem Sp.trans {w w1 w2 : World} {base M M1 M2 : Nat} (h : Sp w w1 base M M1) (h' : Sp w1 w2 base M1 M2) : Sp w w2 base M M2 :=
 ⟨h.below.trans h'.below, Kept.then_ h.kept h'.kept (fun k hk => by
   by_cases hs : k < w.heap.size
   ·by_cases hq : ∃ cells, w.heap[k]? = some (.cells cells 9 (0, 0))
    ·exact .inl hq
    ·obtain ⟨cells, hc⟩ := hk
     rw [h.kept.2 k hs hq] at hc
     exact absurd ⟨cells, hc⟩ hq
   ·exact .inr (by omega)), fun g n q => h'.txt g n (h.txt g n q)⟩
theorem SG.sp {w w' : World} {base M M' : Nat} {v : Value} (h : SG w base M v) (hs : Sp w w' base M M') : SG w' base M' v := by
 obtain ⟨A, n, c, rfl, hn, hz⟩ := h
 refine ⟨A, n, c, rfl, hn, ?_⟩
 rcases hz with hz | ⟨g, ha, hb, ht⟩
 ·exact .inl hz
 ·exact .inr ⟨g, ha, hb, hs.txt g n ht⟩
theorem SG.mono {w : World} {base M M' : Nat} {v : Value} (h : SG w base M v) (hm : M ≤ M') : SG w base M' v := h.sp (Sp.refl hm)
theorem txt_kept {w w' : World} {M g n : Nat} {S : Nat → Prop} (h : Txt w M g n) (hk : Kept w w' S) (hS : ∀ k, S k → ∃ cells q, w.heap[k]? = some (.cells cells q (0, 0)) ∧ q ∉ [9]) : Txt w' M g n := by
 obtain ⟨cur, hg, hc⟩ := h
 refine ⟨cur, Bc hg hk (fun hs => ?_), hc⟩
 obtain ⟨cells, q, h1, h2⟩ := hS g hs
 rw [hg] at h1
 simp only [Option.some.injEq, Obj.cells.injEq] at h1
 exact h2 (by rw [← h1.2.1]; decide)
theorem SG.kept {w w' : World} {base M : Nat} {v : Value} {S : Nat → Prop} (h : SG w base M v) (hk : Kept w w' S) (hS : ∀ k, S k → ∃ cells q, w.heap[k]? = some (.cells cells q (0, 0)) ∧ q ∉ [9]) : SG w' base M v := by
 obtain ⟨A, n, c, rfl, hn, hz⟩ := h
 refine ⟨A, n, c, rfl, hn, ?_⟩
 rcases hz with hz | ⟨g, ha, hb, ht⟩
 ·exact .inl hz
 ·exact .inr ⟨g, ha, hb, txt_kept ht hk hS⟩
theorem SG.of_R {w : World} {base M : Nat} {ok : Nat → Prop} {v : Value} {xs : List ByteArray} (h : Kd.R Kd.string 9 w base ok v xs) (hl : xs.length ≤ 1048576) (hx : ∀ x ∈ xs, x.size ≤ M) : SG w base M v := by
 by_cases h0 : 0 < xs.length
 ·obtain ⟨g, c, rfl, hb, -, cur, hg⟩ := Kd.Gy h h0
  refine ⟨_, _, c, rfl, hl, .inr ⟨g, rfl, hb, cur, hg, fun i hi => ?_⟩⟩
  obtain ⟨ad, ha, f0⟩ := Kd.Ct (Kd.R_reads' h).2.2 (i : Int) (by omega) (by omega)
  injection ha with ha
  subst ha
  rw [Ie xs i hi, Int.toNat_natCast, add_plain] at f0
  exact ⟨xs[i], by rw [← f0]; exact (Ab hg i).symm, hx _ (List.getElem_mem hi)⟩
 ·obtain ⟨A, c, rfl⟩ := Kd.Bd h
  exact ⟨A, _, c, rfl, hl, .inl (by omega)⟩
theorem spoil30 (base M : Nat) (hM : M ≤ 1000000) (v : Value) (w : World) (h : SG w base M v) : Calls Tryz.prog 30 #[v] w fun e w' => e = .returned (.tuple #[]) ∧ Sp w w' base M (M + 1) := by
 obtain ⟨A, n, c, rfl, hn, rfl | ⟨g, rfl, hbg, cur, hg, hc⟩⟩ := h
 ·have HS := Aa.mk (Sp.refl (w := w) (base := base) (Nat.le_succ M))
  go_enter Tryz.func30, Tryz.ntmps30
  go_wp2
  go_loopw [2] (fun v2 wr => v2 = .int .i64 0 ∧ wr = w) (fun v2 _ => 0)
  case atStart => exact ⟨rfl, rfl⟩
  case round =>
   obtain ⟨rfl, rfl⟩ := hrel
   go_wp2
   go_end0
   exact ⟨rfl, HS.out⟩
 ·have HG := Aa.mk hg
  have HC := Lib.hid hc
  have HBG := Aa.mk hbg
  clear hg hc
  go_enter Tryz.func30, Tryz.ntmps30
  go_wp2
  go_loopw [2] (fun v2 wr => ∃ (k : Nat) (cur' : Array Value), v2 = .int .i64 k ∧ k ≤ n ∧ Aa (wr.heap[g]? = some (.cells cur' 9 (0, 0))) ∧ Aa (∀ i, k ≤ i → cur'[i]? = cur[i]?) ∧ Aa (∀ i, i < k → ∃ x : ByteArray, cur'[i]? = some (.string x) ∧ x.size ≤ M + 1) ∧ Aa (Kept w wr (fun b => b = g)) ∧ Aa (Below base w wr)) (fun v2 _ => n - (intOf v2).toNat)
  case atStart => exact ⟨0, cur, rfl, Nat.zero_le _, HG, ⟨fun _ _ => rfl⟩, ⟨fun i hi => absurd hi (Nat.not_lt_zero i)⟩, ⟨Kept.refl _ _⟩, ⟨Below.refl _ _⟩⟩
  case round =>
   obtain ⟨k, cur', rfl, hk, HG', HT, HD, HK, HB⟩ := hrel
   by_cases hlt : k < n
   ·obtain ⟨x, hx, hxs⟩ := HC.out k hlt
    have y0 : wr.cell? ⟨g, k, none⟩ = some (.string x) := by rw [Ab HG'.out k, HT.out k (Nat.le_refl _)]; exact hx
    have y1 := As HG'.out k
    have hsz : (9223372036854775807 < 1 + x.size) = False := eq_false (by omega)
    have p0 : (0 : Int) ≤ (k : Int) := by omega
    have p1 : (k : Int) < (n : Int) := by omega
    have HXS := Aa.mk hxs
    have HX := Aa.mk hx
    clear hx hxs
    go_wp2
    have hks : k < cur'.size := by
     have q := HT.out k (Nat.le_refl _)
     rw [HX.out] at q
     exact (Array.getElem?_eq_some_iff.1 q).1
    refine ⟨⟨k + 1, cur'.setIfInBounds k (.string (⟨#[126]⟩ ++ x)), by go_num, by omega, ⟨Az HG'.out k _ rfl⟩, ⟨fun i hi => ?_⟩, ⟨fun i hi => ?_⟩, ⟨HK.out.setCell (p := ⟨g, k, none⟩) (.inl rfl) _⟩, ⟨HB.out.setCell (p := ⟨g, k, none⟩) HBG.out _⟩⟩, by simp [intOf]; omega⟩
    ·rw [Array.getElem?_setIfInBounds_ne (by omega)]
     exact HT.out i (by omega)
    ·by_cases he : i = k
     ·subst he
      refine ⟨⟨#[126]⟩ ++ x, by rw [Array.getElem?_setIfInBounds_self_of_lt hks], ?_⟩
      rw [ByteArray.size_append]
      have := HXS.out
      show 1 + x.size ≤ M + 1
      omega
     ·rw [Array.getElem?_setIfInBounds_ne (by omega)]
      exact HD.out i (by omega)
   ·obtain rfl : k = n := by omega
    go_wp2
    go_end0
    refine ⟨rfl, HB.out, HK.out.mono (fun b hb => by rw [hb]; exact ⟨cur, HG.out⟩), fun g' n' ht => ?_⟩
    obtain ⟨cu, h1, h2⟩ := ht
    by_cases he : g' = g
    ·subst he
     rw [HG.out] at h1
     simp only [Option.some.injEq, Obj.cells.injEq, and_true] at h1
     subst h1
     refine ⟨cur', HG'.out, fun i hi => ?_⟩
     by_cases hik : i < k
     ·exact HD.out i hik
     ·obtain ⟨x, q1, q2⟩ := h2 i hi
      exact ⟨x, by rw [HT.out i (by omega)]; exact q1, by omega⟩
    ·exact ⟨cu, Bc h1 HK.out he, fun i hi => by obtain ⟨x, q1, q2⟩ := h2 i hi; exact ⟨x, q1, by omega⟩⟩
theorem Sp.alloc {w : World} {base M : Nat} (o : Obj) (hb : base ≤ w.heap.size) : Sp w (w.alloc o) base M (M + 0) :=
 ⟨(Below.refl _ _).alloc hb o, Kept.of_below ((Below.refl _ _).alloc (Nat.le_refl _) o) _, fun g n h => by obtain ⟨cur, h1, h2⟩ := h; exact ⟨cur, Cw h1 o, h2⟩⟩
theorem spoil28 (base M : Nat) (hM : M ≤ 900000) (v0 v1 v2 v3 : Value) (s : ByteArray) (b : Bool) (q : ByteArray) (w : World) (hb : base ≤ w.heap.size) (h0 : SG w base M v0) (h1 : SG w base M v1) (h2 : SG w base M v2) (h3 : SG w base M v3) :
 Calls Tryz.prog 28 #[.agg #[v0, v1, v2, v3, .string s, .bool b, .string q]] w fun e w' => e = .returned (.tuple #[]) ∧ Sp w w' base M (M + 4) := by
 have G0 := Aa.mk h0
 have G1 := Aa.mk h1
 have G2 := Aa.mk h2
 have G3 := Aa.mk h3
 obtain ⟨A0, n0, c0, rfl, -⟩ := h0
 obtain ⟨A1, n1, c1, rfl, -⟩ := h1
 obtain ⟨A2, n2, c2, rfl, -⟩ := h2
 obtain ⟨A3, n3, c3, rfl, -⟩ := h3
 have HSa := Aa.mk (Sp.alloc (M := M) (.cells #[.slice A0 n0 c0, .slice A1 n1 c1, .slice A2 n2 c2, .slice A3 n3 c3, .string s, .bool b, .string q] 42) hb)
 have HXa := Aa.mk (Cv w (.cells #[.slice A0 n0 c0, .slice A1 n1 c1, .slice A2 n2 c2, .slice A3 n3 c3, .string s, .bool b, .string q] 42))
 have H0 := Lib.hid (fun (W : World) (hs : Sp w W base M (M + 0)) => spoil30 base (M + 0) (by omega) (.slice A0 n0 c0) W (G0.out.sp hs))
 have H1 := Lib.hid (fun (W : World) (hs : Sp w W base M (M + 1)) => spoil30 base (M + 1) (by omega) (.slice A1 n1 c1) W (G1.out.sp hs))
 have H2 := Lib.hid (fun (W : World) (hs : Sp w W base M (M + 2)) => spoil30 base (M + 2) (by omega) (.slice A2 n2 c2) W (G2.out.sp hs))
 have H3 := Lib.hid (fun (W : World) (hs : Sp w W base M (M + 3)) => spoil30 base (M + 3) (by omega) (.slice A3 n3 c3) W (G3.out.sp hs))
 go_enter Tryz.func28, Tryz.ntmps28
 go_wp2_with (first | (go_at_call 30; (with_reducible refine (H0.out _ HSa.out).mono ?_); rintro e w1 ⟨rfl, hs⟩; have HX1 := Aa.mk (hs.blk HXa.out (by decide)); have HS1 := Aa.mk (HSa.out.trans hs); have x1 : w1.cell? ⟨w.heap.size, 1, none⟩ = some (.slice A1 n1 c1) := Ab HX1.out 1; clear hs) | (go_at_call 30; (with_reducible refine (H1.out _ HS1.out).mono ?_); rintro e w2 ⟨rfl, hs⟩; have HX2 := Aa.mk (hs.blk HX1.out (by decide)); have HS2 := Aa.mk (HS1.out.trans hs); have x2 : w2.cell? ⟨w.heap.size, 2, none⟩ = some (.slice A2 n2 c2) := Ab HX2.out 2; clear hs) | (go_at_call 30; (with_reducible refine (H2.out _ HS2.out).mono ?_); rintro e w3 ⟨rfl, hs⟩; have HX3 := Aa.mk (hs.blk HX2.out (by decide)); have HS3 := Aa.mk (HS2.out.trans hs); have x3 : w3.cell? ⟨w.heap.size, 3, none⟩ = some (.slice A3 n3 c3) := Ab HX3.out 3; clear hs) | (go_at_call 30; (with_reducible refine (H3.out _ HS3.out).mono ?_); rintro e w4 ⟨rfl, hs⟩; have HX4 := Aa.mk (hs.blk HX3.out (by decide)); have HS4 := Aa.mk (HS3.out.trans hs); have x4 : w4.cell? ⟨w.heap.size, 3, none⟩ = some (.slice A3 n3 c3) := Ab HX4.out 3; clear hs))
 go_end0
 exact ⟨rfl, HS4.out⟩
def EG (w : World) (base M C g n : Nat) : Prop := ∀ i, i < n → ∃ (A0 : Option Addr) (n0 c0 : Nat) (A1 : Option Addr) (n1 c1 : Nat) (A2 : Option Addr) (n2 c2 : Nat) (A3 : Option Addr) (n3 c3 : Nat) (s : ByteArray) (b : Bool) (q : ByteArray), (w.cell? ⟨g, i * 7, none⟩ = some (.slice A0 n0 c0) ∧ w.cell? ⟨g, i * 7 + 1, none⟩ = some (.slice A1 n1 c1) ∧ w.cell? ⟨g, i * 7 + 2, none⟩ = some (.slice A2 n2 c2) ∧ w.cell? ⟨g, i * 7 + 3, none⟩ = some (.slice A3 n3 c3) ∧ w.cell? ⟨g, i * 7 + 4, none⟩ = some (.string s) ∧ w.cell? ⟨g, i * 7 + 5, none⟩ = some (.bool b) ∧ w.cell? ⟨g, i * 7 + 6, none⟩ = some (.string q)) ∧ (SG w base M (.slice A0 n0 c0) ∧ SG w base M (.slice A1 n1 c1) ∧ SG w base M (.slice A2 n2 c2) ∧ SG w base M (.slice A3 n3 c3)) ∧ s.size ≤ C
theorem EG.sp {w w' : World} {base M M' C g n : Nat} {cur : Array Value} (h : EG w base M C g n) (hg : w.heap[g]? = some (.cells cur 42 (0, 0))) (hs : Sp w w' base M M') : EG w' base M' C g n := fun i hi => by
 obtain ⟨A0, n0, c0, A1, n1, c1, A2, n2, c2, A3, n3, c3, s, b, q, hc, ⟨s0, s1, s2, s3⟩, hz⟩ := h i hi
 have hc' : ∀ o u, w.cell? ⟨g, o, none⟩ = some u → w'.cell? ⟨g, o, none⟩ = some u := fun o u q => by rw [Ab (hs.blk hg (by decide)), ← Ab hg]; exact q
 exact ⟨A0, n0, c0, A1, n1, c1, A2, n2, c2, A3, n3, c3, s, b, q, ⟨hc' _ _ hc.1, hc' _ _ hc.2.1, hc' _ _ hc.2.2.1, hc' _ _ hc.2.2.2.1, hc' _ _ hc.2.2.2.2.1, hc' _ _ hc.2.2.2.2.2.1, hc' _ _ hc.2.2.2.2.2.2⟩, ⟨s0.sp hs, s1.sp hs, s2.sp hs, s3.sp hs⟩, hz⟩
theorem EG.put {w : World} {base M C g n k : Nat} {cur : Array Value} {x : ByteArray} {u : Value} (h : EG w base M C g n) (hg : w.heap[g]? = some (.cells cur 42 (0, 0))) (hu : w.cell? ⟨g, k * 7 + 4, none⟩ = some u) (hx : x.size ≤ C + 1) : EG (w.setCell ⟨g, k * 7 + 4, none⟩ (.string x)) base M (C + 1) g n := fun i hi => by
 obtain ⟨A0, n0, c0, A1, n1, c1, A2, n2, c2, A3, n3, c3, s, b, q, hc, ⟨s0, s1, s2, s3⟩, hz⟩ := h i hi
 have hk := Bm w g (k * 7 + 4) (.string x)
 have hS : ∀ j, j = g → ∃ cells q, w.heap[j]? = some (.cells cells q (0, 0)) ∧ q ∉ [9] := fun j hj => by subst hj; exact ⟨cur, 42, hg, by decide⟩
 have hc' : ∀ o u, o ≠ k * 7 + 4 → w.cell? ⟨g, o, none⟩ = some u → (w.setCell ⟨g, k * 7 + 4, none⟩ (.string x)).cell? ⟨g, o, none⟩ = some u := fun o u ho q => by rw [World.cell?_setCell_other _ _ _ _ (fun e => by injection e with _ e; exact ho e.symm)]; exact q
 obtain ⟨y, hy, hys⟩ : ∃ y : ByteArray, (w.setCell ⟨g, k * 7 + 4, none⟩ (.string x)).cell? ⟨g, i * 7 + 4, none⟩ = some (.string y) ∧ y.size ≤ C + 1 := by
  by_cases he : i = k
  ·subst he; exact ⟨x, World.cell?_setCell_same _ _ _ hu, hx⟩
  ·exact ⟨s, hc' _ _ (by omega) hc.2.2.2.2.1, by omega⟩
 exact ⟨A0, n0, c0, A1, n1, c1, A2, n2, c2, A3, n3, c3, y, b, q, ⟨hc' _ _ (by omega) hc.1, hc' _ _ (by omega) hc.2.1, hc' _ _ (by omega) hc.2.2.1, hc' _ _ (by omega) hc.2.2.2.1, hy, hc' _ _ (by omega) hc.2.2.2.2.2.1, hc' _ _ (by omega) hc.2.2.2.2.2.2⟩, ⟨s0.kept hk hS, s1.kept hk hS, s2.kept hk hS, s3.kept hk hS⟩, hys⟩
structure GSz (edges : List S42) (pools : List S44) (defs : List ByteArray) : Prop where
 elen : edges.length ≤ 16
 plen : pools.length ≤ 16
 dlen : defs.length ≤ 16
 dx : ∀ x ∈ defs, x.size ≤ 16
 e0 : ∀ e ∈ edges, e.f0.length ≤ 16 ∧ ∀ x ∈ e.f0, x.size ≤ 16
 e1 : ∀ e ∈ edges, e.f1.length ≤ 16 ∧ ∀ x ∈ e.f1, x.size ≤ 16
 e2 : ∀ e ∈ edges, e.f2.length ≤ 16 ∧ ∀ x ∈ e.f2, x.size ≤ 16
 e3 : ∀ e ∈ edges, e.f3.length ≤ 16 ∧ ∀ x ∈ e.f3, x.size ≤ 16
 e4 : ∀ e ∈ edges, e.f4.size ≤ 256
theorem EG.of_R {w : World} {base g c : Nat} {ok : Nat → Prop} {edges : List S42} {pools : List S44} {defs : List ByteArray} (h : Kd.R k42 42 w base ok (.slice (some ⟨g, 0, none⟩) edges.length c) edges) (hz : GSz edges pools defs) : EG w base 16 256 g edges.length := fun i hi => by
 obtain ⟨cs, -, hM, hc, -⟩ := Kd.R_elem h z42 (i : Int) (by omega) (by omega)
 rw [Int.toNat_natCast, List.getD_eq_getElem?_getD, List.getElem?_eq_getElem hi] at hM
 rw [Int.toNat_natCast] at hc
 have hm := List.getElem_mem hi
 change k42.M w base _ (edges[i]) cs at hM
 generalize edges[i] = e at hM hm
 obtain ⟨v0, v1, v2, v3, rfl, r0, r1, r2, r3⟩ := k42_openM hM
 have s0 := SG.of_R r0 (by have := (hz.e0 e hm).1; omega) (hz.e0 e hm).2
 have s1 := SG.of_R r1 (by have := (hz.e1 e hm).1; omega) (hz.e1 e hm).2
 have s2 := SG.of_R r2 (by have := (hz.e2 e hm).1; omega) (hz.e2 e hm).2
 have s3 := SG.of_R r3 (by have := (hz.e3 e hm).1; omega) (hz.e3 e hm).2
 obtain ⟨A0, c0, rfl⟩ := Kd.Bd r0
 obtain ⟨A1, c1, rfl⟩ := Kd.Bd r1
 obtain ⟨A2, c2, rfl⟩ := Kd.Bd r2
 obtain ⟨A3, c3, rfl⟩ := Kd.Bd r3
 exact ⟨A0, _, c0, A1, _, c1, A2, _, c2, A3, _, c3, e.f4, e.f5, e.f6, ⟨hc 0 _ rfl, hc 1 _ rfl, hc 2 _ rfl, hc 3 _ rfl, hc 4 _ rfl, hc 5 _ rfl, hc 6 _ rfl⟩, ⟨s0, s1, s2, s3⟩, hz.e4 e hm⟩
theorem pools_spoil : ∀ (d k : Nat) (i : Nat) (xs : List S44), i + d = xs.length → xs.length ≤ 16 → d < k → ∃ r, Bi.l0 k xs (i : Int) = some r
 | _, 0, _, _, _, _, h => absurd h (by omega)
 | 0, k + 1, i, xs, h, hl, _ => ⟨xs, by unfold Bi.l0; rw [if_neg (by omega)]⟩
 | d + 1, k + 1, i, xs, h, hl, hk => by
  unfold Bi.l0
  rw [if_pos (by omega), if_pos (by omega), show wrap64 ((i : Int) + 1) = ((i + 1 : Nat) : Int) by unfold wrap64; omega]
  exact pools_spoil d k (i + 1) _ (by rw [List.length_set]; omega) (by rw [List.length_set]; exact hl) (by omega)
theorem spoil14 (w0 : World) (okE okP okD : Nat → Prop) (vE vP vD : Value) (edges : List S42) (pools : List S44) (defs : List ByteArray) (w : World) (hB : Below w0.heap.size w0 w) (hE : Kd.R k42 42 w w0.heap.size okE vE edges) (hP : Kd.R k44 44 w w0.heap.size okP vP pools) (hD : Kd.R Kd.string 9 w w0.heap.size okD vD defs) (hz : GSz edges pools defs) :
 Calls Tryz.prog 14 #[.agg #[vE, vP, vD]] w fun e w' => e = .returned (.tuple #[]) ∧ Below w0.heap.size w0 w' := by
 obtain ⟨AE, cE, rfl⟩ := Kd.Bd hE
 obtain ⟨AP, cP, rfl⟩ := Kd.Bd hP
 obtain ⟨AD, cD, rfl⟩ := Kd.Bd hD
 obtain ⟨gE, hAE, hEG⟩ : ∃ gE, (0 < edges.length → AE = some ⟨gE, 0, none⟩ ∧ w0.heap.size ≤ gE ∧ ∃ cur, w.heap[gE]? = some (.cells cur 42 (0, 0))) ∧ EG w w0.heap.size 16 256 gE edges.length := by
  by_cases h0 : 0 < edges.length
  ·obtain ⟨g, c, hv, hb, -, cur, hg⟩ := Kd.Gy hE h0
   injection hv with q1 q2 q3
   subst q1
   subst q3
   exact ⟨g, fun _ => ⟨rfl, hb, cur, hg⟩, EG.of_R hE hz⟩
  ·exact ⟨0, fun h => absurd h h0, fun i hi => absurd hi (by omega)⟩
 have hSD := SG.of_R hD (by have := hz.dlen; omega) hz.dx
 have hbw := hB.size
 have hba := (Below.refl w.heap.size w).alloc (Nat.le_refl _) (.cells #[.slice AE edges.length cE, .slice AP pools.length cP, .slice AD defs.length cD] 26)
 have HXa := Aa.mk (Cv w (.cells #[.slice AE edges.length cE, .slice AP pools.length cP, .slice AD defs.length cD] 26))
 have HBa := Aa.mk (hB.trans (hba.mono hbw))
 have HPa := Aa.mk (Kd.De (ok' := fun _ => True) (Kd.Bj hP hba) (fun _ _ => trivial))
 have HSa := Aa.mk (Sp.alloc (M := 16) (.cells #[.slice AE edges.length cE, .slice AP pools.length cP, .slice AD defs.length cD] 26) hbw)
 have HDa := Aa.mk (hSD.sp HSa.out)
 have HCa : Aa (0 < edges.length → AE = some ⟨gE, 0, none⟩ ∧ w0.heap.size ≤ gE ∧ ∃ cur, (w.alloc (.cells #[.slice AE edges.length cE, .slice AP pools.length cP, .slice AD defs.length cD] 26)).heap[gE]? = some (.cells cur 42 (0, 0))) := ⟨fun h => by obtain ⟨h1, h2, cur, h3⟩ := hAE h; exact ⟨h1, h2, cur, Cw h3 _⟩⟩
 have HEa : Aa (EG (w.alloc (.cells #[.slice AE edges.length cE, .slice AP pools.length cP, .slice AD defs.length cD] 26)) w0.heap.size 16 256 gE edges.length) := ⟨fun i hi => by obtain ⟨_, _, cur, hc⟩ := hAE (by omega); exact hEG.sp hc HSa.out i hi⟩
 have hmE := Hb (Kd.R_reads' hE).2.2
 have hmP := Hb (Kd.R_reads' hP).2.2
 have HPL := Aa.mk hz.plen
 have hel := hz.elen
 clear hAE hEG hSD hE hP hD hba HSa hB hz
 obtain ⟨X, hX⟩ : ∃ X, w.heap.size = X := ⟨_, rfl⟩
 have HXX := Aa.mk hX
 rw [hX] at HXa
 go_enter Tryz.func14, Tryz.ntmps14
 go_wp2_with fail
 clear hX
 generalize w.alloc (.cells #[.slice AE edges.length cE, .slice AP pools.length cP, .slice AD defs.length cD] 26) = wa at HXa HBa HPa HDa HCa HEa ⊢
 go_loopw [2] (fun v2 wr => ∃ k : Nat, v2 = .int .i64 k ∧ k ≤ edges.length ∧ Aa (wr.heap[X]? = some (.cells #[.slice AE edges.length cE, .slice AP pools.length cP, .slice AD defs.length cD] 26 (0, 0))) ∧ Aa (0 < edges.length → AE = some ⟨gE, 0, none⟩ ∧ w0.heap.size ≤ gE ∧ ∃ cur, wr.heap[gE]? = some (.cells cur 42 (0, 0))) ∧ Aa (EG wr w0.heap.size (16 + 4 * k) (256 + k) gE edges.length) ∧ Aa (SG wr w0.heap.size (16 + 4 * k) (.slice AD defs.length cD)) ∧ Aa (Kd.R k44 44 wr w0.heap.size (fun _ => True) (.slice AP pools.length cP) pools) ∧ Aa (Below w0.heap.size w0 wr)) (fun v2 _ => edges.length - (intOf v2).toNat)
 case atStart => exact ⟨0, rfl, Nat.zero_le _, HXa, HCa, HEa, HDa, HPa, HBa⟩
 case round =>
  obtain ⟨k, rfl, hk, HX, HC, HE, HD, HP, HB⟩ := hrel
  have x0 : wr.cell? ⟨X, 0, none⟩ = some (.slice AE edges.length cE) := Ab HX.out 0
  by_cases hlt : k < edges.length
  ·obtain ⟨hAE, hgb, cur, hg⟩ := HC.out (by omega)
   subst hAE
   obtain ⟨A0, n0, c0, A1, n1, c1, A2, n2, c2, A3, n3, c3, s, b, q, ⟨f0, f1, f2, f3, f4, f5, f6⟩, ⟨s0, s1, s2, s3⟩, hsz⟩ := HE.out k hlt
   have H28 := Lib.hid (spoil28 w0.heap.size (16 + 4 * k) (by omega) _ _ _ _ s b q wr HB.out.size s0 s1 s2 s3)
   have HG := Aa.mk hg
   have HSZ := Aa.mk hsz
   have p0 : (0 : Int) ≤ (k : Int) := by omega
   have p1 : (k : Int) < (edges.length : Int) := by omega
   have hsm : (9223372036854775807 < s.size + 1) = False := eq_false (by omega)
   have HGB := Aa.mk hgb
   clear s0 s1 s2 s3 hsz hg hgb
   go_upto_region 5 with (first | (go_at_call 28; refine H28.out.mono ?_; rintro e w3 ⟨rfl, hs⟩; have HS3 := Aa.mk hs; have HG3 := Aa.mk (hs.blk HG.out (by decide)); have HX3 := Aa.mk (hs.blk HX.out (by decide)); have y0 : w3.cell? ⟨X, 0, none⟩ = some (.slice (some ⟨gE, 0, none⟩) edges.length cE) := Ab HX3.out 0; have y4 : w3.cell? ⟨gE, k * 7 + 4, none⟩ = some (.string s) := (by rw [Ab HG3.out, ← Ab HG.out]; exact f4); have z4 := As HG3.out (k * 7 + 4); clear hs))
   clear f0 f1 f2 f3 f4 f5 f6 x0
   go_region
   go_wp2_with (fail)
   have hk1 := Bm w3 gE (k * 7 + 4) (.string (s ++ ⟨#[63]⟩))
   have hS1 : ∀ (l : List Nat), 42 ∉ l → ∀ j, j = gE → ∃ cells q, w3.heap[j]? = some (.cells cells q (0, 0)) ∧ q ∉ l := fun l hl j hj => by subst hj; exact ⟨cur, 42, HG3.out, hl⟩
   have hXg : ¬ X = gE := fun e => Du HX3.out HG3.out (by decide) e
   have hE' : EG (w3.setCell ⟨gE, k * 7 + 4, none⟩ (.string (s ++ ⟨#[63]⟩))) w0.heap.size (16 + 4 * (k + 1)) (256 + (k + 1)) gE edges.length := by
    rw [show 16 + 4 * (k + 1) = 16 + 4 * k + 4 by omega, show 256 + (k + 1) = 256 + k + 1 by omega]
    refine (HE.out.sp HG.out HS3.out).put HG3.out y4 ?_
    rw [ByteArray.size_append]
    have := HSZ.out
    show s.size + 1 ≤ _
    omega
   have hD' : SG (w3.setCell ⟨gE, k * 7 + 4, none⟩ (.string (s ++ ⟨#[63]⟩))) w0.heap.size (16 + 4 * (k + 1)) (.slice AD defs.length cD) := by
    rw [show 16 + 4 * (k + 1) = 16 + 4 * k + 4 by omega]
    exact (HD.out.sp HS3.out).kept hk1 (hS1 _ (by decide))
   exact ⟨⟨k + 1, by go_num, by omega, ⟨Bc HX3.out hk1 hXg⟩, ⟨fun _ => ⟨by trivial, HGB.out, _, Az HG3.out _ _ rfl⟩⟩, ⟨hE'⟩, ⟨hD'⟩, ⟨Bf (Bf HP.out HS3.out.kept (fun j ⟨cells, hc⟩ => ⟨cells, 9, hc, by decide⟩)) hk1 (hS1 _ (by decide))⟩, ⟨((HB.out.trans HS3.out.below).setCell (p := ⟨gE, k * 7 + 4, none⟩) HGB.out _).drew⟩⟩, by simp [intOf]; omega⟩
  ·obtain rfl : k = edges.length := by omega
   have x1 : wr.cell? ⟨X, 1, none⟩ = some (.slice AP pools.length cP) := Ab HX.out 1
   obtain ⟨r, hr⟩ := pools_spoil pools.length 17 0 pools (by omega) HPL.out (by have := HPL.out; omega)
   have H29 := Lib.hid (Bi.calls 17 (fun j => ∃ cells, wr.heap[j]? = some (.cells cells 44 (0, 0))) _ pools r w0 wr HB.out (Kd.De (Kd.Ex HP.out) (fun j hj => by
    obtain ⟨_, _, _, q, hq, cells, hc⟩ := hj
    obtain rfl : q = 44 := List.mem_singleton.1 hq
    exact ⟨cells, hc⟩)) hr)
   have hXk : ¬ ∃ cells, wr.heap[X]? = some (.cells cells 44 (0, 0)) := fun ⟨cells, hc⟩ => by
    rw [HX.out] at hc
    simp at hc
   have H30 := Lib.hid (fun (W : World) (h : SG W w0.heap.size (16 + 4 * edges.length) (.slice AD defs.length cD)) => spoil30 w0.heap.size (16 + 4 * edges.length) (by omega) _ W h)
   clear hr
   go_wp2_with (first | (go_at_call 29; refine H29.out.mono ?_; rintro e w5 ⟨rfl, -, hb5, hk5⟩; have HD5 := Aa.mk (HD.out.kept hk5 (fun j ⟨cells, hc⟩ => ⟨cells, 44, hc, (by decide)⟩)); have HB5 := Aa.mk hb5; have x2 : w5.cell? ⟨X, 2, none⟩ = some (.slice AD defs.length cD) := Ab (Bc HX.out hk5 hXk) 2; clear hb5 hk5) | (go_at_call 30; refine (H30.out _ HD5.out).mono ?_; rintro e w6 ⟨rfl, hs⟩; have HS6 := Aa.mk hs; clear hs))
   go_end0
   exact ⟨rfl, HB5.out.trans HS6.out.below⟩
theorem wrapN (i : Nat) (h : i ≤ 4611686018427387904) : wrap64 ((i : Int) + 1) = ((i + 1 : Nat) : Int) := by unfold wrap64; omega
theorem same_texts_go (l : List ByteArray) (hl : l.length ≤ 1000000000) : ∀ (d i k : Nat), i + d = l.length → d < k → Bq.l0 k l l (i : Int) = some true
 | _, _, 0, _, h => absurd h (by omega)
 | 0, i, k + 1, h, _ => by
  unfold Bq.l0
  rw [if_neg (by omega)]
 | d + 1, i, k + 1, h, hk => by
  unfold Bq.l0
  rw [if_pos (by omega), if_pos (by omega), if_pos (by omega), if_pos rfl, wrapN i (by omega)]
  exact same_texts_go l hl d (i + 1) k (by omega) (by omega)
theorem same_pools_go (l : List S44) (hl : l.length ≤ 1000000000) : ∀ (d i k : Nat), i + d = l.length → d < k → Bs.l0 k l l (i : Int) = some true
 | _, _, 0, _, h => absurd h (by omega)
 | 0, i, k + 1, h, _ => by
  unfold Bs.l0
  rw [if_neg (by omega)]
 | d + 1, i, k + 1, h, hk => by
  unfold Bs.l0
  rw [if_pos (by omega), if_pos (by omega), if_pos (by omega), if_neg (by simp), wrapN i (by omega)]
  exact same_pools_go l hl d (i + 1) k (by omega) (by omega)
theorem same27 (l : List ByteArray) (hl : l.length ≤ 1000) (A B : Option Addr) (c d : Nat) (W : World) (h1 : Kd.C Kd.string W A l.length l ∧ l.length ≤ c) (h2 : Kd.C Kd.string W B l.length l ∧ l.length ≤ d) : Calls Tryz.prog 27 #[.slice A l.length c, .slice B l.length d] W fun e w' => e = .returned (.bool true) ∧ Ch W w' :=
 Bq.calls 2000 A c l B d l true W h1.1 h1.2 h2.1 h2.2 (by unfold Bq.f; rw [if_pos rfl]; exact same_texts_go l (by omega) l.length 0 2000 (by omega) (by omega))
theorem same26 (l : List S44) (hl : l.length ≤ 1000) (A B : Option Addr) (c d : Nat) (W : World) (h1 : Kd.C k44 W A l.length l ∧ l.length ≤ c) (h2 : Kd.C k44 W B l.length l ∧ l.length ≤ d) : Calls Tryz.prog 26 #[.slice A l.length c, .slice B l.length d] W fun e w' => e = .returned (.bool true) ∧ Ch W w' :=
 Bs.calls 2000 A c l B d l true W h1.1 h1.2 h2.1 h2.2 (by unfold Bs.f; rw [if_pos rfl]; exact same_pools_go l (by omega) l.length 0 2000 (by omega) (by omega))
theorem same25 (f0 f1 f2 f3 : List ByteArray) (f4 : ByteArray) (f5 : Bool) (f6 : ByteArray) (A0 A1 A2 A3 B0 B1 B2 B3 : Option Addr) (c0 c1 c2 c3 d0 d1 d2 d3 : Nat) (w : World) (hl0 : f0.length ≤ 1000) (hl1 : f1.length ≤ 1000) (hl2 : f2.length ≤ 1000) (hl3 : f3.length ≤ 1000) (ha0 : Kd.C Kd.string w A0 f0.length f0 ∧ f0.length ≤ c0) (hb0 : Kd.C Kd.string w B0 f0.length f0 ∧ f0.length ≤ d0) (ha1 : Kd.C Kd.string w A1 f1.length f1 ∧ f1.length ≤ c1) (hb1 : Kd.C Kd.string w B1 f1.length f1 ∧ f1.length ≤ d1) (ha2 : Kd.C Kd.string w A2 f2.length f2 ∧ f2.length ≤ c2) (hb2 : Kd.C Kd.string w B2 f2.length f2 ∧ f2.length ≤ d2) (ha3 : Kd.C Kd.string w A3 f3.length f3 ∧ f3.length ≤ c3) (hb3 : Kd.C Kd.string w B3 f3.length f3 ∧ f3.length ≤ d3) :
 Calls Tryz.prog 25 #[.agg #[.slice A0 f0.length c0, .slice A1 f1.length c1, .slice A2 f2.length c2, .slice A3 f3.length c3, .string f4, .bool f5, .string f6], .agg #[.slice B0 f0.length d0, .slice B1 f1.length d1, .slice B2 f2.length d2, .slice B3 f3.length d3, .string f4, .bool f5, .string f6]] w fun e w' => e = .returned (.bool true) ∧ Below w.heap.size w w' := by
 have HA := Aa.mk (((Below.refl w.heap.size w).alloc (Nat.le_refl _) (.cells #[.slice A0 f0.length c0, .slice A1 f1.length c1, .slice A2 f2.length c2, .slice A3 f3.length c3, .string f4, .bool f5, .string f6] 42)).alloc (by simp) (.cells #[.slice B0 f0.length d0, .slice B1 f1.length d1, .slice B2 f2.length d2, .slice B3 f3.length d3, .string f4, .bool f5, .string f6] 42))
 have hX := Cw (Cv w (.cells #[.slice A0 f0.length c0, .slice A1 f1.length c1, .slice A2 f2.length c2, .slice A3 f3.length c3, .string f4, .bool f5, .string f6] 42)) (.cells #[.slice B0 f0.length d0, .slice B1 f1.length d1, .slice B2 f2.length d2, .slice B3 f3.length d3, .string f4, .bool f5, .string f6] 42)
 have hY := Cv (w.alloc (.cells #[.slice A0 f0.length c0, .slice A1 f1.length c1, .slice A2 f2.length c2, .slice A3 f3.length c3, .string f4, .bool f5, .string f6] 42)) (.cells #[.slice B0 f0.length d0, .slice B1 f1.length d1, .slice B2 f2.length d2, .slice B3 f3.length d3, .string f4, .bool f5, .string f6] 42)
 rw [show (w.alloc (.cells #[.slice A0 f0.length c0, .slice A1 f1.length c1, .slice A2 f2.length c2, .slice A3 f3.length c3, .string f4, .bool f5, .string f6] 42)).heap.size = w.heap.size + 1 by simp] at hY
 obtain ⟨w2, hw2⟩ : ∃ q, ((w.alloc (.cells #[.slice A0 f0.length c0, .slice A1 f1.length c1, .slice A2 f2.length c2, .slice A3 f3.length c3, .string f4, .bool f5, .string f6] 42)).alloc (.cells #[.slice B0 f0.length d0, .slice B1 f1.length d1, .slice B2 f2.length d2, .slice B3 f3.length d3, .string f4, .bool f5, .string f6] 42)) = q := ⟨_, rfl⟩
 rw [hw2] at HA hX hY
 have H : ∀ n, Calls Tryz.prog 27 #[.slice A0 f0.length c0, .slice B0 f0.length d0] (w2.drewN n) (fun e w' => e = .returned (.bool true) ∧ ∃ m, w' = w2.drewN m) ∧ Calls Tryz.prog 27 #[.slice A1 f1.length c1, .slice B1 f1.length d1] (w2.drewN n) (fun e w' => e = .returned (.bool true) ∧ ∃ m, w' = w2.drewN m) ∧ Calls Tryz.prog 27 #[.slice A2 f2.length c2, .slice B2 f2.length d2] (w2.drewN n) (fun e w' => e = .returned (.bool true) ∧ ∃ m, w' = w2.drewN m) ∧ Calls Tryz.prog 27 #[.slice A3 f3.length c3, .slice B3 f3.length d3] (w2.drewN n) (fun e w' => e = .returned (.bool true) ∧ ∃ m, w' = w2.drewN m) := fun n => by
  have hb := HA.out.trans (((Ch.mk ⟨n, rfl⟩ : Ch w2 (w2.drewN n)).below).mono HA.out.size)
  exact ⟨Calls.quiet_of ((same27 f0 hl0 A0 B0 c0 d0 _ ⟨Kd.Bb ha0.1 hb, ha0.2⟩ ⟨Kd.Bb hb0.1 hb, hb0.2⟩).mono (fun e w' q => ⟨q.1, q.2.out⟩)), Calls.quiet_of ((same27 f1 hl1 A1 B1 c1 d1 _ ⟨Kd.Bb ha1.1 hb, ha1.2⟩ ⟨Kd.Bb hb1.1 hb, hb1.2⟩).mono (fun e w' q => ⟨q.1, q.2.out⟩)), Calls.quiet_of ((same27 f2 hl2 A2 B2 c2 d2 _ ⟨Kd.Bb ha2.1 hb, ha2.2⟩ ⟨Kd.Bb hb2.1 hb, hb2.2⟩).mono (fun e w' q => ⟨q.1, q.2.out⟩)), Calls.quiet_of ((same27 f3 hl3 A3 B3 c3 d3 _ ⟨Kd.Bb ha3.1 hb, ha3.2⟩ ⟨Kd.Bb hb3.1 hb, hb3.2⟩).mono (fun e w' q => ⟨q.1, q.2.out⟩))⟩
 have H0 := Lib.hid (show Calls Tryz.prog 27 #[.slice A0 f0.length c0, .slice B0 f0.length d0] w2 (fun e w' => e = .returned (.bool true) ∧ ∃ m, w' = w2.drewN m) from (H 0).1)
 have x0 : w2.cell? ⟨w.heap.size, 0, none⟩ = some (.slice A0 f0.length c0) := Ab hX 0
 have x1 : w2.cell? ⟨w.heap.size, 1, none⟩ = some (.slice A1 f1.length c1) := Ab hX 1
 have x2 : w2.cell? ⟨w.heap.size, 2, none⟩ = some (.slice A2 f2.length c2) := Ab hX 2
 have x3 : w2.cell? ⟨w.heap.size, 3, none⟩ = some (.slice A3 f3.length c3) := Ab hX 3
 have x4 : w2.cell? ⟨w.heap.size, 4, none⟩ = some (.string f4) := Ab hX 4
 have x5 : w2.cell? ⟨w.heap.size, 5, none⟩ = some (.bool f5) := Ab hX 5
 have x6 : w2.cell? ⟨w.heap.size, 6, none⟩ = some (.string f6) := Ab hX 6
 have y0 : w2.cell? ⟨w.heap.size + 1, 0, none⟩ = some (.slice B0 f0.length d0) := Ab hY 0
 have y1 : w2.cell? ⟨w.heap.size + 1, 1, none⟩ = some (.slice B1 f1.length d1) := Ab hY 1
 have y2 : w2.cell? ⟨w.heap.size + 1, 2, none⟩ = some (.slice B2 f2.length d2) := Ab hY 2
 have y3 : w2.cell? ⟨w.heap.size + 1, 3, none⟩ = some (.slice B3 f3.length d3) := Ab hY 3
 have y4 : w2.cell? ⟨w.heap.size + 1, 4, none⟩ = some (.string f4) := Ab hY 4
 have y5 : w2.cell? ⟨w.heap.size + 1, 5, none⟩ = some (.bool f5) := Ab hY 5
 have y6 : w2.cell? ⟨w.heap.size + 1, 6, none⟩ = some (.string f6) := Ab hY 6
 have e4 : (f4.toList == f4.toList) = true := beq_self_eq_true _
 have e5 : (f5 == f5) = true := beq_self_eq_true _
 have e6 : (f6.toList == f6.toList) = true := beq_self_eq_true _
 have HH := Lib.hid H
 clear hX hY H ha0 hb0 ha1 hb1 ha2 hb2 ha3 hb3
 have HW2 := Lib.hid hw2
 clear hw2
 go_enter Tryz.func25, Tryz.ntmps25
 go_upto_region 1 with (fail)
 rw [HW2.out]
 go_wp2_with (first | (go_at_call 27; with_reducible refine H0.out.mono ?_; rintro x w3 ⟨rfl, ⟨n3, rfl⟩⟩) | (go_at_call 27; with_reducible refine (HH.out _).2.1.mono ?_; rintro x w3 ⟨rfl, ⟨n4, rfl⟩⟩) | (go_at_call 27; with_reducible refine (HH.out _).2.2.1.mono ?_; rintro x w3 ⟨rfl, ⟨n5, rfl⟩⟩) | (go_at_call 27; with_reducible refine (HH.out _).2.2.2.mono ?_; rintro x w3 ⟨rfl, ⟨n6, rfl⟩⟩))
 go_ret
 exact ⟨rfl, HA.out.trans (((Ch.mk ⟨n6, rfl⟩ : Ch w2 (w2.drewN n6)).below).mono HA.out.size)⟩
theorem lens_rd {l : List S42} (hl : ∀ e ∈ l, e.f0.length ≤ 1000 ∧ e.f1.length ≤ 1000 ∧ e.f2.length ≤ 1000 ∧ e.f3.length ≤ 1000) (k : Nat) (hk : k < l.length) : (Fb l (k : Int)).f0.length ≤ 1000 ∧ (Fb l (k : Int)).f1.length ≤ 1000 ∧ (Fb l (k : Int)).f2.length ≤ 1000 ∧ (Fb l (k : Int)).f3.length ≤ 1000 := by
 have : Fb l (k : Int) = l[k] := by simp [Fb, List.getD_eq_getElem?_getD, hk]
 rw [this]
 exact hl _ (List.getElem_mem hk)
theorem same12 (l : List S42) (ps : List S44) (ds : List ByteArray) (hl : ∀ e ∈ l, e.f0.length ≤ 1000 ∧ e.f1.length ≤ 1000 ∧ e.f2.length ≤ 1000 ∧ e.f3.length ≤ 1000) (hp : ps.length ≤ 1000) (hd : ds.length ≤ 1000) (A0 A1 A2 B0 B1 B2 : Option Addr) (c0 c1 c2 d0 d1 d2 : Nat) (w : World) (ha0 : Kd.C k42 w A0 l.length l) (ha1 : Kd.C k44 w A1 ps.length ps ∧ ps.length ≤ c1) (ha2 : Kd.C Kd.string w A2 ds.length ds ∧ ds.length ≤ c2) (hb0 : Kd.C k42 w B0 l.length l) (hb1 : Kd.C k44 w B1 ps.length ps ∧ ps.length ≤ d1) (hb2 : Kd.C Kd.string w B2 ds.length ds ∧ ds.length ≤ d2) :
 Calls Tryz.prog 12 #[.agg #[.slice A0 l.length c0, .slice A1 ps.length c1, .slice A2 ds.length c2], .agg #[.slice B0 l.length d0, .slice B1 ps.length d1, .slice B2 ds.length d2]] w fun e w' => e = .returned (.bool true) ∧ Below w.heap.size w w' := by
 have HA := Aa.mk (((Below.refl w.heap.size w).alloc (Nat.le_refl _) (.cells #[.slice A0 l.length c0, .slice A1 ps.length c1, .slice A2 ds.length c2] 26)).alloc (by simp) (.cells #[.slice B0 l.length d0, .slice B1 ps.length d1, .slice B2 ds.length d2] 26))
 have hX := Cw (Cv w (.cells #[.slice A0 l.length c0, .slice A1 ps.length c1, .slice A2 ds.length c2] 26)) (.cells #[.slice B0 l.length d0, .slice B1 ps.length d1, .slice B2 ds.length d2] 26)
 have hY := Cv (w.alloc (.cells #[.slice A0 l.length c0, .slice A1 ps.length c1, .slice A2 ds.length c2] 26)) (.cells #[.slice B0 l.length d0, .slice B1 ps.length d1, .slice B2 ds.length d2] 26)
 rw [show (w.alloc (.cells #[.slice A0 l.length c0, .slice A1 ps.length c1, .slice A2 ds.length c2] 26)).heap.size = w.heap.size + 1 by simp] at hY
 obtain ⟨w2, hw2⟩ : ∃ q, ((w.alloc (.cells #[.slice A0 l.length c0, .slice A1 ps.length c1, .slice A2 ds.length c2] 26)).alloc (.cells #[.slice B0 l.length d0, .slice B1 ps.length d1, .slice B2 ds.length d2] 26)) = q := ⟨_, rfl⟩
 rw [hw2] at HA hX hY
 have HX := Aa.mk hX
 have HY := Aa.mk hY
 have HW2 := Lib.hid hw2
 have HL := Lib.hid hl
 have HR := Aa.mk (And.intro ha0 (And.intro ha1 (And.intro ha2 (And.intro hb0 (And.intro hb1 hb2)))))
 have hmx := Hb ha0
 have hne : ((l.length : Int) != (l.length : Int)) = false := bne_self_eq_false _
 have x0 : w2.cell? ⟨w.heap.size, 0, none⟩ = some (.slice A0 l.length c0) := Ab hX 0
 have y0 : w2.cell? ⟨w.heap.size + 1, 0, none⟩ = some (.slice B0 l.length d0) := Ab hY 0
 clear hX hY hw2 hl ha0 ha1 ha2 hb0 hb1 hb2
 go_enter Tryz.func12, Tryz.ntmps12
 go_upto_region 1 with (fail)
 rw [HW2.out]
 go_wp2_with (fail)
 clear x0 y0
 go_loopw [5] (fun v5 wr => ∃ k : Nat, v5 = .int .i64 k ∧ k ≤ l.length ∧ Aa (Below w2.heap.size w2 wr)) (fun v5 _ => l.length - (intOf v5).toNat)
 case atStart => exact ⟨0, rfl, Nat.zero_le _, ⟨Below.refl _ _⟩⟩
 case round =>
  obtain ⟨k, rfl, hk, HB⟩ := hrel
  have HBW := Aa.mk (HA.out.trans (HB.out.mono HA.out.size))
  have HXr := Aa.mk (Aj HX.out HB.out)
  have HYr := Aa.mk (Aj HY.out HB.out)
  have x0 : wr.cell? ⟨w.heap.size, 0, none⟩ = some (.slice A0 l.length c0) := Ab HXr.out 0
  by_cases hlt : k < l.length
  ·obtain ⟨q0, q1, q2, q3⟩ := lens_rd HL.out k hlt
   obtain ⟨ad, a0, e0, a1, e1, a2, e2, a3, e3, rfl, f0, f1, f2, f3, f4, f5, f6, r0, s0, r1, s1, r2, s2, r3, s3⟩ := at_T42 (Kd.Bb HR.out.1 HBW.out) (k : Int) (by omega) (by omega)
   obtain ⟨bd, b0, g0, b1, g1, b2, g2, b3, g3, rfl, h0, h1, h2, h3, h4, h5, h6, t0, u0, t1, u1, t2, u2, t3, u3⟩ := at_T42 (Kd.Bb HR.out.2.2.2.1 HBW.out) (k : Int) (by omega) (by omega)
   simp only [Int.toNat_natCast] at f0 f1 f2 f3 f4 f5 f6 h0 h1 h2 h3 h4 h5 h6
   generalize Fb l (k : Int) = e at *
   have HC := Lib.hid (fun (W : World) (hb : Below wr.heap.size wr W) => same25 e.f0 e.f1 e.f2 e.f3 e.f4 e.f5 e.f6 a0 a1 a2 a3 b0 b1 b2 b3 e0 e1 e2 e3 g0 g1 g2 g3 W q0 q1 q2 q3 ⟨Kd.Bb s0 hb, r0⟩ ⟨Kd.Bb u0 hb, t0⟩ ⟨Kd.Bb s1 hb, r1⟩ ⟨Kd.Bb u1 hb, t1⟩ ⟨Kd.Bb s2 hb, r2⟩ ⟨Kd.Bb u2 hb, t2⟩ ⟨Kd.Bb s3 hb, r3⟩ ⟨Kd.Bb u3 hb, t3⟩)
   have p0 : (0 : Int) ≤ (k : Int) := by omega
   have p1 : (k : Int) < (l.length : Int) := by omega
   have HF := Aa.mk (And.intro f0 (And.intro f1 (And.intro f2 (And.intro f3 (And.intro f4 (And.intro f5 (And.intro f6 (And.intro h0 (And.intro h1 (And.intro h2 (And.intro h3 (And.intro h4 (And.intro h5 h6)))))))))))))
   clear f0 f1 f2 f3 f4 f5 f6 h0 h1 h2 h3 h4 h5 h6 r0 s0 r1 s1 r2 s2 r3 s3 t0 u0 t1 u1 t2 u2 t3 u3 q0 q1 q2 q3
   go_upto_region 6 with (fail)
   refine sX 12 (S := fun w' => w'.cell? ⟨w.heap.size, 0, none⟩ = some (.slice (some ad) l.length c0) ∧ w'.cell? ⟨w.heap.size + 1, 0, none⟩ = some (.slice (some bd) l.length d0) ∧ w'.cell? (ad.add (k * 7)) = some (.slice a0 e.f0.length e0) ∧ w'.cell? ⟨(ad.add (k * 7)).block, (ad.add (k * 7)).off + 1, none⟩ = some (.slice a1 e.f1.length e1) ∧ w'.cell? ⟨(ad.add (k * 7)).block, (ad.add (k * 7)).off + 2, none⟩ = some (.slice a2 e.f2.length e2) ∧ w'.cell? ⟨(ad.add (k * 7)).block, (ad.add (k * 7)).off + 3, none⟩ = some (.slice a3 e.f3.length e3) ∧ w'.cell? ⟨(ad.add (k * 7)).block, (ad.add (k * 7)).off + 4, none⟩ = some (.string e.f4) ∧ w'.cell? ⟨(ad.add (k * 7)).block, (ad.add (k * 7)).off + 5, none⟩ = some (.bool e.f5) ∧ w'.cell? ⟨(ad.add (k * 7)).block, (ad.add (k * 7)).off + 6, none⟩ = some (.string e.f6) ∧ w'.cell? (bd.add (k * 7)) = some (.slice b0 e.f0.length g0) ∧ w'.cell? ⟨(bd.add (k * 7)).block, (bd.add (k * 7)).off + 1, none⟩ = some (.slice b1 e.f1.length g1) ∧ w'.cell? ⟨(bd.add (k * 7)).block, (bd.add (k * 7)).off + 2, none⟩ = some (.slice b2 e.f2.length g2) ∧ w'.cell? ⟨(bd.add (k * 7)).block, (bd.add (k * 7)).off + 3, none⟩ = some (.slice b3 e.f3.length g3) ∧ w'.cell? ⟨(bd.add (k * 7)).block, (bd.add (k * 7)).off + 4, none⟩ = some (.string e.f4) ∧ w'.cell? ⟨(bd.add (k * 7)).block, (bd.add (k * 7)).off + 5, none⟩ = some (.bool e.f5) ∧ w'.cell? ⟨(bd.add (k * 7)).block, (bd.add (k * 7)).off + 6, none⟩ = some (.string e.f6)) (ds := []) ⟨Ab HXr.out 0, Ab HYr.out 0, HF.out.1, HF.out.2.1, HF.out.2.2.1, HF.out.2.2.2.1, HF.out.2.2.2.2.1, HF.out.2.2.2.2.2.1, HF.out.2.2.2.2.2.2.1, HF.out.2.2.2.2.2.2.2.1, HF.out.2.2.2.2.2.2.2.2.1, HF.out.2.2.2.2.2.2.2.2.2.1, HF.out.2.2.2.2.2.2.2.2.2.2.1, HF.out.2.2.2.2.2.2.2.2.2.2.2.1, HF.out.2.2.2.2.2.2.2.2.2.2.2.2.1, HF.out.2.2.2.2.2.2.2.2.2.2.2.2.2⟩ (fun hHeld => ?_)
   refine pX 0 20 ?_
   refine pX 2 22 ?_
   refine pX 5 25 ?_
   refine pX 7 27 ?_
   refine tX 1 21 hHeld ?_
   refine pX 3 23 ?_
   refine tX 4 24 hHeld ?_
   refine tX 6 26 hHeld ?_
   refine pX 8 28 ?_
   refine tX 9 29 hHeld ?_
   refine oX 10 (some 30) (fun K hK => ?_)
   refine gX Tryz.func25 #[.agg #[.slice a0 e.f0.length e0, .slice a1 e.f1.length e1, .slice a2 e.f2.length e2, .slice a3 e.f3.length e3, .string e.f4, .bool e.f5, .string e.f6], .agg #[.slice b0 e.f0.length g0, .slice b1 e.f1.length g1, .slice b2 e.f2.length g2, .slice b3 e.f3.length g3, .string e.f4, .bool e.f5, .string e.f6]] ?_
   with_reducible refine (HC.out _ (Below.refl _ _).drew).mono ?_
   rintro x w5 ⟨rfl, hb⟩
   refine ⟨_, rfl, ?_⟩
   have HB5 := Aa.mk ((Below.refl wr.heap.size wr).drew.trans hb)
   clear hb
   refine hK.out _ _ ⟨Ab (Aj HXr.out HB5.out) 0, Ab (Aj HYr.out HB5.out) 0, Be HB5.out HF.out.1, Be HB5.out HF.out.2.1, Be HB5.out HF.out.2.2.1, Be HB5.out HF.out.2.2.2.1, Be HB5.out HF.out.2.2.2.2.1, Be HB5.out HF.out.2.2.2.2.2.1, Be HB5.out HF.out.2.2.2.2.2.2.1, Be HB5.out HF.out.2.2.2.2.2.2.2.1, Be HB5.out HF.out.2.2.2.2.2.2.2.2.1, Be HB5.out HF.out.2.2.2.2.2.2.2.2.2.1, Be HB5.out HF.out.2.2.2.2.2.2.2.2.2.2.1, Be HB5.out HF.out.2.2.2.2.2.2.2.2.2.2.2.1, Be HB5.out HF.out.2.2.2.2.2.2.2.2.2.2.2.2.1, Be HB5.out HF.out.2.2.2.2.2.2.2.2.2.2.2.2.2⟩ (fun hHeld => ?_)
   clear hK K
   refine nX ?_
   refine pX 11 31 ?_
   refine dX ?_
   go_wp2_with (fail)
   exact ⟨⟨k + 1, by go_num, by omega, ⟨HB.out.trans (HB5.out.mono HB.out.size)⟩⟩, by simp [intOf]; omega⟩
  ·obtain rfl : k = l.length := by omega
   have x1 : wr.cell? ⟨w.heap.size, 1, none⟩ = some (.slice A1 ps.length c1) := Ab HXr.out 1
   have y1 : wr.cell? ⟨w.heap.size + 1, 1, none⟩ = some (.slice B1 ps.length d1) := Ab HYr.out 1
   have x2 : wr.cell? ⟨w.heap.size, 2, none⟩ = some (.slice A2 ds.length c2) := Ab HXr.out 2
   have y2 : wr.cell? ⟨w.heap.size + 1, 2, none⟩ = some (.slice B2 ds.length d2) := Ab HYr.out 2
   have H26 := Lib.hid (same26 ps hp A1 B1 c1 d1 wr ⟨Kd.Bb HR.out.2.1.1 HBW.out, HR.out.2.1.2⟩ ⟨Kd.Bb HR.out.2.2.2.2.1.1 HBW.out, HR.out.2.2.2.2.1.2⟩)
   have H27 := Lib.hid (fun n => same27 ds hd A2 B2 c2 d2 (wr.drewN n) ⟨Kd.Bb (Kd.Bb HR.out.2.2.1.1 HBW.out) (Ch.mk ⟨n, rfl⟩ : Ch wr (wr.drewN n)).below, HR.out.2.2.1.2⟩ ⟨Kd.Bb (Kd.Bb HR.out.2.2.2.2.2.1 HBW.out) (Ch.mk ⟨n, rfl⟩ : Ch wr (wr.drewN n)).below, HR.out.2.2.2.2.2.2⟩)
   go_wp2_with (first | (go_at_call 26; refine H26.out.mono ?_; rintro x w3 ⟨rfl, ⟨n, rfl⟩⟩) | (go_at_call 27; refine (H27.out _).mono ?_; rintro x w4 ⟨rfl, hd4⟩; have HD4 := Aa.mk hd4; clear hd4))
   go_ret
   have q := (Ch.mk ⟨n, rfl⟩ : Ch wr (wr.drewN n)).below
   exact ⟨rfl, HBW.out.trans ((q.trans (HD4.out.below.mono q.size)).mono HBW.out.size)⟩
end Go.Proofs.YtefheailchihaaaGreatDoor.Print
end
