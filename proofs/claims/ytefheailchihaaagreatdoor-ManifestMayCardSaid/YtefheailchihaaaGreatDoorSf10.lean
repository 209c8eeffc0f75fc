/- YtefheailchihaaaGreatDoorSf10: out of this seat's texts (wip/tools/shake.py), what is needed alone. -/
import Derived.Laws.EntriesVeiled
import Derived.Test.YtefheailchihaaaGreatDoorSf9
section
namespace Go.Proofs.YtefheailchihaaaGreatDoor.Print
open Go.RowKit Go.Lib Go.Shelf Go.Proofs.YtefheailchihaaaGreatDoorW.PrintWords Go.Proofs.YtefheailchihaaaGreatDoorW.PrintLast Go.Proofs.YtefheailchihaaaGreatDoorW.PrintMore
set_option linter.unusedVariables false

/-- A parser: its graph, its outer scope, its rules. -/
structure Pst where
  edges : List S42
  pools : List S44
  defs : List ByteArray
  outer : List S174
  rules : List S116
/-- What is open: nothing, a rule, a pool (the last one), a build line: its outputs, inputs, what is needed too, what must be there, its rule, its own scope. -/
inductive Opn where
  | none
  | rule
  | pool
  | build (outs ins imp ord : List ByteArray) (r : S116) (own : List S174)

/-- The parser's rows. -/
def Rows (w : World) (base : Nat) (p : Pst) (vE vP vD vO vR : Value) : Prop :=
  Kd.R k42 42 w base (fun k => some k ≠ vD.ownBlock) vE p.edges ∧ Kd.R k44 44 w base (fun _ => True) vP p.pools ∧ Kd.R Kd.string 9 w base (fun _ => True) vD p.defs ∧ Kd.R k174 174 w base (fun _ => True) vO p.outer ∧ Kd.R k116 116 w base (fun _ => True) vR p.rules
/-- None of a row's types. -/
def Apart5 (w : World) (S : Nat → Prop) : Prop := ∀ k, S k → ∃ cells q, w.heap[k]? = some (.cells cells q (0, 0)) ∧ q ∉ [42, 9, 44, 174, 116]
theorem apart_one {w : World} {g t : Nat} {cs : Array Value} (h : w.heap[g]? = some (.cells cs t (0, 0))) (ht : t ∉ [42, 9, 44, 174, 116]) : Apart5 w (fun k => k = g) := fun k hk => by
  have hk' : k = g := hk
  subst hk'
  exact ⟨cs, t, h, ht⟩
theorem Rows_kept {w w1 : World} {base : Nat} {p : Pst} {vE vP vD vO vR : Value} {S : Nat → Prop} (h : Rows w base p vE vP vD vO vR) (hk : Kept w w1 S) (hS : Apart5 w S) : Rows w1 base p vE vP vD vO vR := by
  obtain ⟨h1, h2, h3, h4, h5⟩ := h
  have row : ∀ {α : Type} {d : Kd α} {t : Nat} {ok : Nat → Prop} {v : Value} {xs : List α}, d.R t w base ok v xs → (∀ q, q ∈ t :: d.E → q ∈ [42, 9, 44, 174, 116]) → d.R t w1 base ok v xs := by
    intro α d t ok v xs h hq
    refine Kd.R_mono (Kd.R_kept (Kd.R_bound h) hk (fun k h1 h2 => ?_)) (fun k hk => hk.1)
    obtain ⟨_, _, _, q, hq1, cells, hc⟩ := h1
    obtain ⟨cells2, q2, hc2, hq2⟩ := hS k h2
    rw [hc] at hc2
    simp only [Option.some.injEq, Obj.cells.injEq] at hc2
    exact hq2 (by rw [← hc2.2.1]; exact hq q hq1)
  exact ⟨row h1 (by decide), row h2 (by decide), row h3 (by decide), row h4 (by decide), row h5 (by decide)⟩
theorem Rows_below {w w1 : World} {base : Nat} {p : Pst} {vE vP vD vO vR : Value} (h : Rows w base p vE vP vD vO vR) (hb : Below w.heap.size w w1) : Rows w1 base p vE vP vD vO vR := Rows_kept h (Kept.of_below hb (fun _ => False)) (fun k hk => hk.elim)

/-- What is open, in the memory: the two function values. -/
def Cl (w : World) (base B : Nat) (nP nR : Nat) (o : Opn) (vP vD vR fd fo : Value) : Prop := match o with
  | .none => fd = .nilFunc ∧ fo = .nilFunc
  | .rule => ∃ Bp Br g c, fd = .func (.func 80) #[] #[.pointer (some ⟨Bp, 0, none⟩), .pointer (some ⟨Br, 0, none⟩)] ∧ fo = .func (.func 82) #[] #[.pointer (some ⟨Bp, 0, none⟩), .pointer (some ⟨Br, 0, none⟩)] ∧ w.heap[Bp]? = some (.cells #[.pointer (some ⟨B, 0, none⟩)] 52 (0, 0)) ∧ w.heap[Br]? = some (.cells #[.pointer (some ⟨g, (nR - 1) * 5, none⟩)] 117 (0, 0)) ∧ vR = .slice (some ⟨g, 0, none⟩) nR c ∧ 0 < nR
  | .pool => ∃ Bp Br g c, fd = .func (.func 83) #[] #[.pointer (some ⟨Bp, 0, none⟩), .pointer (some ⟨Br, 0, none⟩)] ∧ fo = .func (.func 84) #[] #[.pointer (some ⟨Bp, 0, none⟩), .pointer (some ⟨Br, 0, none⟩)] ∧ w.heap[Bp]? = some (.cells #[.pointer (some ⟨B, 0, none⟩)] 52 (0, 0)) ∧ w.heap[Br]? = some (.cells #[.pointer (some ⟨g, (nP - 1) * 2, none⟩)] 118 (0, 0)) ∧ vP = .slice (some ⟨g, 0, none⟩) nP c ∧ 0 < nP
  | .build outs ins imp ord r own => ∃ Bp Bx X v0 v1 v2 v3 vS, fd = .func (.func 88) #[] #[.pointer (some ⟨Bp, 0, none⟩), .pointer (some ⟨Bx, 0, none⟩)] ∧ fo = .func (.func 89) #[] #[.pointer (some ⟨Bp, 0, none⟩), .pointer (some ⟨Bx, 0, none⟩)] ∧ w.heap[Bp]? = some (.cells #[.pointer (some ⟨B, 0, none⟩)] 52 (0, 0)) ∧ w.heap[Bx]? = some (.cells #[.pointer (some ⟨X, 0, none⟩)] 122 (0, 0)) ∧ base ≤ X ∧
      w.heap[X]? = some (.cells #[v0, v1, v2, v3, .string ⟨#[]⟩, .bool r.f3, .string r.f2, .string r.f0, .string r.f1, .string r.f2, .bool r.f3, .bool r.f4, vS] 124 (0, 0)) ∧
      Kd.R Kd.string 9 w base (fun k => some k ≠ vD.ownBlock) v0 outs ∧ Kd.R Kd.string 9 w base (fun k => some k ≠ vD.ownBlock) v1 ins ∧ Kd.R Kd.string 9 w base (fun k => some k ≠ vD.ownBlock) v2 imp ∧ Kd.R Kd.string 9 w base (fun k => some k ≠ vD.ownBlock) v3 ord ∧ Kd.R k174 174 w base (fun _ => True) vS own
/-- The parser in the memory. -/
def Mst (w : World) (base B : Nat) (p : Pst) (o : Opn) (e : Int) : Prop := ∃ vE vP vD vO vR fd fo, base ≤ B ∧ Pb w B vE vP vD vO vR fd fo e ∧ Rows w base p vE vP vD vO vR ∧ Cl w base B p.pools.length p.rules.length o vP vD vR fd fo

theorem infoD44 : (Tryz.prog.info? 44).map (fun i => (i.zero, i.size, i.bytes)) = some (some (.agg #[.string ⟨#[]⟩, .int .i64 0]), 2, 24) := by kernel_rfl
theorem heap_ne {w : World} {g g' : Nat} {t t' : TypeId} {cs cs' : Array Value} (h : w.heap[g]? = some (.cells cs t (0, 0))) (h' : w.heap[g']? = some (.cells cs' t' (0, 0))) (hne : (t == t') = false) : ¬ g = g' := blk_ne h h' (by simpa using hne)
/-- A row's own block has the row's type. -/
theorem R_own_type {α : Type} {d : Kd α} {e base : Nat} {w : World} {ok : Nat → Prop} {v : Value} {xs : List α} (h : d.R e w base ok v xs) {k : Nat} (hk : v.ownBlock = some k) : ∃ cells, w.heap[k]? = some (.cells cells e (0, 0)) := by
  obtain ⟨_, inner, ho, _⟩ := h
  exact own_typed ho k hk
/-- A row of another type is kept where a row is appended to. -/
theorem R_beside {α β : Type} {d : Kd α} {d' : Kd β} {t t' base base' : Nat} {ok ok' : Nat → Prop} {w w1 : World} {v v' : Value} {xs : List α} {ys : List β} (h : d.R t w base ok v xs) (h' : d'.R t' w base' ok' v' ys) (hg : w.grownBy w1 v'.ownBlock) (ht : ∀ q, q ∈ t :: d.E → q ≠ t') : d.R t w1 base ok v xs := by
  refine Kd.R_mono (Kd.R_grown (Kd.R_bound h) hg (fun k hk he => ?_)) (fun k hk => hk.1)
  obtain ⟨_, _, _, q, hq1, cells, hc⟩ := hk
  obtain ⟨cells2, hc2⟩ := R_own_type h' he.symm
  rw [hc] at hc2
  simp only [Option.some.injEq, Obj.cells.injEq] at hc2
  exact ht q hq1 hc2.2.1
theorem blk_beside {β : Type} {d' : Kd β} {t t' base' : Nat} {ok' : Nat → Prop} {w w1 : World} {v' : Value} {ys : List β} {g : Nat} {cs : Array Value} (h : w.heap[g]? = some (.cells cs t (0, 0))) (h' : d'.R t' w base' ok' v' ys) (hg : w.grownBy w1 v'.ownBlock) (ht : (t' == t) = false) : w1.heap[g]? = some (.cells cs t (0, 0)) :=
  blk_grown h hg (Kd.R_ne h' h (by simpa using ht))
end Go.Proofs.YtefheailchihaaaGreatDoor.Print

end
section
namespace Go.Proofs.YtefheailchihaaaGreatDoor.Print
open Go.RowKit Go.Lib Go.Shelf Go.Proofs.YtefheailchihaaaGreatDoorW.PrintWords Go.Proofs.YtefheailchihaaaGreatDoorW.PrintLast Go.Proofs.YtefheailchihaaaGreatDoorW.PrintMore
set_option linter.unusedVariables false
set_option linter.unusedSimpArgs false
attribute [local go_sem ↓] Go.wp_at_zero Go.wp_at_succ

/-- What is wrong behind a line that begins a rule. -/
def ruleE (p : Pst) (e : Int) (s : ByteArray) : Int := roomE (needE (oneW e s).2 (decide (idxP (fun x : S116 => x.f0.toList == (oneW e s).1.toList) p.rules < 0))) (decide ((p.rules.length : Int) < 8))
set_option maxHeartbeats 4000000 in
set_option maxRecDepth 100000 in
theorem ruleLine_calls (base B : Nat) (p : Pst) (vE vP vD vO vR fd fo : Value) (e : Int) (s : ByteArray) (hs : s.size ≤ 1048576) (hlen : p.rules.length ≤ 1048576) (w : World) (hbB : base ≤ B) (hbw : base ≤ w.heap.size) (h : Pb w B vE vP vD vO vR fd fo e) (hR : Rows w base p vE vP vD vO vR) :
    Calls Tryz.prog 42 #[.pointer (some ⟨B, 0, none⟩), .string s] w fun x w' => x = .returned (.tuple #[]) ∧ Mst w' base B { p with rules := p.rules ++ [⟨(oneW e s).1, ⟨#[]⟩, ⟨#[]⟩, false, false⟩] } .rule (ruleE p e s) ∧ Below base w w' := by
  have hEq : ruleE p e s = roomE (needE (oneW e s).2 (decide (idxP (fun x : S116 => x.f0.toList == (oneW e s).1.toList) p.rules < 0))) (decide ((p.rules.length : Int) < 8)) := rfl
  have HEQ := Lib.hid hEq
  clear hEq
  have hmf : ∀ (fn : Fn) (first cap : Array Value) (w : World), (Instr.makeFunc fn first cap).run Tryz.prog w = .ok (.func fn first cap) w := fun _ _ _ _ => rfl
  obtain ⟨A, c, rfl, _⟩ := Kd.R_reads hR.2.2.2.2
  have hB := blk_lt h
  have hne : ¬ w.heap.size = B := by omega
  have hbw0 := hbw
  have H := Lib.hid h
  have HR := Aside0.mk hR
  clear h hR
  obtain ⟨⟨s1, e1⟩, h1⟩ : ∃ q, oneW e s = q := ⟨_, rfl⟩
  have H1 := Lib.hid h1
  rw [h1] at HEQ ⊢
  clear h1
  simp only at HEQ ⊢
  obtain ⟨e4, he4⟩ : ∃ q, ruleE p e s = q := ⟨_, rfl⟩
  obtain ⟨L, hL⟩ : ∃ L, p.rules ++ [⟨s1, ⟨#[]⟩, ⟨#[]⟩, false, false⟩] = L := ⟨_, rfl⟩
  rw [he4] at HEQ ⊢
  rw [hL]
  have hlL : L.length = p.rules.length + 1 := by rw [← hL]; simp
  have hL1 : 1 ≤ L.length := by omega
  have hL2 : L.length ≤ 1048577 := by omega
  clear hlL
  have HL := Lib.hid hL
  clear he4 hL
  go_enter Tryz.func42, Tryz.ntmps42
  have HA := Aside0.mk ((Below.refl w.heap.size w).alloc (Nat.le_refl _) (.cells #[.pointer (some ⟨B, 0, none⟩)] 52))
  have BPa := Aside0.mk (blk_new w (.cells #[.pointer (some ⟨B, 0, none⟩)] 52))
  have HPa := Aside0.mk (pb_below H.out HA.out)
  have HRa := Aside0.mk (Rows_below HR.out HA.out)
  have HBa := Aside0.mk (HA.out.mono hbw0)
  clear HA H HR
  go_upto_region 2 with (first | (go_at_call 77; refine (one_calls B vE vP vD vO (.slice A (p.rules).length c) fd fo e s hs _ HPa.out).mono ?_; rw [H1.out]; rintro x w1 ⟨rfl, hp, hk, hb⟩; have HP1 := Aside0.mk hp; have HR1 := Aside0.mk (Rows_kept HRa.out hk (apart_one HPa.out (by decide))); have BP1 := Aside0.mk (blk_kept BPa.out hk hne); have HB1 := Aside0.mk (HBa.out.trans (hb base hbB)); clear hp hk hb HPa HRa BPa HBa))
  have HC := Aside0.mk (Kd.C_below (Kd.R_reads' HR1.out.2.2.2.2).2.2 (Below.refl _ _).drew)
  obtain ⟨I, hI⟩ : ∃ I, idxP (fun x : S116 => x.f0.toList == s1.toList) p.rules = I := ⟨_, rfl⟩
  have HI := Lib.hid hI
  rw [hI] at HEQ
  clear hI
  refine start_ (n := 6) (S := fun w' => w'.cell? ⟨w.heap.size, 0, none⟩ = some (.pointer (some ⟨B, 0, none⟩))) (ds := [5]) #[false, false, false, false, false, false] (by kernel_rfl) rfl rfl (blk_cell BP1.out 0) (fun hHeld => ?_)
  have HPd := Aside0.mk (pb_below HP1.out (Below.refl _ _).drew)
  have HRd := Aside0.mk (Rows_below HR1.out (Below.refl _ _).drew)
  have BPd := Aside0.mk (blk_below BP1.out (Below.refl _ _).drew)
  have HBd := Aside0.mk (HB1.out.drew)
  generalize w1.drew = wdd at HPd HRd BPd HBd HC hHeld ⊢
  clear HP1 HR1 BP1 HB1
  refine pure_ (i := 2) (N := some 11) (v := ?_) (a' := ?_) #[false, false, true, false, false, false] rfl rfl (by kernel_rfl) (fun _ _ _ h => h) (Or.inl ⟨by rfl, ?_⟩) ?_ ?_
  rotate_left
  · intro w'
    go_simp
    with_reducible rfl
  rotate_left
  · simp only [Act.put, List.setIfInBounds_toArray, List.set_cons_zero, List.set_cons_succ, i64_w, i32_w]
    rfl
  refine take_ (i := 0) (N := some 9) (v := ?_) (a' := ?_) #[true, false, true, false, false, false] rfl rfl (by kernel_rfl) (fun _ _ _ h => h) (Or.inl ⟨by rfl, ?_⟩) hHeld ?_ ?_
  rotate_left
  · intro w' s0
    go_simp
    with_reducible rfl
  rotate_left
  · simp only [Act.put, List.setIfInBounds_toArray, List.set_cons_zero, List.set_cons_succ, i64_w, i32_w]
    rfl
  refine take_ (i := 1) (N := some 10) (v := ?_) (a' := ?_) #[true, true, true, false, false, false] rfl rfl (by kernel_rfl) (fun _ _ _ h => h) (Or.inl ⟨by rfl, ?_⟩) hHeld ?_ ?_
  rotate_left
  · intro w' s0
    go_simp
    with_reducible rfl
  rotate_left
  · simp only [Act.put, List.setIfInBounds_toArray, List.set_cons_zero, List.set_cons_succ, i64_w, i32_w]
    rfl
  refine one_ (i := 3) (N := some 12) #[true, true, true, true, false, false] rfl rfl (by kernel_rfl) (by decide) (fun K hK => ?_)
  refine goes_ Tryz.func78 (by kernel_rfl) rfl #[.pointer (some ⟨B, 0, none⟩), .string s1] (by rfl) rfl rfl (by simp only [List.map_toArray, List.map_cons, List.map_nil]; rfl) ?_
  with_reducible refine (pfind_calls B vE vP vD vO (.slice A (p.rules).length c) fd fo e1 A c p.rules s1 _ HPd.out rfl HC.out).mono ?_
  rw [HI.out]
  rintro x w2 ⟨rfl, hb⟩
  refine ⟨_, rfl, ?_⟩
  have HP2 := Aside0.mk (pb_below HPd.out hb)
  have HR2 := Aside0.mk (Rows_below HRd.out hb)
  have BP2 := Aside0.mk (blk_below BPd.out hb)
  have HB2 := Aside0.mk (HBd.out.trans (hb.mono (Nat.le_trans hbw0 HBd.out.size)))
  clear hb HPd HRd BPd HBd HC
  refine hK.out _ _ (blk_cell BP2.out 0) (fun hHeld => ?_)
  clear hK K
  refine norm_ (a' := ?_) ?_ ?_
  rotate_left
  · show Act.put _ (some 12) _ = _
    simp only [Act.put, List.setIfInBounds_toArray, List.set_cons_zero, List.set_cons_succ, i64_w, i32_w]
    rfl
  refine pure_ (i := 4) (N := some 13) (v := ?_) (a' := ?_) #[true, true, true, true, true, false] rfl rfl (by kernel_rfl) (fun _ _ _ h => h) (Or.inl ⟨by rfl, ?_⟩) ?_ ?_
  rotate_left
  · intro w'
    go_simp
    with_reducible rfl
  rotate_left
  · simp only [Act.put, List.setIfInBounds_toArray, List.set_cons_zero, List.set_cons_succ, i64_w, i32_w]
    rfl
  refine last_ (i := 5) (N := some 14) #[true, true, true, true, true, true] rfl rfl (by kernel_rfl) (by decide) (fun K hK => ?_)
  refine goes_ Tryz.func40 (by kernel_rfl) rfl #[.pointer (some ⟨B, 0, none⟩), .bool (decide (I < 0))] (by rfl) rfl rfl (by simp only [List.map_toArray, List.map_cons, List.map_nil]; rfl) ?_
  with_reducible refine (need_calls B vE vP vD vO (.slice A (p.rules).length c) fd fo e1 (decide (I < 0)) _ HP2.out).mono ?_
  rintro x w3 ⟨rfl, hp, hk, hb⟩
  refine ⟨_, rfl, ?_⟩
  have HP3 := Aside0.mk hp
  have HR3 := Aside0.mk (Rows_kept HR2.out hk (apart_one HP2.out (by decide)))
  have BP3 := Aside0.mk (blk_kept BP2.out hk hne)
  have HB3 := Aside0.mk (HB2.out.trans (hb base hbB))
  clear hp hk hb HP2 HR2 BP2 HB2
  refine hK.out _ _ ?_
  clear hK K
  refine norm_ (a' := ?_) ?_ ?_
  rotate_left
  · show Act.put _ (some 14) _ = _
    simp only [Act.put, List.setIfInBounds_toArray, List.set_cons_zero, List.set_cons_succ, i64_w, i32_w]
    rfl
  refine done_ (by kernel_rfl) ?_
  obtain ⟨e3, he3⟩ : ∃ q, needE e1 (decide (I < 0)) = q := ⟨_, rfl⟩
  rw [he3] at HEQ HP3
  clear he3
  have hP3 := HP3.out
  go_upto_region 3 with (fail)
  clear hP3
  refine start_ (n := 8) (S := fun w' => w'.cell? ⟨w.heap.size, 0, none⟩ = some (.pointer (some ⟨B, 0, none⟩)) ∧ w'.cell? ⟨B, 4, none⟩ = some (.slice A (p.rules).length c)) (ds := [7]) #[false, false, false, false, false, false, false, false] (by kernel_rfl) rfl rfl ⟨blk_cell BP3.out 0, blk_cell HP3.out 4⟩ (fun hHeld => ?_)
  have HPq := Aside0.mk (pb_below HP3.out (Below.refl _ _).drew)
  have HRq := Aside0.mk (Rows_below HR3.out (Below.refl _ _).drew)
  have BPq := Aside0.mk (blk_below BP3.out (Below.refl _ _).drew)
  have HBq := Aside0.mk (HB3.out.drew)
  generalize w3.drew = wdq at HPq HRq BPq HBq hHeld ⊢
  clear HP3 HR3 BP3 HB3
  refine take_ (i := 0) (N := some 15) (v := ?_) (a' := ?_) #[true, false, false, false, false, false, false, false] rfl rfl (by kernel_rfl) (fun _ _ _ h => h) (Or.inl ⟨by rfl, ?_⟩) hHeld ?_ ?_
  rotate_left
  · rintro w' ⟨s0, s1⟩
    go_simp
    with_reducible rfl
  rotate_left
  · simp only [Act.put, List.setIfInBounds_toArray, List.set_cons_zero, List.set_cons_succ, i64_w, i32_w]
    rfl
  refine take_ (i := 1) (N := some 16) (v := ?_) (a' := ?_) #[true, true, false, false, false, false, false, false] rfl rfl (by kernel_rfl) (fun _ _ _ h => h) (Or.inl ⟨by rfl, ?_⟩) hHeld ?_ ?_
  rotate_left
  · rintro w' ⟨s0, s1⟩
    go_simp
    with_reducible rfl
  rotate_left
  · simp only [Act.put, List.setIfInBounds_toArray, List.set_cons_zero, List.set_cons_succ, i64_w, i32_w]
    rfl
  refine pure_ (i := 2) (N := some 17) (v := ?_) (a' := ?_) #[true, true, true, false, false, false, false, false] rfl rfl (by kernel_rfl) (fun _ _ _ h => h) (Or.inl ⟨by rfl, ?_⟩) ?_ ?_
  rotate_left
  · intro w'
    go_simp
    with_reducible rfl
  rotate_left
  · simp only [Act.put, List.setIfInBounds_toArray, List.set_cons_zero, List.set_cons_succ, i64_w, i32_w]
    rfl
  refine pure_ (i := 3) (N := some 18) (v := ?_) (a' := ?_) #[true, true, true, true, false, false, false, false] rfl rfl (by kernel_rfl) (fun _ _ _ h => h) (Or.inl ⟨by rfl, ?_⟩) ?_ ?_
  rotate_left
  · intro w'
    go_simp
    with_reducible rfl
  rotate_left
  · simp only [Act.put, List.setIfInBounds_toArray, List.set_cons_zero, List.set_cons_succ, i64_w, i32_w]
    rfl
  refine take_ (i := 4) (N := some 19) (v := ?_) (a' := ?_) #[true, true, true, true, true, false, false, false] rfl rfl (by kernel_rfl) (fun _ _ _ h => h) (Or.inl ⟨by rfl, ?_⟩) hHeld ?_ ?_
  rotate_left
  · rintro w' ⟨s0, s1⟩
    go_simp
    with_reducible rfl
  rotate_left
  · simp only [Act.put, List.setIfInBounds_toArray, List.set_cons_zero, List.set_cons_succ, i64_w, i32_w]
    rfl
  refine pure_ (i := 5) (N := some 20) (v := ?_) (a' := ?_) #[true, true, true, true, true, true, false, false] rfl rfl (by kernel_rfl) (fun _ _ _ h => h) (Or.inl ⟨by rfl, ?_⟩) ?_ ?_
  rotate_left
  · intro w'
    go_simp
    with_reducible rfl
  rotate_left
  · simp only [Act.put, List.setIfInBounds_toArray, List.set_cons_zero, List.set_cons_succ, i64_w, i32_w]
    rfl
  refine pure_ (i := 6) (N := some 21) (v := ?_) (a' := ?_) #[true, true, true, true, true, true, true, false] rfl rfl (by kernel_rfl) (fun _ _ _ h => h) (Or.inl ⟨by rfl, ?_⟩) ?_ ?_
  rotate_left
  · intro w'
    go_simp
    with_reducible rfl
  rotate_left
  · simp only [Act.put, List.setIfInBounds_toArray, List.set_cons_zero, List.set_cons_succ, i64_w, i32_w]
    rfl
  refine last_ (i := 7) (N := some 22) #[true, true, true, true, true, true, true, true] rfl rfl (by kernel_rfl) (by decide) (fun K hK => ?_)
  refine goes_ Tryz.func79 (by kernel_rfl) rfl #[.pointer (some ⟨B, 0, none⟩), .bool (decide ((p.rules.length : Int) < 8))] (by rfl) rfl rfl (by simp only [List.map_toArray, List.map_cons, List.map_nil]; rfl) ?_
  with_reducible refine (room_calls B vE vP vD vO (.slice A (p.rules).length c) fd fo e3 (decide ((p.rules.length : Int) < 8)) _ HPq.out).mono ?_
  rintro x w4 ⟨rfl, hp, hk, hb⟩
  refine ⟨_, rfl, ?_⟩
  have HP4 := Aside0.mk hp
  have HR4 := Aside0.mk (Rows_kept HRq.out hk (apart_one HPq.out (by decide)))
  have BP4 := Aside0.mk (blk_kept BPq.out hk hne)
  have HB4 := Aside0.mk (HBq.out.trans (hb base hbB))
  clear hp hk hb HPq HRq BPq HBq
  refine hK.out _ _ ?_
  clear hK K
  refine norm_ (a' := ?_) ?_ ?_
  rotate_left
  · show Act.put _ (some 22) _ = _
    simp only [Act.put, List.setIfInBounds_toArray, List.set_cons_zero, List.set_cons_succ, i64_w, i32_w]
    rfl
  refine done_ (by kernel_rfl) ?_
  rw [← HEQ.out] at HP4
  clear HEQ
  go_upto_region 4 with (fail)
  refine start_ (n := 12) (S := fun w' => w'.cell? ⟨w.heap.size, 0, none⟩ = some (.pointer (some ⟨B, 0, none⟩)) ∧ w'.cell? ⟨B, 4, none⟩ = some (.slice A (p.rules).length c)) (ds := [11]) #[false, false, false, false, false, false, false, false, false, false, false, false] (by kernel_rfl) rfl rfl ⟨blk_cell BP4.out 0, blk_cell HP4.out 4⟩ (fun hHeld => ?_)
  have HPr := Aside0.mk (pb_below HP4.out (Below.refl _ _).drew)
  have HRr := Aside0.mk (Rows_below HR4.out (Below.refl _ _).drew)
  have BPr := Aside0.mk (blk_below BP4.out (Below.refl _ _).drew)
  have HBr := Aside0.mk (HB4.out.drew)
  generalize w4.drew = wdr at HPr HRr BPr HBr hHeld ⊢
  clear HP4 HR4 BP4 HB4
  have hfr := blk_frozen HPr.out 4
  refine pure_ (i := 5) (N := some 28) (v := ?_) (a' := ?_) #[false, false, false, false, false, true, false, false, false, false, false, false] rfl rfl (by kernel_rfl) (fun _ _ _ h => h) (Or.inl ⟨by rfl, ?_⟩) ?_ ?_
  rotate_left
  · intro w'
    go_simp
    with_reducible rfl
  rotate_left
  · simp only [Act.put, List.setIfInBounds_toArray, List.set_cons_zero, List.set_cons_succ, i64_w, i32_w]
    rfl
  refine pure_ (i := 6) (N := some 29) (v := ?_) (a' := ?_) #[false, false, false, false, false, true, true, false, false, false, false, false] rfl rfl (by kernel_rfl) (fun _ _ _ h => h) (Or.inl ⟨by rfl, ?_⟩) ?_ ?_
  rotate_left
  · intro w'
    go_simp
    with_reducible rfl
  rotate_left
  · simp only [Act.put, List.setIfInBounds_toArray, List.set_cons_zero, List.set_cons_succ, i64_w, i32_w]
    rfl
  refine take_ (i := 0) (N := some 23) (v := ?_) (a' := ?_) #[true, false, false, false, false, true, true, false, false, false, false, false] rfl rfl (by kernel_rfl) (fun _ _ _ h => h) (Or.inl ⟨by rfl, ?_⟩) hHeld ?_ ?_
  rotate_left
  · rintro w' ⟨s0, s1⟩
    go_simp
    with_reducible rfl
  rotate_left
  · simp only [Act.put, List.setIfInBounds_toArray, List.set_cons_zero, List.set_cons_succ, i64_w, i32_w]
    rfl
  refine take_ (i := 1) (N := some 24) (v := ?_) (a' := ?_) #[true, true, false, false, false, true, true, false, false, false, false, false] rfl rfl (by kernel_rfl) (fun _ _ _ h => h) (Or.inl ⟨by rfl, ?_⟩) hHeld ?_ ?_
  rotate_left
  · rintro w' ⟨s0, s1⟩
    go_simp
    with_reducible rfl
  rotate_left
  · simp only [Act.put, List.setIfInBounds_toArray, List.set_cons_zero, List.set_cons_succ, i64_w, i32_w]
    rfl
  refine pure_ (i := 2) (N := some 25) (v := ?_) (a' := ?_) #[true, true, true, false, false, true, true, false, false, false, false, false] rfl rfl (by kernel_rfl) (fun _ _ _ h => h) (Or.inl ⟨by rfl, ?_⟩) ?_ ?_
  rotate_left
  · intro w'
    go_simp
    with_reducible rfl
  rotate_left
  · simp only [Act.put, List.setIfInBounds_toArray, List.set_cons_zero, List.set_cons_succ, i64_w, i32_w]
    rfl
  refine pure_ (i := 3) (N := some 26) (v := ?_) (a' := ?_) #[true, true, true, true, false, true, true, false, false, false, false, false] rfl rfl (by kernel_rfl) (fun _ _ _ h => h) (Or.inl ⟨by rfl, ?_⟩) ?_ ?_
  rotate_left
  · intro w'
    go_simp
    with_reducible rfl
  rotate_left
  · simp only [Act.put, List.setIfInBounds_toArray, List.set_cons_zero, List.set_cons_succ, i64_w, i32_w]
    rfl
  refine take_ (i := 4) (N := some 27) (v := ?_) (a' := ?_) #[true, true, true, true, true, true, true, false, false, false, false, false] rfl rfl (by kernel_rfl) (fun _ _ _ h => h) (Or.inl ⟨by rfl, ?_⟩) hHeld ?_ ?_
  rotate_left
  · rintro w' ⟨s0, s1⟩
    go_simp
    with_reducible rfl
  rotate_left
  · simp only [Act.put, List.setIfInBounds_toArray, List.set_cons_zero, List.set_cons_succ, i64_w, i32_w]
    rfl
  refine one_ (i := 7) (N := some 30) #[true, true, true, true, true, true, true, true, false, false, false, false] rfl rfl (by kernel_rfl) (by decide) (fun K hK => ?_)
  refine value_ (w1 := ?_) (v := ?_) (by rfl) rfl ?_ ?_
  rotate_left 2
  · go_simp
    constructor
    · rfl
    · rfl
  refine hK.out _ _ ⟨blk_cell (blk_alloc BPr.out _) 0, blk_cell (blk_alloc HPr.out _) 4⟩ (fun hHeld => ?_)
  clear hK K
  refine norm_ (a' := ?_) ?_ ?_
  rotate_left
  · show Act.put _ (some 30) _ = _
    simp only [Act.put, List.setIfInBounds_toArray, List.set_cons_zero, List.set_cons_succ, i64_w, i32_w]
    rfl
  refine one_ (i := 8) (N := some 31) #[true, true, true, true, true, true, true, true, true, false, false, false] rfl rfl (by kernel_rfl) (by decide) (fun K hK => ?_)
  refine Kd.R_append_step k116 (w0 := w) base (by rfl) (.tmp 27) (.tmp 30) 54 116 (.agg #[.string ⟨#[]⟩, .string ⟨#[]⟩, .string ⟨#[]⟩, .bool false, .bool false]) 56 rfl Tryz.underlying54 info116 rfl (by decide) (by omega) (.slice A (p.rules).length c) p.rules ⟨s1, ⟨#[]⟩, ⟨#[]⟩, false, false⟩ _ (fun _ => True) (fun _ => False) rfl rfl (k116_mkM _ _ _ _) (fun _ hk => hk.elim) (fun _ _ => trivial) HRr.out.2.2.2.2 HBr.out (Nat.le_trans hbw0 HBr.out.size) (by omega) ?_
  intro v5 w5 ho5 hb5 hg5 hat5
  clear hat5
  rw [HL.out] at ho5
  obtain ⟨g, c6, rfl, _, _, _⟩ := Kd.R_form ho5 (by omega)
  have BP5 := Aside0.mk (blk_beside (blk_below BPr.out (Below.refl _ _)) HRr.out.2.2.2.2 hg5 (by decide))
  have HP5 := Aside0.mk (show Pb w5 B vE vP vD vO (.slice A (p.rules).length c) fd fo e4 from blk_beside HPr.out HRr.out.2.2.2.2 hg5 (by decide))
  have HR5 := Aside0.mk (show Rows w5 base { p with rules := L } vE vP vD vO (.slice (some ⟨g, 0, none⟩) L.length c6) from ⟨R_beside HRr.out.1 HRr.out.2.2.2.2 hg5 (by decide), R_beside HRr.out.2.1 HRr.out.2.2.2.2 hg5 (by decide), R_beside HRr.out.2.2.1 HRr.out.2.2.2.2 hg5 (by decide), R_beside HRr.out.2.2.2.1 HRr.out.2.2.2.2 hg5 (by decide), ho5⟩)
  have HB5 := Aside0.mk hb5
  have hfr5 := blk_frozen HP5.out 4
  clear ho5 hb5 hg5 HRr HPr BPr HBr hfr
  refine hK.out _ _ ⟨blk_cell BP5.out 0, blk_cell HP5.out 4⟩ (fun hHeld => ?_)
  clear hK K
  refine norm_ (a' := ?_) ?_ ?_
  rotate_left
  · show Act.put _ (some 31) _ = _
    simp only [Act.put, List.setIfInBounds_toArray, List.set_cons_zero, List.set_cons_succ, i64_w, i32_w]
    rfl
  refine pure_ (i := 9) (N := some 32) (v := ?_) (a' := ?_) #[true, true, true, true, true, true, true, true, true, true, false, false] rfl rfl (by kernel_rfl) (fun _ _ _ h => h) (Or.inl ⟨by rfl, ?_⟩) ?_ ?_
  rotate_left
  · intro w'
    go_simp
    with_reducible rfl
  rotate_left
  · simp only [Act.put, List.setIfInBounds_toArray, List.set_cons_zero, List.set_cons_succ, i64_w, i32_w]
    rfl
  refine pure_ (i := 10) (N := some 33) (v := ?_) (a' := ?_) #[true, true, true, true, true, true, true, true, true, true, true, false] rfl rfl (by kernel_rfl) (fun _ _ _ h => h) (Or.inl ⟨by rfl, ?_⟩) ?_ ?_
  rotate_left
  · intro w'
    go_simp
    with_reducible rfl
  rotate_left
  · simp only [Act.put, List.setIfInBounds_toArray, List.set_cons_zero, List.set_cons_succ, i64_w, i32_w]
    rfl
  refine last_ (i := 11) (N := none) #[true, true, true, true, true, true, true, true, true, true, true, true] rfl rfl (by kernel_rfl) (by decide) (fun K hK => ?_)
  refine skip_ (w1 := ?_) (by rfl) rfl ?_ ?_
  rotate_left
  · go_simp
    rfl
  refine hK.out _ _ ?_
  clear hK K
  refine done_ (by kernel_rfl) ?_
  have HP6 := Aside0.mk (show Pb (w5.setCell ⟨B, 4, none⟩ (.slice (some ⟨g, 0, none⟩) L.length c6)) B vE vP vD vO (.slice (some ⟨g, 0, none⟩) L.length c6) fd fo e4 from blk_put HP5.out 4 _ rfl)
  have HR6 := Aside0.mk (Rows_kept HR5.out (kept_one w5 B 4 (.slice (some ⟨g, 0, none⟩) L.length c6)) (apart_one HP5.out (by decide)))
  have BP6 := Aside0.mk (blk_kept BP5.out (kept_one w5 B 4 (.slice (some ⟨g, 0, none⟩) L.length c6)) hne)
  have HB6 := Aside0.mk (HB5.out.setCell (p := ⟨B, 4, none⟩) hbB (.slice (some ⟨g, 0, none⟩) L.length c6))
  generalize w5.setCell ⟨B, 4, none⟩ (.slice (some ⟨g, 0, none⟩) L.length c6) = w6 at HP6 HR6 BP6 HB6 ⊢
  clear HP5 HR5 BP5 HB5 hfr5
  go_upto_region 5 with (fail)
  have hn1 : wrap64 ((L.length : Int) - 1) = (L.length : Int) - 1 := by unfold wrap64; omega
  have hn2 : (1 : Int) ≤ L.length := by omega
  have hn3 : (L.length : Int) - 1 < L.length := by omega
  refine start_ (n := 13) (S := fun w' => w'.cell? ⟨w.heap.size, 0, none⟩ = some (.pointer (some ⟨B, 0, none⟩)) ∧ w'.cell? ⟨B, 4, none⟩ = some (.slice (some ⟨g, 0, none⟩) L.length c6)) (ds := [12]) #[false, false, false, false, false, false, false, false, false, false, false, false, false] (by kernel_rfl) rfl rfl ⟨blk_cell BP6.out 0, blk_cell HP6.out 4⟩ (fun hHeld => ?_)
  have HPt := Aside0.mk (pb_below HP6.out (Below.refl _ _).drew)
  have HRt := Aside0.mk (Rows_below HR6.out (Below.refl _ _).drew)
  have BPt := Aside0.mk (blk_below BP6.out (Below.refl _ _).drew)
  have HBt := Aside0.mk (HB6.out.drew)
  generalize w6.drew = wdt at HPt HRt BPt HBt hHeld ⊢
  clear HP6 HR6 BP6 HB6
  refine take_ (i := 0) (N := some 34) (v := ?_) (a' := ?_) #[true, false, false, false, false, false, false, false, false, false, false, false, false] rfl rfl (by kernel_rfl) (fun _ _ _ h => h) (Or.inl ⟨by rfl, ?_⟩) hHeld ?_ ?_
  rotate_left
  · rintro w' ⟨s0, s1⟩
    go_simp
    with_reducible rfl
  rotate_left
  · simp only [Act.put, List.setIfInBounds_toArray, List.set_cons_zero, List.set_cons_succ, i64_w, i32_w]
    rfl
  refine pure_ (i := 1) (N := some 35) (v := ?_) (a' := ?_) #[true, true, false, false, false, false, false, false, false, false, false, false, false] rfl rfl (by kernel_rfl) (fun _ _ _ h => h) (Or.inl ⟨by rfl, ?_⟩) ?_ ?_
  rotate_left
  · intro w'
    go_simp
    with_reducible rfl
  rotate_left
  · simp only [Act.put, List.setIfInBounds_toArray, List.set_cons_zero, List.set_cons_succ, i64_w, i32_w]
    rfl
  refine pure_ (i := 2) (N := some 36) (v := ?_) (a' := ?_) #[true, true, true, false, false, false, false, false, false, false, false, false, false] rfl rfl (by kernel_rfl) (fun _ _ _ h => h) (Or.inl ⟨by rfl, ?_⟩) ?_ ?_
  rotate_left
  · intro w'
    go_simp
    with_reducible rfl
  rotate_left
  · simp only [Act.put, List.setIfInBounds_toArray, List.set_cons_zero, List.set_cons_succ, i64_w, i32_w]
    rfl
  refine take_ (i := 3) (N := some 37) (v := ?_) (a' := ?_) #[true, true, true, true, false, false, false, false, false, false, false, false, false] rfl rfl (by kernel_rfl) (fun _ _ _ h => h) (Or.inl ⟨by rfl, ?_⟩) hHeld ?_ ?_
  rotate_left
  · rintro w' ⟨s0, s1⟩
    go_simp
    with_reducible rfl
  rotate_left
  · simp only [Act.put, List.setIfInBounds_toArray, List.set_cons_zero, List.set_cons_succ, i64_w, i32_w]
    rfl
  refine take_ (i := 4) (N := some 38) (v := ?_) (a' := ?_) #[true, true, true, true, true, false, false, false, false, false, false, false, false] rfl rfl (by kernel_rfl) (fun _ _ _ h => h) (Or.inl ⟨by rfl, ?_⟩) hHeld ?_ ?_
  rotate_left
  · rintro w' ⟨s0, s1⟩
    go_simp
    with_reducible rfl
  rotate_left
  · simp only [Act.put, List.setIfInBounds_toArray, List.set_cons_zero, List.set_cons_succ, i64_w, i32_w]
    rfl
  refine pure_ (i := 5) (N := some 39) (v := ?_) (a' := ?_) #[true, true, true, true, true, true, false, false, false, false, false, false, false] rfl rfl (by kernel_rfl) (fun _ _ _ h => h) (Or.inl ⟨by rfl, ?_⟩) ?_ ?_
  rotate_left
  · intro w'
    go_simp
    with_reducible rfl
  rotate_left
  · simp only [Act.put, List.setIfInBounds_toArray, List.set_cons_zero, List.set_cons_succ, i64_w, i32_w]
    rfl
  refine pure_ (i := 6) (N := some 40) (v := ?_) (a' := ?_) #[true, true, true, true, true, true, true, false, false, false, false, false, false] rfl rfl (by kernel_rfl) (fun _ _ _ h => h) (Or.inl ⟨by rfl, ?_⟩) ?_ ?_
  rotate_left
  · intro w'
    go_simp
    with_reducible rfl
  rotate_left
  · simp only [Act.put, List.setIfInBounds_toArray, List.set_cons_zero, List.set_cons_succ, i64_w, i32_w]
    rfl
  refine take_ (i := 7) (N := some 41) (v := ?_) (a' := ?_) #[true, true, true, true, true, true, true, true, false, false, false, false, false] rfl rfl (by kernel_rfl) (fun _ _ _ h => h) (Or.inl ⟨by rfl, ?_⟩) hHeld ?_ ?_
  rotate_left
  · rintro w' ⟨s0, s1⟩
    go_simp
    with_reducible rfl
  rotate_left
  · simp only [Act.put, List.setIfInBounds_toArray, List.set_cons_zero, List.set_cons_succ, i64_w, i32_w]
    rfl
  refine pure_ (i := 8) (N := some 42) (v := ?_) (a' := ?_) #[true, true, true, true, true, true, true, true, true, false, false, false, false] rfl rfl (by kernel_rfl) (fun _ _ _ h => h) (Or.inl ⟨by rfl, ?_⟩) ?_ ?_
  rotate_left
  · intro w'
    go_simp
    with_reducible rfl
  rotate_left
  · simp only [Act.put, List.setIfInBounds_toArray, List.set_cons_zero, List.set_cons_succ, i64_w, i32_w]
    rfl
  refine pure_ (i := 9) (N := some 43) (v := ?_) (a' := ?_) #[true, true, true, true, true, true, true, true, true, true, false, false, false] rfl rfl (by kernel_rfl) (fun _ _ _ h => h) (Or.inl ⟨by rfl, ?_⟩) ?_ ?_
  rotate_left
  · intro w'
    go_simp
    with_reducible rfl
  rotate_left
  · simp only [Act.put, List.setIfInBounds_toArray, List.set_cons_zero, List.set_cons_succ, i64_w, i32_w]
    rfl
  refine pure_ (i := 10) (N := some 44) (v := ?_) (a' := ?_) #[true, true, true, true, true, true, true, true, true, true, true, false, false] rfl rfl (by kernel_rfl) (fun _ _ _ h => h) (Or.inl ⟨by rfl, ?_⟩) ?_ ?_
  rotate_left
  · intro w'
    go_simp
    with_reducible rfl
  rotate_left
  · simp only [Act.put, List.setIfInBounds_toArray, List.set_cons_zero, List.set_cons_succ, i64_w, i32_w]
    rfl
  refine one_ (i := 11) (N := some 5) #[true, true, true, true, true, true, true, true, true, true, true, true, false] rfl rfl (by kernel_rfl) (by decide) (fun K hK => ?_)
  refine value_ (w1 := ?_) (v := ?_) (by rfl) rfl ?_ ?_
  rotate_left 2
  · go_simp
    constructor
    · rfl
    · rfl
  refine hK.out _ _ ⟨blk_cell (blk_alloc BPt.out _) 0, blk_cell (blk_alloc HPt.out _) 4⟩ (fun hHeld => ?_)
  clear hK K
  refine norm_ (a' := ?_) ?_ ?_
  rotate_left
  · show Act.put _ (some 5) _ = _
    simp only [Act.put, List.setIfInBounds_toArray, List.set_cons_zero, List.set_cons_succ, i64_w, i32_w]
    rfl
  refine last_ (i := 12) (N := none) #[true, true, true, true, true, true, true, true, true, true, true, true, true] rfl rfl (by kernel_rfl) (by decide) (fun K hK => ?_)
  refine skip_ (w1 := ?_) (by rfl) rfl ?_ ?_
  rotate_left
  · go_simp
    rfl
  refine hK.out _ _ ?_
  clear hK K
  refine done_ (by kernel_rfl) ?_
  have HA7 := Aside0.mk ((Below.refl wdt.heap.size wdt).alloc (Nat.le_refl _) (.cells #[.pointer (some ⟨g, (L.length - 1) * 5, none⟩)] 117))
  have BR7 := Aside0.mk (blk_new wdt (.cells #[.pointer (some ⟨g, (L.length - 1) * 5, none⟩)] 117))
  have BP7 := Aside0.mk (blk_below BPt.out HA7.out)
  have HP7 := Aside0.mk (pb_below HPt.out HA7.out)
  have HR7 := Aside0.mk (Rows_below HRt.out HA7.out)
  have HB7 := Aside0.mk (HBt.out.trans (HA7.out.mono (Nat.le_trans hbw0 HBt.out.size)))
  obtain ⟨Br, hBr⟩ : ∃ Br, wdt.heap.size = Br := ⟨_, rfl⟩
  generalize wdt.alloc (.cells #[.pointer (some ⟨g, (L.length - 1) * 5, none⟩)] 117) = w7 at HA7 BR7 BP7 HP7 HR7 HB7 ⊢
  rw [hBr] at BR7 ⊢
  clear hHeld HPt HRt BPt HBt HA7 hBr
  have hq1 : w7.cell? ⟨w.heap.size, 0, none⟩ = some (.pointer (some ⟨B, 0, none⟩)) := blk_cell BP7.out 0
  have hq4 : w7.cell? ⟨B, 5, none⟩ = some fd := blk_cell HP7.out 5
  have hq5 : w7.cell? ⟨B, 6, none⟩ = some fo := blk_cell HP7.out 6
  have hq2 := blk_frozen HP7.out 5
  have hq3 := blk_frozen HP7.out 6
  have hBr : ¬ Br = B := fun h => heap_ne BR7.out HP7.out (by decide) h
  go_wp2_with fail
  go_end0
  have k1 := kept_one w7 B 5 (.func (.func 80) #[] #[.pointer (some ⟨w.heap.size, 0, none⟩), .pointer (some ⟨Br, 0, none⟩)])
  have p1 : Pb _ B vE vP vD vO (.slice (some ⟨g, 0, none⟩) L.length c6) (.func (.func 80) #[] #[.pointer (some ⟨w.heap.size, 0, none⟩), .pointer (some ⟨Br, 0, none⟩)]) fo e4 := blk_put HP7.out 5 _ rfl
  have k2 := kept_one (w7.setCell ⟨B, 5, none⟩ (.func (.func 80) #[] #[.pointer (some ⟨w.heap.size, 0, none⟩), .pointer (some ⟨Br, 0, none⟩)])) B 6 (.func (.func 82) #[] #[.pointer (some ⟨w.heap.size, 0, none⟩), .pointer (some ⟨Br, 0, none⟩)])
  exact ⟨rfl, ⟨vE, vP, vD, vO, (.slice (some ⟨g, 0, none⟩) L.length c6), _, _, hbB, blk_put p1 6 _ rfl, Rows_kept (Rows_kept HR7.out k1 (apart_one HP7.out (by decide))) k2 (apart_one p1 (by decide)), ⟨w.heap.size, Br, g, c6, rfl, rfl, blk_kept (blk_kept BP7.out k1 hne) k2 hne, blk_kept (blk_kept BR7.out k1 hBr) k2 hBr, rfl, hL1⟩⟩, (HB7.out.setCell (p := ⟨B, 5, none⟩) hbB _).setCell (p := ⟨B, 6, none⟩) hbB _⟩
end Go.Proofs.YtefheailchihaaaGreatDoor.Print

end
section
namespace Go.Proofs.YtefheailchihaaaGreatDoor.Print
open Go.RowKit Go.Lib Go.Shelf Go.Proofs.YtefheailchihaaaGreatDoorW.PrintWords Go.Proofs.YtefheailchihaaaGreatDoorW.PrintLast Go.Proofs.YtefheailchihaaaGreatDoorW.PrintMore
set_option linter.unusedVariables false
set_option linter.unusedSimpArgs false
attribute [local go_sem ↓] Go.wp_at_zero Go.wp_at_succ

/-- What is wrong behind a line that begins a pool. -/
def poolE (p : Pst) (e : Int) (s : ByteArray) : Int := roomE (needE (oneW e s).2 (decide (idxP (fun x : S44 => x.f0.toList == (oneW e s).1.toList) p.pools < 0))) (decide ((p.pools.length : Int) < 4))
set_option maxHeartbeats 4000000 in
set_option maxRecDepth 100000 in
theorem poolLine_calls (base B : Nat) (p : Pst) (vE vP vD vO vR fd fo : Value) (e : Int) (s : ByteArray) (hs : s.size ≤ 1048576) (hlen : p.pools.length ≤ 1048576) (w : World) (hbB : base ≤ B) (hbw : base ≤ w.heap.size) (h : Pb w B vE vP vD vO vR fd fo e) (hR : Rows w base p vE vP vD vO vR) :
    Calls Tryz.prog 43 #[.pointer (some ⟨B, 0, none⟩), .string s] w fun x w' => x = .returned (.tuple #[]) ∧ Mst w' base B { p with pools := p.pools ++ [⟨(oneW e s).1, 0⟩] } .pool (poolE p e s) ∧ Below base w w' := by
  have hEq : poolE p e s = roomE (needE (oneW e s).2 (decide (idxP (fun x : S44 => x.f0.toList == (oneW e s).1.toList) p.pools < 0))) (decide ((p.pools.length : Int) < 4)) := rfl
  have HEQ := Lib.hid hEq
  clear hEq
  have hmf : ∀ (fn : Fn) (first cap : Array Value) (w : World), (Instr.makeFunc fn first cap).run Tryz.prog w = .ok (.func fn first cap) w := fun _ _ _ _ => rfl
  obtain ⟨A, c, rfl, _⟩ := Kd.R_reads hR.2.1
  have hB := blk_lt h
  have hne : ¬ w.heap.size = B := by omega
  have hbw0 := hbw
  have H := Lib.hid h
  have HR := Aside0.mk hR
  clear h hR
  obtain ⟨⟨s1, e1⟩, h1⟩ : ∃ q, oneW e s = q := ⟨_, rfl⟩
  have H1 := Lib.hid h1
  rw [h1] at HEQ ⊢
  clear h1
  simp only at HEQ ⊢
  obtain ⟨e4, he4⟩ : ∃ q, poolE p e s = q := ⟨_, rfl⟩
  obtain ⟨L, hL⟩ : ∃ L, p.pools ++ [⟨s1, 0⟩] = L := ⟨_, rfl⟩
  rw [he4] at HEQ ⊢
  rw [hL]
  have hlL : L.length = p.pools.length + 1 := by rw [← hL]; simp
  have hL1 : 1 ≤ L.length := by omega
  have hL2 : L.length ≤ 1048577 := by omega
  clear hlL
  have HL := Lib.hid hL
  clear he4 hL
  go_enter Tryz.func43, Tryz.ntmps43
  have HA := Aside0.mk ((Below.refl w.heap.size w).alloc (Nat.le_refl _) (.cells #[.pointer (some ⟨B, 0, none⟩)] 52))
  have BPa := Aside0.mk (blk_new w (.cells #[.pointer (some ⟨B, 0, none⟩)] 52))
  have HPa := Aside0.mk (pb_below H.out HA.out)
  have HRa := Aside0.mk (Rows_below HR.out HA.out)
  have HBa := Aside0.mk (HA.out.mono hbw0)
  clear HA H HR
  go_upto_region 2 with (first | (go_at_call 77; refine (one_calls B vE (.slice A (p.pools).length c) vD vO vR fd fo e s hs _ HPa.out).mono ?_; rw [H1.out]; rintro x w1 ⟨rfl, hp, hk, hb⟩; have HP1 := Aside0.mk hp; have HR1 := Aside0.mk (Rows_kept HRa.out hk (apart_one HPa.out (by decide))); have BP1 := Aside0.mk (blk_kept BPa.out hk hne); have HB1 := Aside0.mk (HBa.out.trans (hb base hbB)); clear hp hk hb HPa HRa BPa HBa))
  have HC := Aside0.mk (Kd.C_below (Kd.R_reads' HR1.out.2.1).2.2 (Below.refl _ _).drew)
  obtain ⟨I, hI⟩ : ∃ I, idxP (fun x : S44 => x.f0.toList == s1.toList) p.pools = I := ⟨_, rfl⟩
  have HI := Lib.hid hI
  rw [hI] at HEQ
  clear hI
  refine start_ (n := 6) (S := fun w' => w'.cell? ⟨w.heap.size, 0, none⟩ = some (.pointer (some ⟨B, 0, none⟩))) (ds := [5]) #[false, false, false, false, false, false] (by kernel_rfl) rfl rfl (blk_cell BP1.out 0) (fun hHeld => ?_)
  have HPd := Aside0.mk (pb_below HP1.out (Below.refl _ _).drew)
  have HRd := Aside0.mk (Rows_below HR1.out (Below.refl _ _).drew)
  have BPd := Aside0.mk (blk_below BP1.out (Below.refl _ _).drew)
  have HBd := Aside0.mk (HB1.out.drew)
  generalize w1.drew = wdd at HPd HRd BPd HBd HC hHeld ⊢
  clear HP1 HR1 BP1 HB1
  refine pure_ (i := 2) (N := some 11) (v := ?_) (a' := ?_) #[false, false, true, false, false, false] rfl rfl (by kernel_rfl) (fun _ _ _ h => h) (Or.inl ⟨by rfl, ?_⟩) ?_ ?_
  rotate_left
  · intro w'
    go_simp
    with_reducible rfl
  rotate_left
  · simp only [Act.put, List.setIfInBounds_toArray, List.set_cons_zero, List.set_cons_succ, i64_w, i32_w]
    rfl
  refine take_ (i := 0) (N := some 9) (v := ?_) (a' := ?_) #[true, false, true, false, false, false] rfl rfl (by kernel_rfl) (fun _ _ _ h => h) (Or.inl ⟨by rfl, ?_⟩) hHeld ?_ ?_
  rotate_left
  · intro w' s0
    go_simp
    with_reducible rfl
  rotate_left
  · simp only [Act.put, List.setIfInBounds_toArray, List.set_cons_zero, List.set_cons_succ, i64_w, i32_w]
    rfl
  refine take_ (i := 1) (N := some 10) (v := ?_) (a' := ?_) #[true, true, true, false, false, false] rfl rfl (by kernel_rfl) (fun _ _ _ h => h) (Or.inl ⟨by rfl, ?_⟩) hHeld ?_ ?_
  rotate_left
  · intro w' s0
    go_simp
    with_reducible rfl
  rotate_left
  · simp only [Act.put, List.setIfInBounds_toArray, List.set_cons_zero, List.set_cons_succ, i64_w, i32_w]
    rfl
  refine one_ (i := 3) (N := some 12) #[true, true, true, true, false, false] rfl rfl (by kernel_rfl) (by decide) (fun K hK => ?_)
  refine goes_ Tryz.func81 (by kernel_rfl) rfl #[.pointer (some ⟨B, 0, none⟩), .string s1] (by rfl) rfl rfl (by simp only [List.map_toArray, List.map_cons, List.map_nil]; rfl) ?_
  with_reducible refine (ppool_calls B vE (.slice A (p.pools).length c) vD vO vR fd fo e1 A c p.pools s1 _ HPd.out rfl HC.out).mono ?_
  rw [HI.out]
  rintro x w2 ⟨rfl, hb⟩
  refine ⟨_, rfl, ?_⟩
  have HP2 := Aside0.mk (pb_below HPd.out hb)
  have HR2 := Aside0.mk (Rows_below HRd.out hb)
  have BP2 := Aside0.mk (blk_below BPd.out hb)
  have HB2 := Aside0.mk (HBd.out.trans (hb.mono (Nat.le_trans hbw0 HBd.out.size)))
  clear hb HPd HRd BPd HBd HC
  refine hK.out _ _ (blk_cell BP2.out 0) (fun hHeld => ?_)
  clear hK K
  refine norm_ (a' := ?_) ?_ ?_
  rotate_left
  · show Act.put _ (some 12) _ = _
    simp only [Act.put, List.setIfInBounds_toArray, List.set_cons_zero, List.set_cons_succ, i64_w, i32_w]
    rfl
  refine pure_ (i := 4) (N := some 13) (v := ?_) (a' := ?_) #[true, true, true, true, true, false] rfl rfl (by kernel_rfl) (fun _ _ _ h => h) (Or.inl ⟨by rfl, ?_⟩) ?_ ?_
  rotate_left
  · intro w'
    go_simp
    with_reducible rfl
  rotate_left
  · simp only [Act.put, List.setIfInBounds_toArray, List.set_cons_zero, List.set_cons_succ, i64_w, i32_w]
    rfl
  refine last_ (i := 5) (N := some 14) #[true, true, true, true, true, true] rfl rfl (by kernel_rfl) (by decide) (fun K hK => ?_)
  refine goes_ Tryz.func40 (by kernel_rfl) rfl #[.pointer (some ⟨B, 0, none⟩), .bool (decide (I < 0))] (by rfl) rfl rfl (by simp only [List.map_toArray, List.map_cons, List.map_nil]; rfl) ?_
  with_reducible refine (need_calls B vE (.slice A (p.pools).length c) vD vO vR fd fo e1 (decide (I < 0)) _ HP2.out).mono ?_
  rintro x w3 ⟨rfl, hp, hk, hb⟩
  refine ⟨_, rfl, ?_⟩
  have HP3 := Aside0.mk hp
  have HR3 := Aside0.mk (Rows_kept HR2.out hk (apart_one HP2.out (by decide)))
  have BP3 := Aside0.mk (blk_kept BP2.out hk hne)
  have HB3 := Aside0.mk (HB2.out.trans (hb base hbB))
  clear hp hk hb HP2 HR2 BP2 HB2
  refine hK.out _ _ ?_
  clear hK K
  refine norm_ (a' := ?_) ?_ ?_
  rotate_left
  · show Act.put _ (some 14) _ = _
    simp only [Act.put, List.setIfInBounds_toArray, List.set_cons_zero, List.set_cons_succ, i64_w, i32_w]
    rfl
  refine done_ (by kernel_rfl) ?_
  obtain ⟨e3, he3⟩ : ∃ q, needE e1 (decide (I < 0)) = q := ⟨_, rfl⟩
  rw [he3] at HEQ HP3
  clear he3
  have hP3 := HP3.out
  go_upto_region 3 with (fail)
  clear hP3
  refine start_ (n := 9) (S := fun w' => w'.cell? ⟨w.heap.size, 0, none⟩ = some (.pointer (some ⟨B, 0, none⟩)) ∧ w'.cell? ⟨B, 1, none⟩ = some (.slice A (p.pools).length c)) (ds := [8]) #[false, false, false, false, false, false, false, false, false] (by kernel_rfl) rfl rfl ⟨blk_cell BP3.out 0, blk_cell HP3.out 1⟩ (fun hHeld => ?_)
  have HPq := Aside0.mk (pb_below HP3.out (Below.refl _ _).drew)
  have HRq := Aside0.mk (Rows_below HR3.out (Below.refl _ _).drew)
  have BPq := Aside0.mk (blk_below BP3.out (Below.refl _ _).drew)
  have HBq := Aside0.mk (HB3.out.drew)
  generalize w3.drew = wdq at HPq HRq BPq HBq hHeld ⊢
  clear HP3 HR3 BP3 HB3
  refine take_ (i := 0) (N := some 15) (v := ?_) (a' := ?_) #[true, false, false, false, false, false, false, false, false] rfl rfl (by kernel_rfl) (fun _ _ _ h => h) (Or.inl ⟨by rfl, ?_⟩) hHeld ?_ ?_
  rotate_left
  · rintro w' ⟨s0, s1⟩
    go_simp
    with_reducible rfl
  rotate_left
  · simp only [Act.put, List.setIfInBounds_toArray, List.set_cons_zero, List.set_cons_succ, i64_w, i32_w]
    rfl
  refine take_ (i := 1) (N := some 16) (v := ?_) (a' := ?_) #[true, true, false, false, false, false, false, false, false] rfl rfl (by kernel_rfl) (fun _ _ _ h => h) (Or.inl ⟨by rfl, ?_⟩) hHeld ?_ ?_
  rotate_left
  · rintro w' ⟨s0, s1⟩
    go_simp
    with_reducible rfl
  rotate_left
  · simp only [Act.put, List.setIfInBounds_toArray, List.set_cons_zero, List.set_cons_succ, i64_w, i32_w]
    rfl
  refine pure_ (i := 2) (N := some 17) (v := ?_) (a' := ?_) #[true, true, true, false, false, false, false, false, false] rfl rfl (by kernel_rfl) (fun _ _ _ h => h) (Or.inl ⟨by rfl, ?_⟩) ?_ ?_
  rotate_left
  · intro w'
    go_simp
    with_reducible rfl
  rotate_left
  · simp only [Act.put, List.setIfInBounds_toArray, List.set_cons_zero, List.set_cons_succ, i64_w, i32_w]
    rfl
  refine pure_ (i := 3) (N := some 18) (v := ?_) (a' := ?_) #[true, true, true, true, false, false, false, false, false] rfl rfl (by kernel_rfl) (fun _ _ _ h => h) (Or.inl ⟨by rfl, ?_⟩) ?_ ?_
  rotate_left
  · intro w'
    go_simp
    with_reducible rfl
  rotate_left
  · simp only [Act.put, List.setIfInBounds_toArray, List.set_cons_zero, List.set_cons_succ, i64_w, i32_w]
    rfl
  refine pure_ (i := 4) (N := some 19) (v := ?_) (a' := ?_) #[true, true, true, true, true, false, false, false, false] rfl rfl (by kernel_rfl) (fun _ _ _ h => h) (Or.inl ⟨by rfl, ?_⟩) ?_ ?_
  rotate_left
  · intro w'
    go_simp
    with_reducible rfl
  rotate_left
  · simp only [Act.put, List.setIfInBounds_toArray, List.set_cons_zero, List.set_cons_succ, i64_w, i32_w]
    rfl
  refine take_ (i := 5) (N := some 20) (v := ?_) (a' := ?_) #[true, true, true, true, true, true, false, false, false] rfl rfl (by kernel_rfl) (fun _ _ _ h => h) (Or.inl ⟨by rfl, ?_⟩) hHeld ?_ ?_
  rotate_left
  · rintro w' ⟨s0, s1⟩
    go_simp
    with_reducible rfl
  rotate_left
  · simp only [Act.put, List.setIfInBounds_toArray, List.set_cons_zero, List.set_cons_succ, i64_w, i32_w]
    rfl
  refine pure_ (i := 6) (N := some 21) (v := ?_) (a' := ?_) #[true, true, true, true, true, true, true, false, false] rfl rfl (by kernel_rfl) (fun _ _ _ h => h) (Or.inl ⟨by rfl, ?_⟩) ?_ ?_
  rotate_left
  · intro w'
    go_simp
    with_reducible rfl
  rotate_left
  · simp only [Act.put, List.setIfInBounds_toArray, List.set_cons_zero, List.set_cons_succ, i64_w, i32_w]
    rfl
  refine pure_ (i := 7) (N := some 22) (v := ?_) (a' := ?_) #[true, true, true, true, true, true, true, true, false] rfl rfl (by kernel_rfl) (fun _ _ _ h => h) (Or.inl ⟨by rfl, ?_⟩) ?_ ?_
  rotate_left
  · intro w'
    go_simp
    with_reducible rfl
  rotate_left
  · simp only [Act.put, List.setIfInBounds_toArray, List.set_cons_zero, List.set_cons_succ, i64_w, i32_w]
    rfl
  refine last_ (i := 8) (N := some 23) #[true, true, true, true, true, true, true, true, true] rfl rfl (by kernel_rfl) (by decide) (fun K hK => ?_)
  refine goes_ Tryz.func79 (by kernel_rfl) rfl #[.pointer (some ⟨B, 0, none⟩), .bool (decide ((p.pools.length : Int) < 4))] (by rfl) rfl rfl (by simp only [List.map_toArray, List.map_cons, List.map_nil]; rfl) ?_
  with_reducible refine (room_calls B vE (.slice A (p.pools).length c) vD vO vR fd fo e3 (decide ((p.pools.length : Int) < 4)) _ HPq.out).mono ?_
  rintro x w4 ⟨rfl, hp, hk, hb⟩
  refine ⟨_, rfl, ?_⟩
  have HP4 := Aside0.mk hp
  have HR4 := Aside0.mk (Rows_kept HRq.out hk (apart_one HPq.out (by decide)))
  have BP4 := Aside0.mk (blk_kept BPq.out hk hne)
  have HB4 := Aside0.mk (HBq.out.trans (hb base hbB))
  clear hp hk hb HPq HRq BPq HBq
  refine hK.out _ _ ?_
  clear hK K
  refine norm_ (a' := ?_) ?_ ?_
  rotate_left
  · show Act.put _ (some 23) _ = _
    simp only [Act.put, List.setIfInBounds_toArray, List.set_cons_zero, List.set_cons_succ, i64_w, i32_w]
    rfl
  refine done_ (by kernel_rfl) ?_
  rw [← HEQ.out] at HP4
  clear HEQ
  go_upto_region 4 with (fail)
  refine start_ (n := 14) (S := fun w' => w'.cell? ⟨w.heap.size, 0, none⟩ = some (.pointer (some ⟨B, 0, none⟩)) ∧ w'.cell? ⟨B, 1, none⟩ = some (.slice A (p.pools).length c)) (ds := [13]) #[false, false, false, false, false, false, false, false, false, false, false, false, false, false] (by kernel_rfl) rfl rfl ⟨blk_cell BP4.out 0, blk_cell HP4.out 1⟩ (fun hHeld => ?_)
  have HPr := Aside0.mk (pb_below HP4.out (Below.refl _ _).drew)
  have HRr := Aside0.mk (Rows_below HR4.out (Below.refl _ _).drew)
  have BPr := Aside0.mk (blk_below BP4.out (Below.refl _ _).drew)
  have HBr := Aside0.mk (HB4.out.drew)
  generalize w4.drew = wdr at HPr HRr BPr HBr hHeld ⊢
  clear HP4 HR4 BP4 HB4
  have hfr := blk_frozen HPr.out 1
  refine pure_ (i := 6) (N := some 30) (v := ?_) (a' := ?_) #[false, false, false, false, false, false, true, false, false, false, false, false, false, false] rfl rfl (by kernel_rfl) (fun _ _ _ h => h) (Or.inl ⟨by rfl, ?_⟩) ?_ ?_
  rotate_left
  · intro w'
    go_simp
    with_reducible rfl
  rotate_left
  · simp only [Act.put, List.setIfInBounds_toArray, List.set_cons_zero, List.set_cons_succ, i64_w, i32_w]
    rfl
  refine pure_ (i := 7) (N := some 31) (v := ?_) (a' := ?_) #[false, false, false, false, false, false, true, true, false, false, false, false, false, false] rfl rfl (by kernel_rfl) (fun _ _ _ h => h) (Or.inl ⟨by rfl, ?_⟩) ?_ ?_
  rotate_left
  · intro w'
    go_simp
    with_reducible rfl
  rotate_left
  · simp only [Act.put, List.setIfInBounds_toArray, List.set_cons_zero, List.set_cons_succ, i64_w, i32_w]
    rfl
  refine take_ (i := 0) (N := some 24) (v := ?_) (a' := ?_) #[true, false, false, false, false, false, true, true, false, false, false, false, false, false] rfl rfl (by kernel_rfl) (fun _ _ _ h => h) (Or.inl ⟨by rfl, ?_⟩) hHeld ?_ ?_
  rotate_left
  · rintro w' ⟨s0, s1⟩
    go_simp
    with_reducible rfl
  rotate_left
  · simp only [Act.put, List.setIfInBounds_toArray, List.set_cons_zero, List.set_cons_succ, i64_w, i32_w]
    rfl
  refine take_ (i := 1) (N := some 25) (v := ?_) (a' := ?_) #[true, true, false, false, false, false, true, true, false, false, false, false, false, false] rfl rfl (by kernel_rfl) (fun _ _ _ h => h) (Or.inl ⟨by rfl, ?_⟩) hHeld ?_ ?_
  rotate_left
  · rintro w' ⟨s0, s1⟩
    go_simp
    with_reducible rfl
  rotate_left
  · simp only [Act.put, List.setIfInBounds_toArray, List.set_cons_zero, List.set_cons_succ, i64_w, i32_w]
    rfl
  refine pure_ (i := 2) (N := some 26) (v := ?_) (a' := ?_) #[true, true, true, false, false, false, true, true, false, false, false, false, false, false] rfl rfl (by kernel_rfl) (fun _ _ _ h => h) (Or.inl ⟨by rfl, ?_⟩) ?_ ?_
  rotate_left
  · intro w'
    go_simp
    with_reducible rfl
  rotate_left
  · simp only [Act.put, List.setIfInBounds_toArray, List.set_cons_zero, List.set_cons_succ, i64_w, i32_w]
    rfl
  refine pure_ (i := 3) (N := some 27) (v := ?_) (a' := ?_) #[true, true, true, true, false, false, true, true, false, false, false, false, false, false] rfl rfl (by kernel_rfl) (fun _ _ _ h => h) (Or.inl ⟨by rfl, ?_⟩) ?_ ?_
  rotate_left
  · intro w'
    go_simp
    with_reducible rfl
  rotate_left
  · simp only [Act.put, List.setIfInBounds_toArray, List.set_cons_zero, List.set_cons_succ, i64_w, i32_w]
    rfl
  refine pure_ (i := 4) (N := some 28) (v := ?_) (a' := ?_) #[true, true, true, true, true, false, true, true, false, false, false, false, false, false] rfl rfl (by kernel_rfl) (fun _ _ _ h => h) (Or.inl ⟨by rfl, ?_⟩) ?_ ?_
  rotate_left
  · intro w'
    go_simp
    with_reducible rfl
  rotate_left
  · simp only [Act.put, List.setIfInBounds_toArray, List.set_cons_zero, List.set_cons_succ, i64_w, i32_w]
    rfl
  refine take_ (i := 5) (N := some 29) (v := ?_) (a' := ?_) #[true, true, true, true, true, true, true, true, false, false, false, false, false, false] rfl rfl (by kernel_rfl) (fun _ _ _ h => h) (Or.inl ⟨by rfl, ?_⟩) hHeld ?_ ?_
  rotate_left
  · rintro w' ⟨s0, s1⟩
    go_simp
    with_reducible rfl
  rotate_left
  · simp only [Act.put, List.setIfInBounds_toArray, List.set_cons_zero, List.set_cons_succ, i64_w, i32_w]
    rfl
  refine one_ (i := 8) (N := some 32) #[true, true, true, true, true, true, true, true, true, false, false, false, false, false] rfl rfl (by kernel_rfl) (by decide) (fun K hK => ?_)
  refine value_ (w1 := ?_) (v := ?_) (by rfl) rfl ?_ ?_
  rotate_left 2
  · go_simp
    constructor
    · rfl
    · rfl
  refine hK.out _ _ ⟨blk_cell (blk_alloc BPr.out _) 0, blk_cell (blk_alloc HPr.out _) 1⟩ (fun hHeld => ?_)
  clear hK K
  refine norm_ (a' := ?_) ?_ ?_
  rotate_left
  · show Act.put _ (some 32) _ = _
    simp only [Act.put, List.setIfInBounds_toArray, List.set_cons_zero, List.set_cons_succ, i64_w, i32_w]
    rfl
  refine one_ (i := 9) (N := some 33) #[true, true, true, true, true, true, true, true, true, true, false, false, false, false] rfl rfl (by kernel_rfl) (by decide) (fun K hK => ?_)
  refine Kd.R_append_step k44 (w0 := w) base (by rfl) (.tmp 29) (.tmp 32) 23 44 (.agg #[.string ⟨#[]⟩, .int .i64 0]) 24 rfl Tryz.underlying23 infoD44 rfl (by decide) (by omega) (.slice A (p.pools).length c) p.pools ⟨s1, 0⟩ _ (fun _ => True) (fun _ => False) rfl rfl (k44_mkM _ _ _ _) (fun _ hk => hk.elim) (fun _ _ => trivial) HRr.out.2.1 HBr.out (Nat.le_trans hbw0 HBr.out.size) (by omega) ?_
  intro v5 w5 ho5 hb5 hg5 hat5
  clear hat5
  rw [HL.out] at ho5
  obtain ⟨g, c6, rfl, _, _, _⟩ := Kd.R_form ho5 (by omega)
  have BP5 := Aside0.mk (blk_beside (blk_below BPr.out (Below.refl _ _)) HRr.out.2.1 hg5 (by decide))
  have HP5 := Aside0.mk (show Pb w5 B vE (.slice A (p.pools).length c) vD vO vR fd fo e4 from blk_beside HPr.out HRr.out.2.1 hg5 (by decide))
  have HR5 := Aside0.mk (show Rows w5 base { p with pools := L } vE (.slice (some ⟨g, 0, none⟩) L.length c6) vD vO vR from ⟨R_beside HRr.out.1 HRr.out.2.1 hg5 (by decide), ho5, R_beside HRr.out.2.2.1 HRr.out.2.1 hg5 (by decide), R_beside HRr.out.2.2.2.1 HRr.out.2.1 hg5 (by decide), R_beside HRr.out.2.2.2.2 HRr.out.2.1 hg5 (by decide)⟩)
  have HB5 := Aside0.mk hb5
  have hfr5 := blk_frozen HP5.out 1
  clear ho5 hb5 hg5 HRr HPr BPr HBr hfr
  refine hK.out _ _ ⟨blk_cell BP5.out 0, blk_cell HP5.out 1⟩ (fun hHeld => ?_)
  clear hK K
  refine norm_ (a' := ?_) ?_ ?_
  rotate_left
  · show Act.put _ (some 33) _ = _
    simp only [Act.put, List.setIfInBounds_toArray, List.set_cons_zero, List.set_cons_succ, i64_w, i32_w]
    rfl
  refine pure_ (i := 10) (N := some 34) (v := ?_) (a' := ?_) #[true, true, true, true, true, true, true, true, true, true, true, false, false, false] rfl rfl (by kernel_rfl) (fun _ _ _ h => h) (Or.inl ⟨by rfl, ?_⟩) ?_ ?_
  rotate_left
  · intro w'
    go_simp
    with_reducible rfl
  rotate_left
  · simp only [Act.put, List.setIfInBounds_toArray, List.set_cons_zero, List.set_cons_succ, i64_w, i32_w]
    rfl
  refine pure_ (i := 11) (N := some 35) (v := ?_) (a' := ?_) #[true, true, true, true, true, true, true, true, true, true, true, true, false, false] rfl rfl (by kernel_rfl) (fun _ _ _ h => h) (Or.inl ⟨by rfl, ?_⟩) ?_ ?_
  rotate_left
  · intro w'
    go_simp
    with_reducible rfl
  rotate_left
  · simp only [Act.put, List.setIfInBounds_toArray, List.set_cons_zero, List.set_cons_succ, i64_w, i32_w]
    rfl
  refine pure_ (i := 12) (N := some 36) (v := ?_) (a' := ?_) #[true, true, true, true, true, true, true, true, true, true, true, true, true, false] rfl rfl (by kernel_rfl) (fun _ _ _ h => h) (Or.inl ⟨by rfl, ?_⟩) ?_ ?_
  rotate_left
  · intro w'
    go_simp
    with_reducible rfl
  rotate_left
  · simp only [Act.put, List.setIfInBounds_toArray, List.set_cons_zero, List.set_cons_succ, i64_w, i32_w]
    rfl
  refine last_ (i := 13) (N := none) #[true, true, true, true, true, true, true, true, true, true, true, true, true, true] rfl rfl (by kernel_rfl) (by decide) (fun K hK => ?_)
  refine skip_ (w1 := ?_) (by rfl) rfl ?_ ?_
  rotate_left
  · go_simp
    rfl
  refine hK.out _ _ ?_
  clear hK K
  refine done_ (by kernel_rfl) ?_
  have HP6 := Aside0.mk (show Pb (w5.setCell ⟨B, 1, none⟩ (.slice (some ⟨g, 0, none⟩) L.length c6)) B vE (.slice (some ⟨g, 0, none⟩) L.length c6) vD vO vR fd fo e4 from blk_put HP5.out 1 _ rfl)
  have HR6 := Aside0.mk (Rows_kept HR5.out (kept_one w5 B 1 (.slice (some ⟨g, 0, none⟩) L.length c6)) (apart_one HP5.out (by decide)))
  have BP6 := Aside0.mk (blk_kept BP5.out (kept_one w5 B 1 (.slice (some ⟨g, 0, none⟩) L.length c6)) hne)
  have HB6 := Aside0.mk (HB5.out.setCell (p := ⟨B, 1, none⟩) hbB (.slice (some ⟨g, 0, none⟩) L.length c6))
  generalize w5.setCell ⟨B, 1, none⟩ (.slice (some ⟨g, 0, none⟩) L.length c6) = w6 at HP6 HR6 BP6 HB6 ⊢
  clear HP5 HR5 BP5 HB5 hfr5
  go_upto_region 5 with (fail)
  have hn1 : wrap64 ((L.length : Int) - 1) = (L.length : Int) - 1 := by unfold wrap64; omega
  have hn2 : (1 : Int) ≤ L.length := by omega
  have hn3 : (L.length : Int) - 1 < L.length := by omega
  refine start_ (n := 15) (S := fun w' => w'.cell? ⟨w.heap.size, 0, none⟩ = some (.pointer (some ⟨B, 0, none⟩)) ∧ w'.cell? ⟨B, 1, none⟩ = some (.slice (some ⟨g, 0, none⟩) L.length c6)) (ds := [14]) #[false, false, false, false, false, false, false, false, false, false, false, false, false, false, false] (by kernel_rfl) rfl rfl ⟨blk_cell BP6.out 0, blk_cell HP6.out 1⟩ (fun hHeld => ?_)
  have HPt := Aside0.mk (pb_below HP6.out (Below.refl _ _).drew)
  have HRt := Aside0.mk (Rows_below HR6.out (Below.refl _ _).drew)
  have BPt := Aside0.mk (blk_below BP6.out (Below.refl _ _).drew)
  have HBt := Aside0.mk (HB6.out.drew)
  generalize w6.drew = wdt at HPt HRt BPt HBt hHeld ⊢
  clear HP6 HR6 BP6 HB6
  refine take_ (i := 0) (N := some 37) (v := ?_) (a' := ?_) #[true, false, false, false, false, false, false, false, false, false, false, false, false, false, false] rfl rfl (by kernel_rfl) (fun _ _ _ h => h) (Or.inl ⟨by rfl, ?_⟩) hHeld ?_ ?_
  rotate_left
  · rintro w' ⟨s0, s1⟩
    go_simp
    with_reducible rfl
  rotate_left
  · simp only [Act.put, List.setIfInBounds_toArray, List.set_cons_zero, List.set_cons_succ, i64_w, i32_w]
    rfl
  refine pure_ (i := 1) (N := some 38) (v := ?_) (a' := ?_) #[true, true, false, false, false, false, false, false, false, false, false, false, false, false, false] rfl rfl (by kernel_rfl) (fun _ _ _ h => h) (Or.inl ⟨by rfl, ?_⟩) ?_ ?_
  rotate_left
  · intro w'
    go_simp
    with_reducible rfl
  rotate_left
  · simp only [Act.put, List.setIfInBounds_toArray, List.set_cons_zero, List.set_cons_succ, i64_w, i32_w]
    rfl
  refine pure_ (i := 2) (N := some 39) (v := ?_) (a' := ?_) #[true, true, true, false, false, false, false, false, false, false, false, false, false, false, false] rfl rfl (by kernel_rfl) (fun _ _ _ h => h) (Or.inl ⟨by rfl, ?_⟩) ?_ ?_
  rotate_left
  · intro w'
    go_simp
    with_reducible rfl
  rotate_left
  · simp only [Act.put, List.setIfInBounds_toArray, List.set_cons_zero, List.set_cons_succ, i64_w, i32_w]
    rfl
  refine pure_ (i := 3) (N := some 40) (v := ?_) (a' := ?_) #[true, true, true, true, false, false, false, false, false, false, false, false, false, false, false] rfl rfl (by kernel_rfl) (fun _ _ _ h => h) (Or.inl ⟨by rfl, ?_⟩) ?_ ?_
  rotate_left
  · intro w'
    go_simp
    with_reducible rfl
  rotate_left
  · simp only [Act.put, List.setIfInBounds_toArray, List.set_cons_zero, List.set_cons_succ, i64_w, i32_w]
    rfl
  refine take_ (i := 4) (N := some 41) (v := ?_) (a' := ?_) #[true, true, true, true, true, false, false, false, false, false, false, false, false, false, false] rfl rfl (by kernel_rfl) (fun _ _ _ h => h) (Or.inl ⟨by rfl, ?_⟩) hHeld ?_ ?_
  rotate_left
  · rintro w' ⟨s0, s1⟩
    go_simp
    with_reducible rfl
  rotate_left
  · simp only [Act.put, List.setIfInBounds_toArray, List.set_cons_zero, List.set_cons_succ, i64_w, i32_w]
    rfl
  refine take_ (i := 5) (N := some 42) (v := ?_) (a' := ?_) #[true, true, true, true, true, true, false, false, false, false, false, false, false, false, false] rfl rfl (by kernel_rfl) (fun _ _ _ h => h) (Or.inl ⟨by rfl, ?_⟩) hHeld ?_ ?_
  rotate_left
  · rintro w' ⟨s0, s1⟩
    go_simp
    with_reducible rfl
  rotate_left
  · simp only [Act.put, List.setIfInBounds_toArray, List.set_cons_zero, List.set_cons_succ, i64_w, i32_w]
    rfl
  refine pure_ (i := 6) (N := some 43) (v := ?_) (a' := ?_) #[true, true, true, true, true, true, true, false, false, false, false, false, false, false, false] rfl rfl (by kernel_rfl) (fun _ _ _ h => h) (Or.inl ⟨by rfl, ?_⟩) ?_ ?_
  rotate_left
  · intro w'
    go_simp
    with_reducible rfl
  rotate_left
  · simp only [Act.put, List.setIfInBounds_toArray, List.set_cons_zero, List.set_cons_succ, i64_w, i32_w]
    rfl
  refine pure_ (i := 7) (N := some 44) (v := ?_) (a' := ?_) #[true, true, true, true, true, true, true, true, false, false, false, false, false, false, false] rfl rfl (by kernel_rfl) (fun _ _ _ h => h) (Or.inl ⟨by rfl, ?_⟩) ?_ ?_
  rotate_left
  · intro w'
    go_simp
    with_reducible rfl
  rotate_left
  · simp only [Act.put, List.setIfInBounds_toArray, List.set_cons_zero, List.set_cons_succ, i64_w, i32_w]
    rfl
  refine pure_ (i := 8) (N := some 45) (v := ?_) (a' := ?_) #[true, true, true, true, true, true, true, true, true, false, false, false, false, false, false] rfl rfl (by kernel_rfl) (fun _ _ _ h => h) (Or.inl ⟨by rfl, ?_⟩) ?_ ?_
  rotate_left
  · intro w'
    go_simp
    with_reducible rfl
  rotate_left
  · simp only [Act.put, List.setIfInBounds_toArray, List.set_cons_zero, List.set_cons_succ, i64_w, i32_w]
    rfl
  refine take_ (i := 9) (N := some 46) (v := ?_) (a' := ?_) #[true, true, true, true, true, true, true, true, true, true, false, false, false, false, false] rfl rfl (by kernel_rfl) (fun _ _ _ h => h) (Or.inl ⟨by rfl, ?_⟩) hHeld ?_ ?_
  rotate_left
  · rintro w' ⟨s0, s1⟩
    go_simp
    with_reducible rfl
  rotate_left
  · simp only [Act.put, List.setIfInBounds_toArray, List.set_cons_zero, List.set_cons_succ, i64_w, i32_w]
    rfl
  refine pure_ (i := 10) (N := some 47) (v := ?_) (a' := ?_) #[true, true, true, true, true, true, true, true, true, true, true, false, false, false, false] rfl rfl (by kernel_rfl) (fun _ _ _ h => h) (Or.inl ⟨by rfl, ?_⟩) ?_ ?_
  rotate_left
  · intro w'
    go_simp
    with_reducible rfl
  rotate_left
  · simp only [Act.put, List.setIfInBounds_toArray, List.set_cons_zero, List.set_cons_succ, i64_w, i32_w]
    rfl
  refine pure_ (i := 11) (N := some 48) (v := ?_) (a' := ?_) #[true, true, true, true, true, true, true, true, true, true, true, true, false, false, false] rfl rfl (by kernel_rfl) (fun _ _ _ h => h) (Or.inl ⟨by rfl, ?_⟩) ?_ ?_
  rotate_left
  · intro w'
    go_simp
    with_reducible rfl
  rotate_left
  · simp only [Act.put, List.setIfInBounds_toArray, List.set_cons_zero, List.set_cons_succ, i64_w, i32_w]
    rfl
  refine pure_ (i := 12) (N := some 49) (v := ?_) (a' := ?_) #[true, true, true, true, true, true, true, true, true, true, true, true, true, false, false] rfl rfl (by kernel_rfl) (fun _ _ _ h => h) (Or.inl ⟨by rfl, ?_⟩) ?_ ?_
  rotate_left
  · intro w'
    go_simp
    with_reducible rfl
  rotate_left
  · simp only [Act.put, List.setIfInBounds_toArray, List.set_cons_zero, List.set_cons_succ, i64_w, i32_w]
    rfl
  refine one_ (i := 13) (N := some 5) #[true, true, true, true, true, true, true, true, true, true, true, true, true, true, false] rfl rfl (by kernel_rfl) (by decide) (fun K hK => ?_)
  refine value_ (w1 := ?_) (v := ?_) (by rfl) rfl ?_ ?_
  rotate_left 2
  · go_simp
    constructor
    · rfl
    · rfl
  refine hK.out _ _ ⟨blk_cell (blk_alloc BPt.out _) 0, blk_cell (blk_alloc HPt.out _) 1⟩ (fun hHeld => ?_)
  clear hK K
  refine norm_ (a' := ?_) ?_ ?_
  rotate_left
  · show Act.put _ (some 5) _ = _
    simp only [Act.put, List.setIfInBounds_toArray, List.set_cons_zero, List.set_cons_succ, i64_w, i32_w]
    rfl
  refine last_ (i := 14) (N := none) #[true, true, true, true, true, true, true, true, true, true, true, true, true, true, true] rfl rfl (by kernel_rfl) (by decide) (fun K hK => ?_)
  refine skip_ (w1 := ?_) (by rfl) rfl ?_ ?_
  rotate_left
  · go_simp
    rfl
  refine hK.out _ _ ?_
  clear hK K
  refine done_ (by kernel_rfl) ?_
  have HA7 := Aside0.mk ((Below.refl wdt.heap.size wdt).alloc (Nat.le_refl _) (.cells #[.pointer (some ⟨g, (L.length - 1) * 2, none⟩)] 118))
  have BR7 := Aside0.mk (blk_new wdt (.cells #[.pointer (some ⟨g, (L.length - 1) * 2, none⟩)] 118))
  have BP7 := Aside0.mk (blk_below BPt.out HA7.out)
  have HP7 := Aside0.mk (pb_below HPt.out HA7.out)
  have HR7 := Aside0.mk (Rows_below HRt.out HA7.out)
  have HB7 := Aside0.mk (HBt.out.trans (HA7.out.mono (Nat.le_trans hbw0 HBt.out.size)))
  obtain ⟨Br, hBr⟩ : ∃ Br, wdt.heap.size = Br := ⟨_, rfl⟩
  generalize wdt.alloc (.cells #[.pointer (some ⟨g, (L.length - 1) * 2, none⟩)] 118) = w7 at HA7 BR7 BP7 HP7 HR7 HB7 ⊢
  rw [hBr] at BR7 ⊢
  clear hHeld HPt HRt BPt HBt HA7 hBr
  have hq1 : w7.cell? ⟨w.heap.size, 0, none⟩ = some (.pointer (some ⟨B, 0, none⟩)) := blk_cell BP7.out 0
  have hq4 : w7.cell? ⟨B, 5, none⟩ = some fd := blk_cell HP7.out 5
  have hq5 : w7.cell? ⟨B, 6, none⟩ = some fo := blk_cell HP7.out 6
  have hq2 := blk_frozen HP7.out 5
  have hq3 := blk_frozen HP7.out 6
  have hBr : ¬ Br = B := fun h => heap_ne BR7.out HP7.out (by decide) h
  go_wp2_with fail
  go_end0
  have k1 := kept_one w7 B 5 (.func (.func 83) #[] #[.pointer (some ⟨w.heap.size, 0, none⟩), .pointer (some ⟨Br, 0, none⟩)])
  have p1 : Pb _ B vE (.slice (some ⟨g, 0, none⟩) L.length c6) vD vO vR (.func (.func 83) #[] #[.pointer (some ⟨w.heap.size, 0, none⟩), .pointer (some ⟨Br, 0, none⟩)]) fo e4 := blk_put HP7.out 5 _ rfl
  have k2 := kept_one (w7.setCell ⟨B, 5, none⟩ (.func (.func 83) #[] #[.pointer (some ⟨w.heap.size, 0, none⟩), .pointer (some ⟨Br, 0, none⟩)])) B 6 (.func (.func 84) #[] #[.pointer (some ⟨w.heap.size, 0, none⟩), .pointer (some ⟨Br, 0, none⟩)])
  exact ⟨rfl, ⟨vE, (.slice (some ⟨g, 0, none⟩) L.length c6), vD, vO, vR, _, _, hbB, blk_put p1 6 _ rfl, Rows_kept (Rows_kept HR7.out k1 (apart_one HP7.out (by decide))) k2 (apart_one p1 (by decide)), ⟨w.heap.size, Br, g, c6, rfl, rfl, blk_kept (blk_kept BP7.out k1 hne) k2 hne, blk_kept (blk_kept BR7.out k1 hBr) k2 hBr, rfl, hL1⟩⟩, (HB7.out.setCell (p := ⟨B, 5, none⟩) hbB _).setCell (p := ⟨B, 6, none⟩) hbB _⟩
end Go.Proofs.YtefheailchihaaaGreatDoor.Print

end
section
namespace Go.Proofs.YtefheailchihaaaGreatDoor.Print
open Go.RowKit Go.Lib Go.Shelf Go.Proofs.YtefheailchihaaaGreatDoorW.PrintWords Go.Proofs.YtefheailchihaaaGreatDoorW.PrintLast Go.Proofs.YtefheailchihaaaGreatDoorW.PrintMore
set_option linter.unusedVariables false
set_option linter.unusedSimpArgs false
attribute [local go_sem ↓] Go.wp_at_zero Go.wp_at_succ

/-- A list's last rule. -/
def lastR (l : List S116) : S116 := l.getD (l.length - 1) z116
def cells116 (x : S116) : List Value := [.string x.f0, .string x.f1, .string x.f2, .bool x.f3, .bool x.f4]
theorem rule_last {w : World} {base g c : Nat} {ok : Nat → Prop} {xs : List S116} (h : Kd.R k116 116 w base ok (.slice (some ⟨g, 0, none⟩) xs.length c) xs) (hn : 1 ≤ xs.length) :
    (∀ j u, (cells116 (lastR xs))[j]? = some u → w.cell? ⟨g, (xs.length - 1) * 5 + j, none⟩ = some u) ∧ (∀ j, w.frozen? ⟨g, (xs.length - 1) * 5 + j, none⟩ = false) ∧
    (∀ j u x', j < 5 → (cells116 (lastR xs)).set j u = cells116 x' → Kd.R k116 116 (w.setCell ⟨g, (xs.length - 1) * 5 + j, none⟩ u) base ok (.slice (some ⟨g, 0, none⟩) xs.length c) (xs.set (xs.length - 1) x')) := by
  obtain ⟨cs, hcl, hM, hcc, hfr⟩ := Kd.R_elem h z116 ((xs.length - 1 : Nat) : Int) (by omega) (by omega)
  have hx : xs.getD ((xs.length - 1 : Nat) : Int).toNat z116 = lastR xs := by rw [Int.toNat_natCast]; rfl
  rw [hx] at hM
  obtain rfl := k116_openM hM
  refine ⟨fun j u hj => by have := hcc j u hj; rwa [Int.toNat_natCast] at this, fun j => by have := hfr j; rwa [Int.toNat_natCast] at this, fun j u x' hj hset => ?_⟩
  have hseg := (Kd.R_seg h ((xs.length - 1 : Nat) : Int) (by omega) (by omega) (seg := [u]) (j := j) hcl hcc (show j + 1 ≤ 5 from hj) (x' := x') (okp := fun _ => False) ?_ (fun k hk => hk.elim)).1
  · rw [Int.toNat_natCast] at hseg
    exact hseg
  · have he : [Value.string (lastR xs).f0, .string (lastR xs).f1, .string (lastR xs).f2, .bool (lastR xs).f3, .bool (lastR xs).f4].take j ++ [u] ++ [Value.string (lastR xs).f0, .string (lastR xs).f1, .string (lastR xs).f2, .bool (lastR xs).f3, .bool (lastR xs).f4].drop (j + [u].length) = cells116 x' := by
      rw [← hset]
      show List.take j (cells116 (lastR xs)) ++ [u] ++ List.drop (j + 1) (cells116 (lastR xs)) = _
      rw [List.set_eq_take_append_cons_drop, if_pos (show j < (cells116 (lastR xs)).length from hj), List.append_assoc]
      rfl
    rw [he]
    exact k116_mkM _ _ _ _

theorem below_to {w wd w2 : World} {base : Nat} (h : Below base w wd) (hb : Below wd.heap.size wd w2) (hbw : base ≤ wd.heap.size) : Below base w w2 := h.trans (hb.mono hbw)
theorem Rows_rules {w w1 : World} {base : Nat} {p : Pst} {vE vP vD vO vR vR' : Value} {S : Nat → Prop} {L : List S116} (h : Rows w base p vE vP vD vO vR) (h5 : Kd.R k116 116 w1 base (fun _ => True) vR' L) (hk : Kept w w1 S) (hS : ∀ k, S k → ∃ cells, w.heap[k]? = some (.cells cells 116 (0, 0))) : Rows w1 base { p with rules := L } vE vP vD vO vR' := by
  obtain ⟨h1, h2, h3, h4, _⟩ := h
  have ap : ∀ {l : List Nat}, 116 ∉ l → ∀ k, S k → ∃ cells q, w.heap[k]? = some (.cells cells q (0, 0)) ∧ q ∉ l := fun hl k hk => by
    obtain ⟨cs, hc⟩ := hS k hk
    exact ⟨cs, 116, hc, hl⟩
  exact ⟨R_types h1 hk (ap (by decide)), R_types h2 hk (ap (by decide)), R_types h3 hk (ap (by decide)), R_types h4 hk (ap (by decide)), h5⟩
theorem rule_done {w : World} {base B Bp Br g c : Nat} {p : Pst} {vE vP vD vO fd fo : Value} {e : Int} {r : S116} (hbB : base ≤ B) (h : Pb w B vE vP vD vO (.slice (some ⟨g, 0, none⟩) p.rules.length c) fd fo e) (hR : Rows w base { p with rules := p.rules.set (p.rules.length - 1) r } vE vP vD vO (.slice (some ⟨g, 0, none⟩) p.rules.length c))
    (bp : w.heap[Bp]? = some (.cells #[.pointer (some ⟨B, 0, none⟩)] 52 (0, 0))) (br : w.heap[Br]? = some (.cells #[.pointer (some ⟨g, (p.rules.length - 1) * 5, none⟩)] 117 (0, 0)))
    (hfd : fd = .func (.func 80) #[] #[.pointer (some ⟨Bp, 0, none⟩), .pointer (some ⟨Br, 0, none⟩)]) (hfo : fo = .func (.func 82) #[] #[.pointer (some ⟨Bp, 0, none⟩), .pointer (some ⟨Br, 0, none⟩)]) (hn : 1 ≤ p.rules.length) :
    Mst w base B { p with rules := p.rules.set (p.rules.length - 1) r } .rule e := by
  have hl : (p.rules.set (p.rules.length - 1) r).length = p.rules.length := List.length_set
  refine ⟨vE, vP, vD, vO, _, fd, fo, hbB, h, hR, Bp, Br, g, c, hfd, hfo, bp, ?_, ?_, ?_⟩
  · show _ = some (Obj.cells #[Value.pointer (some ⟨g, ((p.rules.set (p.rules.length - 1) r).length - 1) * 5, none⟩)] 117 (0, 0))
    rw [hl]
    exact br
  · show _ = Value.slice _ (p.rules.set (p.rules.length - 1) r).length _
    rw [hl]
  · show 0 < (p.rules.set (p.rules.length - 1) r).length
    rw [hl]
    exact hn
theorem lastR_set (l : List S116) (x : S116) (hn : 1 ≤ l.length) : lastR (l.set (l.length - 1) x) = x := by
  unfold lastR
  rw [List.length_set, List.getD_eq_getElem?_getD, List.getElem?_set_self (by omega)]
  rfl
theorem lastR_self (l : List S116) (hn : 1 ≤ l.length) : l.set (l.length - 1) (lastR l) = l := by
  unfold lastR
  rw [List.getD_eq_getElem?_getD, List.getElem?_eq_getElem (by omega)]
  exact List.set_getElem_self (by omega)
theorem rule_two {w : World} {base g c : Nat} {ok : Nat → Prop} {xs : List S116} (value : ByteArray) (h : Kd.R k116 116 w base ok (.slice (some ⟨g, 0, none⟩) xs.length c) xs) (hn : 1 ≤ xs.length) :
    Kd.R k116 116 ((w.setCell ⟨g, (xs.length - 1) * 5 + 2, none⟩ (.string value)).setCell ⟨g, (xs.length - 1) * 5 + 4, none⟩ (.bool true)) base ok (.slice (some ⟨g, 0, none⟩) xs.length c) (xs.set (xs.length - 1) { lastR xs with f2 := value, f4 := true }) := by
  have h1 := (rule_last h hn).2.2 2 (.string value) { lastR xs with f2 := value } (by decide) rfl
  obtain ⟨x1, hx1⟩ : ∃ x : S116, { lastR xs with f2 := value } = x := ⟨_, rfl⟩
  rw [hx1] at h1
  obtain ⟨L, hL⟩ : ∃ L, xs.set (xs.length - 1) x1 = L := ⟨_, rfl⟩
  have hl : L.length = xs.length := by rw [← hL]; exact List.length_set
  have hlast : lastR L = x1 := by rw [← hL]; exact lastR_set xs x1 hn
  rw [hL, ← hl] at h1
  have h2 := (rule_last h1 (by rw [hl]; exact hn)).2.2 4 (.bool true) { lastR xs with f2 := value, f4 := true } (by decide) (by rw [hlast, ← hx1]; rfl)
  rw [hl, ← hL, List.set_set] at h2
  exact h2
/-- A rule's variable: the rule's new form, and is it one? -/
def ruleD1 (pools : List S44) (r : S116) (key value : ByteArray) : S116 × Bool :=
  if (key.toList == [99, 111, 109, 109, 97, 110, 100]) = true then ({ r with f1 := value }, r.f1.toList.isEmpty && !value.toList.isEmpty)
  else if (key.toList == [100, 101, 112, 115]) = true then ({ r with f3 := true }, !r.f3 && value.toList == [49])
  else if (key.toList == [112, 111, 111, 108]) = true then ({ r with f2 := value, f4 := true }, !r.f4 && decide (0 ≤ idxP (fun x : S44 => x.f0.toList == value.toList) pools))
  else (r, false)
def ruleD (p : Pst) (key value : ByteArray) : Pst := { p with rules := p.rules.set (p.rules.length - 1) (ruleD1 p.pools (lastR p.rules) key value).1 }
def ruleDE (p : Pst) (e : Int) (key value : ByteArray) : Int := needE e (ruleD1 p.pools (lastR p.rules) key value).2

set_option maxHeartbeats 4000000 in
set_option maxRecDepth 100000 in
theorem deep80_calls (base B Bp Br g c : Nat) (p : Pst) (vE vP vD vO fd fo : Value) (e : Int) (key value : ByteArray) (w : World) (hbB : base ≤ B) (hbg : base ≤ g) (h : Pb w B vE vP vD vO (.slice (some ⟨g, 0, none⟩) p.rules.length c) fd fo e) (hR : Rows w base p vE vP vD vO (.slice (some ⟨g, 0, none⟩) p.rules.length c)) (hn : 1 ≤ p.rules.length)
    (bp : w.heap[Bp]? = some (.cells #[.pointer (some ⟨B, 0, none⟩)] 52 (0, 0))) (br : w.heap[Br]? = some (.cells #[.pointer (some ⟨g, (p.rules.length - 1) * 5, none⟩)] 117 (0, 0)))
    (hfd : fd = .func (.func 80) #[] #[.pointer (some ⟨Bp, 0, none⟩), .pointer (some ⟨Br, 0, none⟩)]) (hfo : fo = .func (.func 82) #[] #[.pointer (some ⟨Bp, 0, none⟩), .pointer (some ⟨Br, 0, none⟩)]) :
    Calls Tryz.prog 80 #[.string key, .string value, .pointer (some ⟨Bp, 0, none⟩), .pointer (some ⟨Br, 0, none⟩)] w fun x w' => x = .returned (.tuple #[]) ∧ Mst w' base B (ruleD p key value) .rule (ruleDE p e key value) ∧ Below base w w' := by
  have hBpB : ¬ Bp = B := fun q => heap_ne bp h (by decide) q
  have hBrB : ¬ Br = B := fun q => heap_ne br h (by decide) q
  have hBpg : ¬ Bp = g := by
    obtain ⟨cs, hg⟩ := R_own_type hR.2.2.2.2 (k := g) rfl
    exact fun q => heap_ne bp hg (by decide) q
  have hBrg : ¬ Br = g := by
    obtain ⟨cs, hg⟩ := R_own_type hR.2.2.2.2 (k := g) rfl
    exact fun q => heap_ne br hg (by decide) q
  have hBg : ¬ B = g := by
    obtain ⟨cs, hg⟩ := R_own_type hR.2.2.2.2 (k := g) rfl
    exact fun q => heap_ne h hg (by decide) q
  have hbw : base ≤ w.heap.size := Nat.le_trans hbB (Nat.le_of_lt (blk_lt h))
  have HRW := Aside0.mk hR
  have HPW := Aside0.mk h
  have BPW := Aside0.mk bp
  have BRW := Aside0.mk br
  have HFD := Aside0.mk hfd
  have HFO := Aside0.mk hfo
  obtain ⟨lc, lf, _⟩ := rule_last hR.2.2.2.2 hn
  have z0 : w.cell? ⟨Bp, 0, none⟩ = some (.pointer (some ⟨B, 0, none⟩)) := blk_cell bp 0
  have z1 : w.cell? ⟨Br, 0, none⟩ = some (.pointer (some ⟨g, (p.rules.length - 1) * 5, none⟩)) := blk_cell br 0
  have c1 := lc 1 _ rfl
  have c3 := lc 3 _ rfl
  have c4 := lc 4 _ rfl
  have hEQ : ruleDE p e key value = needE e (ruleD1 p.pools (lastR p.rules) key value).2 := rfl
  have hPQ : ruleD p key value = { p with rules := p.rules.set (p.rules.length - 1) (ruleD1 p.pools (lastR p.rules) key value).1 } := rfl
  unfold ruleD1 at hEQ hPQ
  have HEQ := Aside0.mk hEQ
  have HPQ := Aside0.mk hPQ
  obtain ⟨E', hE'⟩ : ∃ E', ruleDE p e key value = E' := ⟨_, rfl⟩
  obtain ⟨P', hP'⟩ : ∃ P', ruleD p key value = P' := ⟨_, rfl⟩
  rw [hE'] at HEQ ⊢
  rw [hP'] at HPQ ⊢
  clear h hR bp br hfd hfo lc lf hEQ hPQ hE' hP'
  obtain ⟨r, hr⟩ : ∃ r, lastR p.rules = r := ⟨_, rfl⟩
  rw [hr] at c1 c3 c4 HEQ HPQ
  have HRR := Aside0.mk hr
  clear hr
  obtain ⟨o, ho⟩ : ∃ o, (p.rules.length - 1) * 5 = o := ⟨_, rfl⟩
  have HOO := Aside0.mk ho
  rw [ho] at z1 c1 c3 c4
  clear ho
  go_enter Tryz.func80, Tryz.ntmps80
  go_upto_region 3 with (fail)
  · rename_i hk1
    cases hf1 : r.f1.toList.isEmpty with
    | true =>
      refine start_ (n := 11) (S := fun w' => w'.cell? ⟨Bp, 0, none⟩ = some (.pointer (some ⟨B, 0, none⟩)) ∧ w'.cell? ⟨Br, 0, none⟩ = some (.pointer (some ⟨g, o, none⟩)) ∧ w'.cell? ⟨g, o + 1, none⟩ = some (.string r.f1)) (ds := [10]) #[false, false, false, false, false, false, false, false, false, false, false] (by kernel_rfl) rfl rfl ⟨z0, z1, c1⟩ (fun hHeld => ?_)
      have HPd := Aside0.mk (pb_below HPW.out (Below.refl _ _).drew)
      have HRd := Aside0.mk (Rows_below HRW.out (Below.refl _ _).drew)
      have BPd := Aside0.mk (blk_below BPW.out (Below.refl _ _).drew)
      have BRd := Aside0.mk (blk_below BRW.out (Below.refl _ _).drew)
      have HBd := Aside0.mk ((Below.refl base w).drew)
      generalize w.drew = wd at HPd HRd BPd BRd HBd hHeld ⊢
      refine take_ (i := 0) (N := some 11) (v := ?_) (a' := ?_) #[true, false, false, false, false, false, false, false, false, false, false] rfl rfl (by kernel_rfl) (fun _ _ _ h => h) (Or.inl ⟨by rfl, ?_⟩) hHeld ?_ ?_
      rotate_left
      · rintro w' ⟨s0, s1, s2⟩
        go_simp
        with_reducible rfl
      rotate_left
      · simp only [Act.put, List.setIfInBounds_toArray, List.set_cons_zero, List.set_cons_succ, i64_w, i32_w]
        rfl
      refine take_ (i := 1) (N := some 12) (v := ?_) (a' := ?_) #[true, true, false, false, false, false, false, false, false, false, false] rfl rfl (by kernel_rfl) (fun _ _ _ h => h) (Or.inl ⟨by rfl, ?_⟩) hHeld ?_ ?_
      rotate_left
      · rintro w' ⟨s0, s1, s2⟩
        go_simp
        with_reducible rfl
      rotate_left
      · simp only [Act.put, List.setIfInBounds_toArray, List.set_cons_zero, List.set_cons_succ, i64_w, i32_w]
        rfl
      refine pure_ (i := 2) (N := some 13) (v := ?_) (a' := ?_) #[true, true, true, false, false, false, false, false, false, false, false] rfl rfl (by kernel_rfl) (fun _ _ _ h => h) (Or.inl ⟨by rfl, ?_⟩) ?_ ?_
      rotate_left
      · intro w'
        go_simp
        with_reducible rfl
      rotate_left
      · simp only [Act.put, List.setIfInBounds_toArray, List.set_cons_zero, List.set_cons_succ, i64_w, i32_w]
        rfl
      refine pure_ (i := 3) (N := some 14) (v := ?_) (a' := ?_) #[true, true, true, true, false, false, false, false, false, false, false] rfl rfl (by kernel_rfl) (fun _ _ _ h => h) (Or.inl ⟨by rfl, ?_⟩) ?_ ?_
      rotate_left
      · intro w'
        go_simp
        with_reducible rfl
      rotate_left
      · simp only [Act.put, List.setIfInBounds_toArray, List.set_cons_zero, List.set_cons_succ, i64_w, i32_w]
        rfl
      refine take_ (i := 4) (N := some 15) (v := ?_) (a' := ?_) #[true, true, true, true, true, false, false, false, false, false, false] rfl rfl (by kernel_rfl) (fun _ _ _ h => h) (Or.inl ⟨by rfl, ?_⟩) hHeld ?_ ?_
      rotate_left
      · rintro w' ⟨s0, s1, s2⟩
        go_simp
        with_reducible rfl
      rotate_left
      · simp only [Act.put, List.setIfInBounds_toArray, List.set_cons_zero, List.set_cons_succ, i64_w, i32_w]
        rfl
      refine pure_ (i := 5) (N := some 16) (v := ?_) (a' := ?_) #[true, true, true, true, true, true, false, false, false, false, false] rfl rfl (by kernel_rfl) (fun _ _ _ h => h) (Or.inl ⟨by rfl, ?_⟩) ?_ ?_
      rotate_left
      · intro w'
        go_simp
        with_reducible rfl
      rotate_left
      · simp only [Act.put, List.setIfInBounds_toArray, List.set_cons_zero, List.set_cons_succ, i64_w, i32_w]
        rfl
      refine pure_ (i := 6) (N := some 17) (v := ?_) (a' := ?_) #[true, true, true, true, true, true, true, false, false, false, false] rfl rfl (by kernel_rfl) (fun _ _ _ h => h) (Or.inl ⟨by rfl, ?_⟩) ?_ ?_
      rotate_left
      · intro w'
        go_simp
        with_reducible rfl
      rotate_left
      · simp only [Act.put, List.setIfInBounds_toArray, List.set_cons_zero, List.set_cons_succ, i64_w, i32_w]
        rfl
      refine pure_ (i := 7) (N := some 18) (v := ?_) (a' := ?_) #[true, true, true, true, true, true, true, true, false, false, false] rfl rfl (by kernel_rfl) (fun _ _ _ h => h) (Or.inl ⟨by rfl, ?_⟩) ?_ ?_
      rotate_left
      · intro w'
        go_simp
        with_reducible rfl
      rotate_left
      · simp only [Act.put, List.setIfInBounds_toArray, List.set_cons_zero, List.set_cons_succ, i64_w, i32_w]
        rfl
      refine pure_ (i := 8) (N := some 19) (v := ?_) (a' := ?_) #[true, true, true, true, true, true, true, true, true, false, false] rfl rfl (by kernel_rfl) (fun _ _ _ h => h) (Or.inl ⟨by rfl, ?_⟩) ?_ ?_
      rotate_left
      · intro w'
        go_simp
        with_reducible rfl
      rotate_left
      · simp only [Act.put, List.setIfInBounds_toArray, List.set_cons_zero, List.set_cons_succ, i64_w, i32_w]
        rfl
      refine pure_ (i := 9) (N := some 20) (v := ?_) (a' := ?_) #[true, true, true, true, true, true, true, true, true, true, false] rfl rfl (by kernel_rfl) (fun _ _ _ h => h) (Or.inl ⟨by rfl, ?_⟩) ?_ ?_
      rotate_left
      · intro w'
        go_simp
        with_reducible rfl
      rotate_left
      · simp only [Act.put, List.setIfInBounds_toArray, List.set_cons_zero, List.set_cons_succ, i64_w, i32_w]
        rfl
      refine last_ (i := 10) (N := some 21) #[true, true, true, true, true, true, true, true, true, true, true] rfl rfl (by kernel_rfl) (by decide) (fun K hK => ?_)
      refine goes_ Tryz.func40 (by kernel_rfl) rfl #[.pointer (some ⟨B, 0, none⟩), .bool (!value.toList.isEmpty)] (by rfl) rfl rfl (by simp only [List.map_toArray, List.map_cons, List.map_nil]; rfl) ?_
      with_reducible refine (need_calls B vE vP vD vO (.slice (some ⟨g, 0, none⟩) p.rules.length c) fd fo e (!value.toList.isEmpty) _ HPd.out).mono ?_
      rintro x w3 ⟨rfl, hp, hk, hb⟩
      refine ⟨_, rfl, ?_⟩
      have HP3 := Aside0.mk hp
      have HR3 := Aside0.mk (Rows_kept HRd.out hk (apart_one HPd.out (by decide)))
      have BP3 := Aside0.mk (blk_kept BPd.out hk hBpB)
      have BR3 := Aside0.mk (blk_kept BRd.out hk hBrB)
      have HB3 := Aside0.mk (HBd.out.trans (hb base hbB))
      clear hp hk hb HPd HRd BPd BRd HBd
      refine hK.out _ _ ?_
      clear hK K
      refine norm_ (a' := ?_) ?_ ?_
      rotate_left
      · show Act.put _ (some 21) _ = _
        simp only [Act.put, List.setIfInBounds_toArray, List.set_cons_zero, List.set_cons_succ, i64_w, i32_w]
        rfl
      refine done_ (by kernel_rfl) ?_
      obtain ⟨lc, lf, lset⟩ := rule_last HR3.out.2.2.2.2 hn
      rw [HRR.out, HOO.out] at lc
      rw [HOO.out] at lf lset
      rw [HRR.out] at lset
      have y0 : w3.cell? ⟨Bp, 0, none⟩ = some (.pointer (some ⟨B, 0, none⟩)) := blk_cell BP3.out 0
      have y1 : w3.cell? ⟨Br, 0, none⟩ = some (.pointer (some ⟨g, o, none⟩)) := by have := blk_cell BR3.out 0; rw [HOO.out] at this; exact this
      have y2 := lc 1 _ rfl
      have y3 := lf 1
      have LS := Aside0.mk (lset 1 (.string value) { r with f1 := value } (by decide) rfl)
      clear lc lf lset
      go_wp2_with fail
      go_end0
      have hk := kept_one w3 g (o + 1) (.string value)
      refine ⟨rfl, ?_, HB3.out.setCell (p := ⟨g, o + 1, none⟩) hbg _⟩
      have hE : needE e (!value.toList.isEmpty) = E' := by rw [HEQ.out]; simp [*]
      have hP : { p with rules := p.rules.set (p.rules.length - 1) { r with f1 := value } } = P' := by rw [HPQ.out]; simp [*]
      rw [← hE, ← hP]
      exact rule_done hbB (blk_far HP3.out hBg _) (Rows_rules HR3.out LS.out hk (fun k hk => by have hk' : k = g := hk; subst hk'; exact R_own_type HR3.out.2.2.2.2 rfl)) (blk_kept BP3.out hk hBpg) (blk_kept BR3.out hk hBrg) HFD.out HFO.out hn
    | false =>
      refine start_ (n := 11) (S := fun w' => w'.cell? ⟨Bp, 0, none⟩ = some (.pointer (some ⟨B, 0, none⟩)) ∧ w'.cell? ⟨Br, 0, none⟩ = some (.pointer (some ⟨g, o, none⟩)) ∧ w'.cell? ⟨g, o + 1, none⟩ = some (.string r.f1)) (ds := [10]) #[false, false, false, false, false, false, false, false, false, false, false] (by kernel_rfl) rfl rfl ⟨z0, z1, c1⟩ (fun hHeld => ?_)
      have HPd := Aside0.mk (pb_below HPW.out (Below.refl _ _).drew)
      have HRd := Aside0.mk (Rows_below HRW.out (Below.refl _ _).drew)
      have BPd := Aside0.mk (blk_below BPW.out (Below.refl _ _).drew)
      have BRd := Aside0.mk (blk_below BRW.out (Below.refl _ _).drew)
      have HBd := Aside0.mk ((Below.refl base w).drew)
      generalize w.drew = wd at HPd HRd BPd BRd HBd hHeld ⊢
      refine take_ (i := 0) (N := some 11) (v := ?_) (a' := ?_) #[true, false, false, false, false, false, false, false, false, false, false] rfl rfl (by kernel_rfl) (fun _ _ _ h => h) (Or.inl ⟨by rfl, ?_⟩) hHeld ?_ ?_
      rotate_left
      · rintro w' ⟨s0, s1, s2⟩
        go_simp
        with_reducible rfl
      rotate_left
      · simp only [Act.put, List.setIfInBounds_toArray, List.set_cons_zero, List.set_cons_succ, i64_w, i32_w]
        rfl
      refine take_ (i := 1) (N := some 12) (v := ?_) (a' := ?_) #[true, true, false, false, false, false, false, false, false, false, false] rfl rfl (by kernel_rfl) (fun _ _ _ h => h) (Or.inl ⟨by rfl, ?_⟩) hHeld ?_ ?_
      rotate_left
      · rintro w' ⟨s0, s1, s2⟩
        go_simp
        with_reducible rfl
      rotate_left
      · simp only [Act.put, List.setIfInBounds_toArray, List.set_cons_zero, List.set_cons_succ, i64_w, i32_w]
        rfl
      refine pure_ (i := 2) (N := some 13) (v := ?_) (a' := ?_) #[true, true, true, false, false, false, false, false, false, false, false] rfl rfl (by kernel_rfl) (fun _ _ _ h => h) (Or.inl ⟨by rfl, ?_⟩) ?_ ?_
      rotate_left
      · intro w'
        go_simp
        with_reducible rfl
      rotate_left
      · simp only [Act.put, List.setIfInBounds_toArray, List.set_cons_zero, List.set_cons_succ, i64_w, i32_w]
        rfl
      refine pure_ (i := 3) (N := some 14) (v := ?_) (a' := ?_) #[true, true, true, true, false, false, false, false, false, false, false] rfl rfl (by kernel_rfl) (fun _ _ _ h => h) (Or.inl ⟨by rfl, ?_⟩) ?_ ?_
      rotate_left
      · intro w'
        go_simp
        with_reducible rfl
      rotate_left
      · simp only [Act.put, List.setIfInBounds_toArray, List.set_cons_zero, List.set_cons_succ, i64_w, i32_w]
        rfl
      refine take_ (i := 4) (N := some 15) (v := ?_) (a' := ?_) #[true, true, true, true, true, false, false, false, false, false, false] rfl rfl (by kernel_rfl) (fun _ _ _ h => h) (Or.inl ⟨by rfl, ?_⟩) hHeld ?_ ?_
      rotate_left
      · rintro w' ⟨s0, s1, s2⟩
        go_simp
        with_reducible rfl
      rotate_left
      · simp only [Act.put, List.setIfInBounds_toArray, List.set_cons_zero, List.set_cons_succ, i64_w, i32_w]
        rfl
      refine pure_ (i := 5) (N := some 16) (v := ?_) (a' := ?_) #[true, true, true, true, true, true, false, false, false, false, false] rfl rfl (by kernel_rfl) (fun _ _ _ h => h) (Or.inl ⟨by rfl, ?_⟩) ?_ ?_
      rotate_left
      · intro w'
        go_simp
        with_reducible rfl
      rotate_left
      · simp only [Act.put, List.setIfInBounds_toArray, List.set_cons_zero, List.set_cons_succ, i64_w, i32_w]
        rfl
      refine pure_ (i := 6) (N := some 17) (v := ?_) (a' := ?_) #[true, true, true, true, true, true, true, false, false, false, false] rfl rfl (by kernel_rfl) (fun _ _ _ h => h) (Or.inl ⟨by rfl, ?_⟩) ?_ ?_
      rotate_left
      · intro w'
        go_simp
        with_reducible rfl
      rotate_left
      · simp only [Act.put, List.setIfInBounds_toArray, List.set_cons_zero, List.set_cons_succ, i64_w, i32_w]
        rfl
      refine pure_ (i := 7) (N := some 18) (v := undef) (a' := ?_) #[true, true, true, true, true, true, true, true, false, false, false] rfl rfl (by kernel_rfl) (fun _ _ _ h => h) (Or.inr ⟨by rfl, rfl⟩) ?_ ?_
      rotate_left
      · simp only [Act.put, List.setIfInBounds_toArray, List.set_cons_zero, List.set_cons_succ, i64_w, i32_w]
        rfl
      refine pure_ (i := 8) (N := some 19) (v := undef) (a' := ?_) #[true, true, true, true, true, true, true, true, true, false, false] rfl rfl (by kernel_rfl) (fun _ _ _ h => h) (Or.inr ⟨by rfl, rfl⟩) ?_ ?_
      rotate_left
      · simp only [Act.put, List.setIfInBounds_toArray, List.set_cons_zero, List.set_cons_succ, i64_w, i32_w]
        rfl
      refine pure_ (i := 9) (N := some 20) (v := ?_) (a' := ?_) #[true, true, true, true, true, true, true, true, true, true, false] rfl rfl (by kernel_rfl) (fun _ _ _ h => h) (Or.inl ⟨by rfl, ?_⟩) ?_ ?_
      rotate_left
      · intro w'
        go_simp
        with_reducible rfl
      rotate_left
      · simp only [Act.put, List.setIfInBounds_toArray, List.set_cons_zero, List.set_cons_succ, i64_w, i32_w]
        rfl
      refine last_ (i := 10) (N := some 21) #[true, true, true, true, true, true, true, true, true, true, true] rfl rfl (by kernel_rfl) (by decide) (fun K hK => ?_)
      refine goes_ Tryz.func40 (by kernel_rfl) rfl #[.pointer (some ⟨B, 0, none⟩), .bool false] (by rfl) rfl rfl (by simp only [List.map_toArray, List.map_cons, List.map_nil]; rfl) ?_
      with_reducible refine (need_calls B vE vP vD vO (.slice (some ⟨g, 0, none⟩) p.rules.length c) fd fo e false _ HPd.out).mono ?_
      rintro x w3 ⟨rfl, hp, hk, hb⟩
      refine ⟨_, rfl, ?_⟩
      have HP3 := Aside0.mk hp
      have HR3 := Aside0.mk (Rows_kept HRd.out hk (apart_one HPd.out (by decide)))
      have BP3 := Aside0.mk (blk_kept BPd.out hk hBpB)
      have BR3 := Aside0.mk (blk_kept BRd.out hk hBrB)
      have HB3 := Aside0.mk (HBd.out.trans (hb base hbB))
      clear hp hk hb HPd HRd BPd BRd HBd
      refine hK.out _ _ ?_
      clear hK K
      refine norm_ (a' := ?_) ?_ ?_
      rotate_left
      · show Act.put _ (some 21) _ = _
        simp only [Act.put, List.setIfInBounds_toArray, List.set_cons_zero, List.set_cons_succ, i64_w, i32_w]
        rfl
      refine done_ (by kernel_rfl) ?_
      obtain ⟨lc, lf, lset⟩ := rule_last HR3.out.2.2.2.2 hn
      rw [HRR.out, HOO.out] at lc
      rw [HOO.out] at lf lset
      rw [HRR.out] at lset
      have y0 : w3.cell? ⟨Bp, 0, none⟩ = some (.pointer (some ⟨B, 0, none⟩)) := blk_cell BP3.out 0
      have y1 : w3.cell? ⟨Br, 0, none⟩ = some (.pointer (some ⟨g, o, none⟩)) := by have := blk_cell BR3.out 0; rw [HOO.out] at this; exact this
      have y2 := lc 1 _ rfl
      have y3 := lf 1
      have LS := Aside0.mk (lset 1 (.string value) { r with f1 := value } (by decide) rfl)
      clear lc lf lset
      go_wp2_with fail
      go_end0
      have hk := kept_one w3 g (o + 1) (.string value)
      refine ⟨rfl, ?_, HB3.out.setCell (p := ⟨g, o + 1, none⟩) hbg _⟩
      have hE : needE e false = E' := by rw [HEQ.out]; simp [*]
      have hP : { p with rules := p.rules.set (p.rules.length - 1) { r with f1 := value } } = P' := by rw [HPQ.out]; simp [*]
      rw [← hE, ← hP]
      exact rule_done hbB (blk_far HP3.out hBg _) (Rows_rules HR3.out LS.out hk (fun k hk => by have hk' : k = g := hk; subst hk'; exact R_own_type HR3.out.2.2.2.2 rfl)) (blk_kept BP3.out hk hBpg) (blk_kept BR3.out hk hBrg) HFD.out HFO.out hn
  · rename_i hk1 hk2
    cases hf1 : r.f3 with
    | false =>
      rw [hf1] at c3
      refine start_ (n := 11) (S := fun w' => w'.cell? ⟨Bp, 0, none⟩ = some (.pointer (some ⟨B, 0, none⟩)) ∧ w'.cell? ⟨Br, 0, none⟩ = some (.pointer (some ⟨g, o, none⟩)) ∧ w'.cell? ⟨g, o + 3, none⟩ = some (.bool false)) (ds := [10]) #[false, false, false, false, false, false, false, false, false, false, false] (by kernel_rfl) rfl rfl ⟨z0, z1, c3⟩ (fun hHeld => ?_)
      have HPd := Aside0.mk (pb_below HPW.out (Below.refl _ _).drew)
      have HRd := Aside0.mk (Rows_below HRW.out (Below.refl _ _).drew)
      have BPd := Aside0.mk (blk_below BPW.out (Below.refl _ _).drew)
      have BRd := Aside0.mk (blk_below BRW.out (Below.refl _ _).drew)
      have HBd := Aside0.mk ((Below.refl base w).drew)
      generalize w.drew = wd at HPd HRd BPd BRd HBd hHeld ⊢
      refine take_ (i := 0) (N := some 28) (v := ?_) (a' := ?_) #[true, false, false, false, false, false, false, false, false, false, false] rfl rfl (by kernel_rfl) (fun _ _ _ h => h) (Or.inl ⟨by rfl, ?_⟩) hHeld ?_ ?_
      rotate_left
      · rintro w' ⟨s0, s1, s2⟩
        go_simp
        with_reducible rfl
      rotate_left
      · simp only [Act.put, List.setIfInBounds_toArray, List.set_cons_zero, List.set_cons_succ, i64_w, i32_w]
        rfl
      refine take_ (i := 1) (N := some 29) (v := ?_) (a' := ?_) #[true, true, false, false, false, false, false, false, false, false, false] rfl rfl (by kernel_rfl) (fun _ _ _ h => h) (Or.inl ⟨by rfl, ?_⟩) hHeld ?_ ?_
      rotate_left
      · rintro w' ⟨s0, s1, s2⟩
        go_simp
        with_reducible rfl
      rotate_left
      · simp only [Act.put, List.setIfInBounds_toArray, List.set_cons_zero, List.set_cons_succ, i64_w, i32_w]
        rfl
      refine pure_ (i := 2) (N := some 30) (v := ?_) (a' := ?_) #[true, true, true, false, false, false, false, false, false, false, false] rfl rfl (by kernel_rfl) (fun _ _ _ h => h) (Or.inl ⟨by rfl, ?_⟩) ?_ ?_
      rotate_left
      · intro w'
        go_simp
        with_reducible rfl
      rotate_left
      · simp only [Act.put, List.setIfInBounds_toArray, List.set_cons_zero, List.set_cons_succ, i64_w, i32_w]
        rfl
      refine pure_ (i := 3) (N := some 31) (v := ?_) (a' := ?_) #[true, true, true, true, false, false, false, false, false, false, false] rfl rfl (by kernel_rfl) (fun _ _ _ h => h) (Or.inl ⟨by rfl, ?_⟩) ?_ ?_
      rotate_left
      · intro w'
        go_simp
        with_reducible rfl
      rotate_left
      · simp only [Act.put, List.setIfInBounds_toArray, List.set_cons_zero, List.set_cons_succ, i64_w, i32_w]
        rfl
      refine take_ (i := 4) (N := some 32) (v := ?_) (a' := ?_) #[true, true, true, true, true, false, false, false, false, false, false] rfl rfl (by kernel_rfl) (fun _ _ _ h => h) (Or.inl ⟨by rfl, ?_⟩) hHeld ?_ ?_
      rotate_left
      · rintro w' ⟨s0, s1, s2⟩
        go_simp
        with_reducible rfl
      rotate_left
      · simp only [Act.put, List.setIfInBounds_toArray, List.set_cons_zero, List.set_cons_succ, i64_w, i32_w]
        rfl
      refine pure_ (i := 5) (N := some 33) (v := ?_) (a' := ?_) #[true, true, true, true, true, true, false, false, false, false, false] rfl rfl (by kernel_rfl) (fun _ _ _ h => h) (Or.inl ⟨by rfl, ?_⟩) ?_ ?_
      rotate_left
      · intro w'
        go_simp
        with_reducible rfl
      rotate_left
      · simp only [Act.put, List.setIfInBounds_toArray, List.set_cons_zero, List.set_cons_succ, i64_w, i32_w]
        rfl
      refine pure_ (i := 6) (N := some 34) (v := ?_) (a' := ?_) #[true, true, true, true, true, true, true, false, false, false, false] rfl rfl (by kernel_rfl) (fun _ _ _ h => h) (Or.inl ⟨by rfl, ?_⟩) ?_ ?_
      rotate_left
      · intro w'
        go_simp
        with_reducible rfl
      rotate_left
      · simp only [Act.put, List.setIfInBounds_toArray, List.set_cons_zero, List.set_cons_succ, i64_w, i32_w]
        rfl
      refine pure_ (i := 7) (N := some 35) (v := ?_) (a' := ?_) #[true, true, true, true, true, true, true, true, false, false, false] rfl rfl (by kernel_rfl) (fun _ _ _ h => h) (Or.inl ⟨by rfl, ?_⟩) ?_ ?_
      rotate_left
      · intro w'
        go_simp
        with_reducible rfl
      rotate_left
      · simp only [Act.put, List.setIfInBounds_toArray, List.set_cons_zero, List.set_cons_succ, i64_w, i32_w]
        rfl
      refine pure_ (i := 8) (N := some 36) (v := ?_) (a' := ?_) #[true, true, true, true, true, true, true, true, true, false, false] rfl rfl (by kernel_rfl) (fun _ _ _ h => h) (Or.inl ⟨by rfl, ?_⟩) ?_ ?_
      rotate_left
      · intro w'
        go_simp
        with_reducible rfl
      rotate_left
      · simp only [Act.put, List.setIfInBounds_toArray, List.set_cons_zero, List.set_cons_succ, i64_w, i32_w]
        rfl
      refine pure_ (i := 9) (N := some 37) (v := ?_) (a' := ?_) #[true, true, true, true, true, true, true, true, true, true, false] rfl rfl (by kernel_rfl) (fun _ _ _ h => h) (Or.inl ⟨by rfl, ?_⟩) ?_ ?_
      rotate_left
      · intro w'
        go_simp
        with_reducible rfl
      rotate_left
      · simp only [Act.put, List.setIfInBounds_toArray, List.set_cons_zero, List.set_cons_succ, i64_w, i32_w]
        rfl
      refine last_ (i := 10) (N := some 38) #[true, true, true, true, true, true, true, true, true, true, true] rfl rfl (by kernel_rfl) (by decide) (fun K hK => ?_)
      refine goes_ Tryz.func40 (by kernel_rfl) rfl #[.pointer (some ⟨B, 0, none⟩), .bool (value.toList == [49])] (by rfl) rfl rfl (by simp only [List.map_toArray, List.map_cons, List.map_nil]; rfl) ?_
      with_reducible refine (need_calls B vE vP vD vO (.slice (some ⟨g, 0, none⟩) p.rules.length c) fd fo e (value.toList == [49]) _ HPd.out).mono ?_
      rintro x w3 ⟨rfl, hp, hk, hb⟩
      refine ⟨_, rfl, ?_⟩
      have HP3 := Aside0.mk hp
      have HR3 := Aside0.mk (Rows_kept HRd.out hk (apart_one HPd.out (by decide)))
      have BP3 := Aside0.mk (blk_kept BPd.out hk hBpB)
      have BR3 := Aside0.mk (blk_kept BRd.out hk hBrB)
      have HB3 := Aside0.mk (HBd.out.trans (hb base hbB))
      clear hp hk hb HPd HRd BPd BRd HBd
      refine hK.out _ _ ?_
      clear hK K
      refine norm_ (a' := ?_) ?_ ?_
      rotate_left
      · show Act.put _ (some 38) _ = _
        simp only [Act.put, List.setIfInBounds_toArray, List.set_cons_zero, List.set_cons_succ, i64_w, i32_w]
        rfl
      refine done_ (by kernel_rfl) ?_
      obtain ⟨lc, lf, lset⟩ := rule_last HR3.out.2.2.2.2 hn
      rw [HRR.out, HOO.out] at lc
      rw [HOO.out] at lf lset
      rw [HRR.out] at lset
      have y0 : w3.cell? ⟨Bp, 0, none⟩ = some (.pointer (some ⟨B, 0, none⟩)) := blk_cell BP3.out 0
      have y1 : w3.cell? ⟨Br, 0, none⟩ = some (.pointer (some ⟨g, o, none⟩)) := by have := blk_cell BR3.out 0; rw [HOO.out] at this; exact this
      have y2 := lc 3 _ rfl
      have y3 := lf 3
      have LS := Aside0.mk (lset 3 (.bool true) { r with f3 := true } (by decide) rfl)
      clear lc lf lset
      go_wp2_with fail
      go_end0
      have hk := kept_one w3 g (o + 3) (.bool true)
      refine ⟨rfl, ?_, HB3.out.setCell (p := ⟨g, o + 3, none⟩) hbg _⟩
      have hE : needE e (value.toList == [49]) = E' := by rw [HEQ.out]; simp [*]
      have hP : { p with rules := p.rules.set (p.rules.length - 1) { r with f3 := true } } = P' := by rw [HPQ.out]; simp [*]
      rw [← hE, ← hP]
      exact rule_done hbB (blk_far HP3.out hBg _) (Rows_rules HR3.out LS.out hk (fun k hk => by have hk' : k = g := hk; subst hk'; exact R_own_type HR3.out.2.2.2.2 rfl)) (blk_kept BP3.out hk hBpg) (blk_kept BR3.out hk hBrg) HFD.out HFO.out hn
    | true =>
      rw [hf1] at c3
      refine start_ (n := 11) (S := fun w' => w'.cell? ⟨Bp, 0, none⟩ = some (.pointer (some ⟨B, 0, none⟩)) ∧ w'.cell? ⟨Br, 0, none⟩ = some (.pointer (some ⟨g, o, none⟩)) ∧ w'.cell? ⟨g, o + 3, none⟩ = some (.bool true)) (ds := [10]) #[false, false, false, false, false, false, false, false, false, false, false] (by kernel_rfl) rfl rfl ⟨z0, z1, c3⟩ (fun hHeld => ?_)
      have HPd := Aside0.mk (pb_below HPW.out (Below.refl _ _).drew)
      have HRd := Aside0.mk (Rows_below HRW.out (Below.refl _ _).drew)
      have BPd := Aside0.mk (blk_below BPW.out (Below.refl _ _).drew)
      have BRd := Aside0.mk (blk_below BRW.out (Below.refl _ _).drew)
      have HBd := Aside0.mk ((Below.refl base w).drew)
      generalize w.drew = wd at HPd HRd BPd BRd HBd hHeld ⊢
      refine take_ (i := 0) (N := some 28) (v := ?_) (a' := ?_) #[true, false, false, false, false, false, false, false, false, false, false] rfl rfl (by kernel_rfl) (fun _ _ _ h => h) (Or.inl ⟨by rfl, ?_⟩) hHeld ?_ ?_
      rotate_left
      · rintro w' ⟨s0, s1, s2⟩
        go_simp
        with_reducible rfl
      rotate_left
      · simp only [Act.put, List.setIfInBounds_toArray, List.set_cons_zero, List.set_cons_succ, i64_w, i32_w]
        rfl
      refine take_ (i := 1) (N := some 29) (v := ?_) (a' := ?_) #[true, true, false, false, false, false, false, false, false, false, false] rfl rfl (by kernel_rfl) (fun _ _ _ h => h) (Or.inl ⟨by rfl, ?_⟩) hHeld ?_ ?_
      rotate_left
      · rintro w' ⟨s0, s1, s2⟩
        go_simp
        with_reducible rfl
      rotate_left
      · simp only [Act.put, List.setIfInBounds_toArray, List.set_cons_zero, List.set_cons_succ, i64_w, i32_w]
        rfl
      refine pure_ (i := 2) (N := some 30) (v := ?_) (a' := ?_) #[true, true, true, false, false, false, false, false, false, false, false] rfl rfl (by kernel_rfl) (fun _ _ _ h => h) (Or.inl ⟨by rfl, ?_⟩) ?_ ?_
      rotate_left
      · intro w'
        go_simp
        with_reducible rfl
      rotate_left
      · simp only [Act.put, List.setIfInBounds_toArray, List.set_cons_zero, List.set_cons_succ, i64_w, i32_w]
        rfl
      refine pure_ (i := 3) (N := some 31) (v := ?_) (a' := ?_) #[true, true, true, true, false, false, false, false, false, false, false] rfl rfl (by kernel_rfl) (fun _ _ _ h => h) (Or.inl ⟨by rfl, ?_⟩) ?_ ?_
      rotate_left
      · intro w'
        go_simp
        with_reducible rfl
      rotate_left
      · simp only [Act.put, List.setIfInBounds_toArray, List.set_cons_zero, List.set_cons_succ, i64_w, i32_w]
        rfl
      refine take_ (i := 4) (N := some 32) (v := ?_) (a' := ?_) #[true, true, true, true, true, false, false, false, false, false, false] rfl rfl (by kernel_rfl) (fun _ _ _ h => h) (Or.inl ⟨by rfl, ?_⟩) hHeld ?_ ?_
      rotate_left
      · rintro w' ⟨s0, s1, s2⟩
        go_simp
        with_reducible rfl
      rotate_left
      · simp only [Act.put, List.setIfInBounds_toArray, List.set_cons_zero, List.set_cons_succ, i64_w, i32_w]
        rfl
      refine pure_ (i := 5) (N := some 33) (v := ?_) (a' := ?_) #[true, true, true, true, true, true, false, false, false, false, false] rfl rfl (by kernel_rfl) (fun _ _ _ h => h) (Or.inl ⟨by rfl, ?_⟩) ?_ ?_
      rotate_left
      · intro w'
        go_simp
        with_reducible rfl
      rotate_left
      · simp only [Act.put, List.setIfInBounds_toArray, List.set_cons_zero, List.set_cons_succ, i64_w, i32_w]
        rfl
      refine pure_ (i := 6) (N := some 34) (v := ?_) (a' := ?_) #[true, true, true, true, true, true, true, false, false, false, false] rfl rfl (by kernel_rfl) (fun _ _ _ h => h) (Or.inl ⟨by rfl, ?_⟩) ?_ ?_
      rotate_left
      · intro w'
        go_simp
        with_reducible rfl
      rotate_left
      · simp only [Act.put, List.setIfInBounds_toArray, List.set_cons_zero, List.set_cons_succ, i64_w, i32_w]
        rfl
      refine pure_ (i := 7) (N := some 35) (v := undef) (a' := ?_) #[true, true, true, true, true, true, true, true, false, false, false] rfl rfl (by kernel_rfl) (fun _ _ _ h => h) (Or.inr ⟨by rfl, rfl⟩) ?_ ?_
      rotate_left
      · simp only [Act.put, List.setIfInBounds_toArray, List.set_cons_zero, List.set_cons_succ, i64_w, i32_w]
        rfl
      refine pure_ (i := 8) (N := some 36) (v := undef) (a' := ?_) #[true, true, true, true, true, true, true, true, true, false, false] rfl rfl (by kernel_rfl) (fun _ _ _ h => h) (Or.inr ⟨by rfl, rfl⟩) ?_ ?_
      rotate_left
      · simp only [Act.put, List.setIfInBounds_toArray, List.set_cons_zero, List.set_cons_succ, i64_w, i32_w]
        rfl
      refine pure_ (i := 9) (N := some 37) (v := ?_) (a' := ?_) #[true, true, true, true, true, true, true, true, true, true, false] rfl rfl (by kernel_rfl) (fun _ _ _ h => h) (Or.inl ⟨by rfl, ?_⟩) ?_ ?_
      rotate_left
      · intro w'
        go_simp
        with_reducible rfl
      rotate_left
      · simp only [Act.put, List.setIfInBounds_toArray, List.set_cons_zero, List.set_cons_succ, i64_w, i32_w]
        rfl
      refine last_ (i := 10) (N := some 38) #[true, true, true, true, true, true, true, true, true, true, true] rfl rfl (by kernel_rfl) (by decide) (fun K hK => ?_)
      refine goes_ Tryz.func40 (by kernel_rfl) rfl #[.pointer (some ⟨B, 0, none⟩), .bool false] (by rfl) rfl rfl (by simp only [List.map_toArray, List.map_cons, List.map_nil]; rfl) ?_
      with_reducible refine (need_calls B vE vP vD vO (.slice (some ⟨g, 0, none⟩) p.rules.length c) fd fo e false _ HPd.out).mono ?_
      rintro x w3 ⟨rfl, hp, hk, hb⟩
      refine ⟨_, rfl, ?_⟩
      have HP3 := Aside0.mk hp
      have HR3 := Aside0.mk (Rows_kept HRd.out hk (apart_one HPd.out (by decide)))
      have BP3 := Aside0.mk (blk_kept BPd.out hk hBpB)
      have BR3 := Aside0.mk (blk_kept BRd.out hk hBrB)
      have HB3 := Aside0.mk (HBd.out.trans (hb base hbB))
      clear hp hk hb HPd HRd BPd BRd HBd
      refine hK.out _ _ ?_
      clear hK K
      refine norm_ (a' := ?_) ?_ ?_
      rotate_left
      · show Act.put _ (some 38) _ = _
        simp only [Act.put, List.setIfInBounds_toArray, List.set_cons_zero, List.set_cons_succ, i64_w, i32_w]
        rfl
      refine done_ (by kernel_rfl) ?_
      obtain ⟨lc, lf, lset⟩ := rule_last HR3.out.2.2.2.2 hn
      rw [HRR.out, HOO.out] at lc
      rw [HOO.out] at lf lset
      rw [HRR.out] at lset
      have y0 : w3.cell? ⟨Bp, 0, none⟩ = some (.pointer (some ⟨B, 0, none⟩)) := blk_cell BP3.out 0
      have y1 : w3.cell? ⟨Br, 0, none⟩ = some (.pointer (some ⟨g, o, none⟩)) := by have := blk_cell BR3.out 0; rw [HOO.out] at this; exact this
      have y2 := lc 3 _ rfl
      have y3 := lf 3
      have LS := Aside0.mk (lset 3 (.bool true) { r with f3 := true } (by decide) rfl)
      clear lc lf lset
      go_wp2_with fail
      go_end0
      have hk := kept_one w3 g (o + 3) (.bool true)
      refine ⟨rfl, ?_, HB3.out.setCell (p := ⟨g, o + 3, none⟩) hbg _⟩
      have hE : needE e false = E' := by rw [HEQ.out]; simp [*]
      have hP : { p with rules := p.rules.set (p.rules.length - 1) { r with f3 := true } } = P' := by rw [HPQ.out]; simp [*]
      rw [← hE, ← hP]
      exact rule_done hbB (blk_far HP3.out hBg _) (Rows_rules HR3.out LS.out hk (fun k hk => by have hk' : k = g := hk; subst hk'; exact R_own_type HR3.out.2.2.2.2 rfl)) (blk_kept BP3.out hk hBpg) (blk_kept BR3.out hk hBrg) HFD.out HFO.out hn
  · rename_i hk1 hk2 hk3
    cases hf1 : r.f4 with
    | false =>
      rw [hf1] at c4
      obtain ⟨A1, c1q, rfl, _⟩ := Kd.R_reads HRW.out.2.1
      have HCW := Aside0.mk (Kd.R_reads' HRW.out.2.1).2.2
      obtain ⟨I, hI⟩ : ∃ I, idxP (fun x : S44 => x.f0.toList == value.toList) p.pools = I := ⟨_, rfl⟩
      rw [hI] at HEQ
      have HI := Lib.hid hI
      clear hI
      refine start_ (n := 13) (S := fun w' => w'.cell? ⟨Bp, 0, none⟩ = some (.pointer (some ⟨B, 0, none⟩)) ∧ w'.cell? ⟨Br, 0, none⟩ = some (.pointer (some ⟨g, o, none⟩)) ∧ w'.cell? ⟨g, o + 4, none⟩ = some (.bool false)) (ds := [12]) #[false, false, false, false, false, false, false, false, false, false, false, false, false] (by kernel_rfl) rfl rfl ⟨z0, z1, c4⟩ (fun hHeld => ?_)
      have HCD := Aside0.mk (Kd.C_below HCW.out (Below.refl _ _).drew)
      have HPd := Aside0.mk (pb_below HPW.out (Below.refl _ _).drew)
      have HRd := Aside0.mk (Rows_below HRW.out (Below.refl _ _).drew)
      have BPd := Aside0.mk (blk_below BPW.out (Below.refl _ _).drew)
      have BRd := Aside0.mk (blk_below BRW.out (Below.refl _ _).drew)
      have HBd := Aside0.mk ((Below.refl base w).drew)
      generalize w.drew = wd at HPd HRd BPd BRd HBd HCD hHeld ⊢
      refine take_ (i := 0) (N := some 44) (v := ?_) (a' := ?_) #[true, false, false, false, false, false, false, false, false, false, false, false, false] rfl rfl (by kernel_rfl) (fun _ _ _ h => h) (Or.inl ⟨by rfl, ?_⟩) hHeld ?_ ?_
      rotate_left
      · rintro w' ⟨s0, s1, s2⟩
        go_simp
        with_reducible rfl
      rotate_left
      · simp only [Act.put, List.setIfInBounds_toArray, List.set_cons_zero, List.set_cons_succ, i64_w, i32_w]
        rfl
      refine take_ (i := 1) (N := some 45) (v := ?_) (a' := ?_) #[true, true, false, false, false, false, false, false, false, false, false, false, false] rfl rfl (by kernel_rfl) (fun _ _ _ h => h) (Or.inl ⟨by rfl, ?_⟩) hHeld ?_ ?_
      rotate_left
      · rintro w' ⟨s0, s1, s2⟩
        go_simp
        with_reducible rfl
      rotate_left
      · simp only [Act.put, List.setIfInBounds_toArray, List.set_cons_zero, List.set_cons_succ, i64_w, i32_w]
        rfl
      refine pure_ (i := 2) (N := some 46) (v := ?_) (a' := ?_) #[true, true, true, false, false, false, false, false, false, false, false, false, false] rfl rfl (by kernel_rfl) (fun _ _ _ h => h) (Or.inl ⟨by rfl, ?_⟩) ?_ ?_
      rotate_left
      · intro w'
        go_simp
        with_reducible rfl
      rotate_left
      · simp only [Act.put, List.setIfInBounds_toArray, List.set_cons_zero, List.set_cons_succ, i64_w, i32_w]
        rfl
      refine pure_ (i := 3) (N := some 47) (v := ?_) (a' := ?_) #[true, true, true, true, false, false, false, false, false, false, false, false, false] rfl rfl (by kernel_rfl) (fun _ _ _ h => h) (Or.inl ⟨by rfl, ?_⟩) ?_ ?_
      rotate_left
      · intro w'
        go_simp
        with_reducible rfl
      rotate_left
      · simp only [Act.put, List.setIfInBounds_toArray, List.set_cons_zero, List.set_cons_succ, i64_w, i32_w]
        rfl
      refine take_ (i := 4) (N := some 48) (v := ?_) (a' := ?_) #[true, true, true, true, true, false, false, false, false, false, false, false, false] rfl rfl (by kernel_rfl) (fun _ _ _ h => h) (Or.inl ⟨by rfl, ?_⟩) hHeld ?_ ?_
      rotate_left
      · rintro w' ⟨s0, s1, s2⟩
        go_simp
        with_reducible rfl
      rotate_left
      · simp only [Act.put, List.setIfInBounds_toArray, List.set_cons_zero, List.set_cons_succ, i64_w, i32_w]
        rfl
      refine pure_ (i := 5) (N := some 49) (v := ?_) (a' := ?_) #[true, true, true, true, true, true, false, false, false, false, false, false, false] rfl rfl (by kernel_rfl) (fun _ _ _ h => h) (Or.inl ⟨by rfl, ?_⟩) ?_ ?_
      rotate_left
      · intro w'
        go_simp
        with_reducible rfl
      rotate_left
      · simp only [Act.put, List.setIfInBounds_toArray, List.set_cons_zero, List.set_cons_succ, i64_w, i32_w]
        rfl
      refine pure_ (i := 6) (N := some 50) (v := ?_) (a' := ?_) #[true, true, true, true, true, true, true, false, false, false, false, false, false] rfl rfl (by kernel_rfl) (fun _ _ _ h => h) (Or.inl ⟨by rfl, ?_⟩) ?_ ?_
      rotate_left
      · intro w'
        go_simp
        with_reducible rfl
      rotate_left
      · simp only [Act.put, List.setIfInBounds_toArray, List.set_cons_zero, List.set_cons_succ, i64_w, i32_w]
        rfl
      refine pure_ (i := 8) (N := some 52) (v := ?_) (a' := ?_) #[true, true, true, true, true, true, true, false, true, false, false, false, false] rfl rfl (by kernel_rfl) (fun _ _ _ h => h) (Or.inl ⟨by rfl, ?_⟩) ?_ ?_
      rotate_left
      · intro w'
        go_simp
        with_reducible rfl
      rotate_left
      · simp only [Act.put, List.setIfInBounds_toArray, List.set_cons_zero, List.set_cons_succ, i64_w, i32_w]
        rfl
      refine take_ (i := 7) (N := some 51) (v := ?_) (a' := ?_) #[true, true, true, true, true, true, true, true, true, false, false, false, false] rfl rfl (by kernel_rfl) (fun _ _ _ h => h) (Or.inl ⟨by rfl, ?_⟩) hHeld ?_ ?_
      rotate_left
      · rintro w' ⟨s0, s1, s2⟩
        go_simp
        with_reducible rfl
      rotate_left
      · simp only [Act.put, List.setIfInBounds_toArray, List.set_cons_zero, List.set_cons_succ, i64_w, i32_w]
        rfl
      refine one_ (i := 9) (N := some 53) #[true, true, true, true, true, true, true, true, true, true, false, false, false] rfl rfl (by kernel_rfl) (by decide) (fun K hK => ?_)
      refine goes_ Tryz.func81 (by kernel_rfl) rfl #[.pointer (some ⟨B, 0, none⟩), .string value] (by rfl) rfl rfl (by simp only [List.map_toArray, List.map_cons, List.map_nil]; rfl) ?_
      with_reducible refine (ppool_calls B vE _ vD vO (.slice (some ⟨g, 0, none⟩) p.rules.length c) fd fo e A1 c1q p.pools value _ HPd.out rfl HCD.out).mono ?_
      rw [HI.out]
      rintro x w2 ⟨rfl, hb⟩
      refine ⟨_, rfl, ?_⟩
      replace HPd := Aside0.mk (pb_below HPd.out hb)
      replace HRd := Aside0.mk (Rows_below HRd.out hb)
      replace BPd := Aside0.mk (blk_below BPd.out hb)
      replace BRd := Aside0.mk (blk_below BRd.out hb)
      replace HBd := Aside0.mk (below_to HBd.out hb (Nat.le_trans hbw HBd.out.size))
      clear hb HCD
      obtain ⟨lc, lf, _⟩ := rule_last HRd.out.2.2.2.2 hn
      rw [HRR.out, HOO.out] at lc
      have t4 := lc 4 _ rfl
      simp only [hf1] at t4
      have t1 : w2.cell? ⟨Br, 0, none⟩ = some (.pointer (some ⟨g, o, none⟩)) := by have := blk_cell BRd.out 0; rw [HOO.out] at this; exact this
      clear lc lf
      refine hK.out _ _ ⟨blk_cell BPd.out 0, t1, t4⟩ (fun hHeld => ?_)
      clear hK K
      refine norm_ (a' := ?_) ?_ ?_
      rotate_left
      · show Act.put _ (some 53) _ = _
        simp only [Act.put, List.setIfInBounds_toArray, List.set_cons_zero, List.set_cons_succ, i64_w, i32_w]
        rfl
      refine pure_ (i := 10) (N := some 54) (v := ?_) (a' := ?_) #[true, true, true, true, true, true, true, true, true, true, true, false, false] rfl rfl (by kernel_rfl) (fun _ _ _ h => h) (Or.inl ⟨by rfl, ?_⟩) ?_ ?_
      rotate_left
      · intro w'
        go_simp
        with_reducible rfl
      rotate_left
      · simp only [Act.put, List.setIfInBounds_toArray, List.set_cons_zero, List.set_cons_succ, i64_w, i32_w]
        rfl
      refine pure_ (i := 11) (N := some 55) (v := ?_) (a' := ?_) #[true, true, true, true, true, true, true, true, true, true, true, true, false] rfl rfl (by kernel_rfl) (fun _ _ _ h => h) (Or.inl ⟨by rfl, ?_⟩) ?_ ?_
      rotate_left
      · intro w'
        go_simp
        with_reducible rfl
      rotate_left
      · simp only [Act.put, List.setIfInBounds_toArray, List.set_cons_zero, List.set_cons_succ, i64_w, i32_w]
        rfl
      refine last_ (i := 12) (N := some 56) #[true, true, true, true, true, true, true, true, true, true, true, true, true] rfl rfl (by kernel_rfl) (by decide) (fun K hK => ?_)
      refine goes_ Tryz.func40 (by kernel_rfl) rfl #[.pointer (some ⟨B, 0, none⟩), .bool (decide (0 ≤ I))] (by rfl) rfl rfl (by simp only [List.map_toArray, List.map_cons, List.map_nil]; rfl) ?_
      with_reducible refine (need_calls B vE _ vD vO (.slice (some ⟨g, 0, none⟩) p.rules.length c) fd fo e (decide (0 ≤ I)) _ HPd.out).mono ?_
      rintro x w3 ⟨rfl, hp, hk, hb⟩
      refine ⟨_, rfl, ?_⟩
      have HP3 := Aside0.mk hp
      have HR3 := Aside0.mk (Rows_kept HRd.out hk (apart_one HPd.out (by decide)))
      have BP3 := Aside0.mk (blk_kept BPd.out hk hBpB)
      have BR3 := Aside0.mk (blk_kept BRd.out hk hBrB)
      have HB3 := Aside0.mk (HBd.out.trans (hb base hbB))
      clear hp hk hb HPd HRd BPd BRd HBd
      refine hK.out _ _ ?_
      clear hK K
      refine norm_ (a' := ?_) ?_ ?_
      rotate_left
      · show Act.put _ (some 56) _ = _
        simp only [Act.put, List.setIfInBounds_toArray, List.set_cons_zero, List.set_cons_succ, i64_w, i32_w]
        rfl
      refine done_ (by kernel_rfl) ?_
      obtain ⟨lc, lf, lset⟩ := rule_last HR3.out.2.2.2.2 hn
      rw [HRR.out, HOO.out] at lc
      rw [HOO.out] at lf lset
      rw [HRR.out] at lset
      have y0 : w3.cell? ⟨Bp, 0, none⟩ = some (.pointer (some ⟨B, 0, none⟩)) := blk_cell BP3.out 0
      have y1 : w3.cell? ⟨Br, 0, none⟩ = some (.pointer (some ⟨g, o, none⟩)) := by have := blk_cell BR3.out 0; rw [HOO.out] at this; exact this
      have y2 := lc 2 _ rfl
      have y3 := lf 2
      have y4 := lc 4 _ rfl
      have y5 := lf 4
      have LS0 := rule_two value HR3.out.2.2.2.2 hn
      rw [HOO.out, HRR.out] at LS0
      have LS := Aside0.mk LS0
      clear lc lf lset LS0
      go_upto_region 10 with (fail)
      refine start_ (n := 9) (S := fun w' => w'.cell? ⟨Br, 0, none⟩ = some (.pointer (some ⟨g, o, none⟩))) (ds := [8]) #[false, false, false, false, false, false, false, false, false] (by kernel_rfl) rfl rfl (y1) (fun hHeld => ?_)
      have HPd := Aside0.mk (pb_below HP3.out (Below.refl _ _).drew)
      have HRd := Aside0.mk (Rows_below HR3.out (Below.refl _ _).drew)
      have BPd := Aside0.mk (blk_below BP3.out (Below.refl _ _).drew)
      have BRd := Aside0.mk (blk_below BR3.out (Below.refl _ _).drew)
      have HBd := Aside0.mk (HB3.out.drew)
      replace y2 : w3.drew.cell? ⟨g, o + 2, none⟩ = some (.string r.f2) := y2
      replace y3 : w3.drew.frozen? ⟨g, o + 2, none⟩ = false := y3
      replace y4 : w3.drew.cell? ⟨g, o + 4, none⟩ = some (.bool r.f4) := y4
      replace y5 : w3.drew.frozen? ⟨g, o + 4, none⟩ = false := y5
      have LSd := Aside0.mk (rule_two value HRd.out.2.2.2.2 hn)
      rw [HOO.out, HRR.out] at LSd
      clear LS y0 y1
      generalize w3.drew = wq at HPd HRd BPd BRd HBd LSd y2 y3 y4 y5 hHeld ⊢
      clear HP3 HR3 BP3 BR3 HB3
      refine pure_ (i := 2) (N := some 59) (v := ?_) (a' := ?_) #[false, false, true, false, false, false, false, false, false] rfl rfl (by kernel_rfl) (fun _ _ _ h => h) (Or.inl ⟨by rfl, ?_⟩) ?_ ?_
      rotate_left
      · intro w'
        go_simp
        with_reducible rfl
      rotate_left
      · simp only [Act.put, List.setIfInBounds_toArray, List.set_cons_zero, List.set_cons_succ, i64_w, i32_w]
        rfl
      refine take_ (i := 0) (N := some 57) (v := ?_) (a' := ?_) #[true, false, true, false, false, false, false, false, false] rfl rfl (by kernel_rfl) (fun _ _ _ h => h) (Or.inl ⟨by rfl, ?_⟩) hHeld ?_ ?_
      rotate_left
      · intro w' s0
        go_simp
        with_reducible rfl
      rotate_left
      · simp only [Act.put, List.setIfInBounds_toArray, List.set_cons_zero, List.set_cons_succ, i64_w, i32_w]
        rfl
      refine pure_ (i := 3) (N := some 60) (v := ?_) (a' := ?_) #[true, false, true, true, false, false, false, false, false] rfl rfl (by kernel_rfl) (fun _ _ _ h => h) (Or.inl ⟨by rfl, ?_⟩) ?_ ?_
      rotate_left
      · intro w'
        go_simp
        with_reducible rfl
      rotate_left
      · simp only [Act.put, List.setIfInBounds_toArray, List.set_cons_zero, List.set_cons_succ, i64_w, i32_w]
        rfl
      refine pure_ (i := 4) (N := some 61) (v := ?_) (a' := ?_) #[true, false, true, true, true, false, false, false, false] rfl rfl (by kernel_rfl) (fun _ _ _ h => h) (Or.inl ⟨by rfl, ?_⟩) ?_ ?_
      rotate_left
      · intro w'
        go_simp
        with_reducible rfl
      rotate_left
      · simp only [Act.put, List.setIfInBounds_toArray, List.set_cons_zero, List.set_cons_succ, i64_w, i32_w]
        rfl
      refine take_ (i := 1) (N := some 58) (v := ?_) (a' := ?_) #[true, true, true, true, true, false, false, false, false] rfl rfl (by kernel_rfl) (fun _ _ _ h => h) (Or.inl ⟨by rfl, ?_⟩) hHeld ?_ ?_
      rotate_left
      · intro w' s0
        go_simp
        with_reducible rfl
      rotate_left
      · simp only [Act.put, List.setIfInBounds_toArray, List.set_cons_zero, List.set_cons_succ, i64_w, i32_w]
        rfl
      refine one_ (i := 5) (N := none) #[true, true, true, true, true, true, false, false, false] rfl rfl (by kernel_rfl) (by decide) (fun K hK => ?_)
      refine skip_ (w1 := ?_) (by rfl) rfl ?_ ?_
      rotate_left
      · go_simp
        rfl
      refine hK.out _ _ ((by have := blk_cell (blk_kept BRd.out (kept_one wq g (o + 2) (.string value)) hBrg) 0; rw [HOO.out] at this; exact this)) (fun hHeld => ?_)
      clear hK K
      refine pure_ (i := 6) (N := some 62) (v := ?_) (a' := ?_) #[true, true, true, true, true, true, true, false, false] rfl rfl (by kernel_rfl) (fun _ _ _ h => h) (Or.inl ⟨by rfl, ?_⟩) ?_ ?_
      rotate_left
      · intro w'
        go_simp
        with_reducible rfl
      rotate_left
      · simp only [Act.put, List.setIfInBounds_toArray, List.set_cons_zero, List.set_cons_succ, i64_w, i32_w]
        rfl
      refine pure_ (i := 7) (N := some 63) (v := ?_) (a' := ?_) #[true, true, true, true, true, true, true, true, false] rfl rfl (by kernel_rfl) (fun _ _ _ h => h) (Or.inl ⟨by rfl, ?_⟩) ?_ ?_
      rotate_left
      · intro w'
        go_simp
        with_reducible rfl
      rotate_left
      · simp only [Act.put, List.setIfInBounds_toArray, List.set_cons_zero, List.set_cons_succ, i64_w, i32_w]
        rfl
      refine last_ (i := 8) (N := none) #[true, true, true, true, true, true, true, true, true] rfl rfl (by kernel_rfl) (by decide) (fun K hK => ?_)
      refine skip_ (w1 := ?_) (by rfl) rfl ?_ ?_
      rotate_left
      · go_simp
        rfl
      refine hK.out _ _ ?_
      clear hK K
      refine done_ (by kernel_rfl) ?_
      go_end0
      have hk := Kept.then_ (kept_one wq g (o + 2) (.string value)) (kept_one _ g (o + 4) (.bool true)) (fun k hk => .inl hk)
      refine ⟨rfl, ?_, (HBd.out.setCell (p := ⟨g, o + 2, none⟩) hbg _).setCell (p := ⟨g, o + 4, none⟩) hbg _⟩
      have hE : needE e (decide (0 ≤ I)) = E' := by rw [HEQ.out]; simp [*]
      have hP : { p with rules := p.rules.set (p.rules.length - 1) { r with f2 := value, f4 := true } } = P' := by rw [HPQ.out]; simp [*]
      rw [← hE, ← hP]
      exact rule_done hbB (blk_far (blk_far HPd.out hBg _) hBg _) (Rows_rules HRd.out LSd.out hk (fun k hk => by have hk' : k = g := hk; subst hk'; exact R_own_type HRd.out.2.2.2.2 rfl)) (blk_kept BPd.out hk hBpg) (blk_kept BRd.out hk hBrg) HFD.out HFO.out hn
    | true =>
      rw [hf1] at c4
      refine start_ (n := 13) (S := fun w' => w'.cell? ⟨Bp, 0, none⟩ = some (.pointer (some ⟨B, 0, none⟩)) ∧ w'.cell? ⟨Br, 0, none⟩ = some (.pointer (some ⟨g, o, none⟩)) ∧ w'.cell? ⟨g, o + 4, none⟩ = some (.bool true)) (ds := [12]) #[false, false, false, false, false, false, false, false, false, false, false, false, false] (by kernel_rfl) rfl rfl ⟨z0, z1, c4⟩ (fun hHeld => ?_)
      have HPd := Aside0.mk (pb_below HPW.out (Below.refl _ _).drew)
      have HRd := Aside0.mk (Rows_below HRW.out (Below.refl _ _).drew)
      have BPd := Aside0.mk (blk_below BPW.out (Below.refl _ _).drew)
      have BRd := Aside0.mk (blk_below BRW.out (Below.refl _ _).drew)
      have HBd := Aside0.mk ((Below.refl base w).drew)
      generalize w.drew = wd at HPd HRd BPd BRd HBd hHeld ⊢
      refine take_ (i := 0) (N := some 44) (v := ?_) (a' := ?_) #[true, false, false, false, false, false, false, false, false, false, false, false, false] rfl rfl (by kernel_rfl) (fun _ _ _ h => h) (Or.inl ⟨by rfl, ?_⟩) hHeld ?_ ?_
      rotate_left
      · rintro w' ⟨s0, s1, s2⟩
        go_simp
        with_reducible rfl
      rotate_left
      · simp only [Act.put, List.setIfInBounds_toArray, List.set_cons_zero, List.set_cons_succ, i64_w, i32_w]
        rfl
      refine take_ (i := 1) (N := some 45) (v := ?_) (a' := ?_) #[true, true, false, false, false, false, false, false, false, false, false, false, false] rfl rfl (by kernel_rfl) (fun _ _ _ h => h) (Or.inl ⟨by rfl, ?_⟩) hHeld ?_ ?_
      rotate_left
      · rintro w' ⟨s0, s1, s2⟩
        go_simp
        with_reducible rfl
      rotate_left
      · simp only [Act.put, List.setIfInBounds_toArray, List.set_cons_zero, List.set_cons_succ, i64_w, i32_w]
        rfl
      refine pure_ (i := 2) (N := some 46) (v := ?_) (a' := ?_) #[true, true, true, false, false, false, false, false, false, false, false, false, false] rfl rfl (by kernel_rfl) (fun _ _ _ h => h) (Or.inl ⟨by rfl, ?_⟩) ?_ ?_
      rotate_left
      · intro w'
        go_simp
        with_reducible rfl
      rotate_left
      · simp only [Act.put, List.setIfInBounds_toArray, List.set_cons_zero, List.set_cons_succ, i64_w, i32_w]
        rfl
      refine pure_ (i := 3) (N := some 47) (v := ?_) (a' := ?_) #[true, true, true, true, false, false, false, false, false, false, false, false, false] rfl rfl (by kernel_rfl) (fun _ _ _ h => h) (Or.inl ⟨by rfl, ?_⟩) ?_ ?_
      rotate_left
      · intro w'
        go_simp
        with_reducible rfl
      rotate_left
      · simp only [Act.put, List.setIfInBounds_toArray, List.set_cons_zero, List.set_cons_succ, i64_w, i32_w]
        rfl
      refine take_ (i := 4) (N := some 48) (v := ?_) (a' := ?_) #[true, true, true, true, true, false, false, false, false, false, false, false, false] rfl rfl (by kernel_rfl) (fun _ _ _ h => h) (Or.inl ⟨by rfl, ?_⟩) hHeld ?_ ?_
      rotate_left
      · rintro w' ⟨s0, s1, s2⟩
        go_simp
        with_reducible rfl
      rotate_left
      · simp only [Act.put, List.setIfInBounds_toArray, List.set_cons_zero, List.set_cons_succ, i64_w, i32_w]
        rfl
      refine pure_ (i := 5) (N := some 49) (v := ?_) (a' := ?_) #[true, true, true, true, true, true, false, false, false, false, false, false, false] rfl rfl (by kernel_rfl) (fun _ _ _ h => h) (Or.inl ⟨by rfl, ?_⟩) ?_ ?_
      rotate_left
      · intro w'
        go_simp
        with_reducible rfl
      rotate_left
      · simp only [Act.put, List.setIfInBounds_toArray, List.set_cons_zero, List.set_cons_succ, i64_w, i32_w]
        rfl
      refine pure_ (i := 6) (N := some 50) (v := ?_) (a' := ?_) #[true, true, true, true, true, true, true, false, false, false, false, false, false] rfl rfl (by kernel_rfl) (fun _ _ _ h => h) (Or.inl ⟨by rfl, ?_⟩) ?_ ?_
      rotate_left
      · intro w'
        go_simp
        with_reducible rfl
      rotate_left
      · simp only [Act.put, List.setIfInBounds_toArray, List.set_cons_zero, List.set_cons_succ, i64_w, i32_w]
        rfl
      refine pure_ (i := 7) (N := some 51) (v := undef) (a' := ?_) #[true, true, true, true, true, true, true, true, false, false, false, false, false] rfl rfl (by kernel_rfl) (fun _ _ _ h => h) (Or.inr ⟨by rfl, rfl⟩) ?_ ?_
      rotate_left
      · simp only [Act.put, List.setIfInBounds_toArray, List.set_cons_zero, List.set_cons_succ, i64_w, i32_w]
        rfl
      refine pure_ (i := 8) (N := some 52) (v := undef) (a' := ?_) #[true, true, true, true, true, true, true, true, true, false, false, false, false] rfl rfl (by kernel_rfl) (fun _ _ _ h => h) (Or.inr ⟨by rfl, rfl⟩) ?_ ?_
      rotate_left
      · simp only [Act.put, List.setIfInBounds_toArray, List.set_cons_zero, List.set_cons_succ, i64_w, i32_w]
        rfl
      refine pure_ (i := 9) (N := some 53) (v := undef) (a' := ?_) #[true, true, true, true, true, true, true, true, true, true, false, false, false] rfl rfl (by kernel_rfl) (fun _ _ _ h => h) (Or.inr ⟨by rfl, rfl⟩) ?_ ?_
      rotate_left
      · simp only [Act.put, List.setIfInBounds_toArray, List.set_cons_zero, List.set_cons_succ, i64_w, i32_w]
        rfl
      refine pure_ (i := 10) (N := some 54) (v := undef) (a' := ?_) #[true, true, true, true, true, true, true, true, true, true, true, false, false] rfl rfl (by kernel_rfl) (fun _ _ _ h => h) (Or.inr ⟨by rfl, rfl⟩) ?_ ?_
      rotate_left
      · simp only [Act.put, List.setIfInBounds_toArray, List.set_cons_zero, List.set_cons_succ, i64_w, i32_w]
        rfl
      refine pure_ (i := 11) (N := some 55) (v := ?_) (a' := ?_) #[true, true, true, true, true, true, true, true, true, true, true, true, false] rfl rfl (by kernel_rfl) (fun _ _ _ h => h) (Or.inl ⟨by rfl, ?_⟩) ?_ ?_
      rotate_left
      · intro w'
        go_simp
        with_reducible rfl
      rotate_left
      · simp only [Act.put, List.setIfInBounds_toArray, List.set_cons_zero, List.set_cons_succ, i64_w, i32_w]
        rfl
      refine last_ (i := 12) (N := some 56) #[true, true, true, true, true, true, true, true, true, true, true, true, true] rfl rfl (by kernel_rfl) (by decide) (fun K hK => ?_)
      refine goes_ Tryz.func40 (by kernel_rfl) rfl #[.pointer (some ⟨B, 0, none⟩), .bool false] (by rfl) rfl rfl (by simp only [List.map_toArray, List.map_cons, List.map_nil]; rfl) ?_
      with_reducible refine (need_calls B vE vP vD vO (.slice (some ⟨g, 0, none⟩) p.rules.length c) fd fo e false _ HPd.out).mono ?_
      rintro x w3 ⟨rfl, hp, hk, hb⟩
      refine ⟨_, rfl, ?_⟩
      have HP3 := Aside0.mk hp
      have HR3 := Aside0.mk (Rows_kept HRd.out hk (apart_one HPd.out (by decide)))
      have BP3 := Aside0.mk (blk_kept BPd.out hk hBpB)
      have BR3 := Aside0.mk (blk_kept BRd.out hk hBrB)
      have HB3 := Aside0.mk (HBd.out.trans (hb base hbB))
      clear hp hk hb HPd HRd BPd BRd HBd
      refine hK.out _ _ ?_
      clear hK K
      refine norm_ (a' := ?_) ?_ ?_
      rotate_left
      · show Act.put _ (some 56) _ = _
        simp only [Act.put, List.setIfInBounds_toArray, List.set_cons_zero, List.set_cons_succ, i64_w, i32_w]
        rfl
      refine done_ (by kernel_rfl) ?_
      obtain ⟨lc, lf, lset⟩ := rule_last HR3.out.2.2.2.2 hn
      rw [HRR.out, HOO.out] at lc
      rw [HOO.out] at lf lset
      rw [HRR.out] at lset
      have y0 : w3.cell? ⟨Bp, 0, none⟩ = some (.pointer (some ⟨B, 0, none⟩)) := blk_cell BP3.out 0
      have y1 : w3.cell? ⟨Br, 0, none⟩ = some (.pointer (some ⟨g, o, none⟩)) := by have := blk_cell BR3.out 0; rw [HOO.out] at this; exact this
      have y2 := lc 2 _ rfl
      have y3 := lf 2
      have y4 := lc 4 _ rfl
      have y5 := lf 4
      have LS0 := rule_two value HR3.out.2.2.2.2 hn
      rw [HOO.out, HRR.out] at LS0
      have LS := Aside0.mk LS0
      clear lc lf lset LS0
      go_upto_region 10 with (fail)
      refine start_ (n := 9) (S := fun w' => w'.cell? ⟨Br, 0, none⟩ = some (.pointer (some ⟨g, o, none⟩))) (ds := [8]) #[false, false, false, false, false, false, false, false, false] (by kernel_rfl) rfl rfl (y1) (fun hHeld => ?_)
      have HPd := Aside0.mk (pb_below HP3.out (Below.refl _ _).drew)
      have HRd := Aside0.mk (Rows_below HR3.out (Below.refl _ _).drew)
      have BPd := Aside0.mk (blk_below BP3.out (Below.refl _ _).drew)
      have BRd := Aside0.mk (blk_below BR3.out (Below.refl _ _).drew)
      have HBd := Aside0.mk (HB3.out.drew)
      replace y2 : w3.drew.cell? ⟨g, o + 2, none⟩ = some (.string r.f2) := y2
      replace y3 : w3.drew.frozen? ⟨g, o + 2, none⟩ = false := y3
      replace y4 : w3.drew.cell? ⟨g, o + 4, none⟩ = some (.bool r.f4) := y4
      replace y5 : w3.drew.frozen? ⟨g, o + 4, none⟩ = false := y5
      have LSd := Aside0.mk (rule_two value HRd.out.2.2.2.2 hn)
      rw [HOO.out, HRR.out] at LSd
      clear LS y0 y1
      generalize w3.drew = wq at HPd HRd BPd BRd HBd LSd y2 y3 y4 y5 hHeld ⊢
      clear HP3 HR3 BP3 BR3 HB3
      refine pure_ (i := 2) (N := some 59) (v := ?_) (a' := ?_) #[false, false, true, false, false, false, false, false, false] rfl rfl (by kernel_rfl) (fun _ _ _ h => h) (Or.inl ⟨by rfl, ?_⟩) ?_ ?_
      rotate_left
      · intro w'
        go_simp
        with_reducible rfl
      rotate_left
      · simp only [Act.put, List.setIfInBounds_toArray, List.set_cons_zero, List.set_cons_succ, i64_w, i32_w]
        rfl
      refine take_ (i := 0) (N := some 57) (v := ?_) (a' := ?_) #[true, false, true, false, false, false, false, false, false] rfl rfl (by kernel_rfl) (fun _ _ _ h => h) (Or.inl ⟨by rfl, ?_⟩) hHeld ?_ ?_
      rotate_left
      · intro w' s0
        go_simp
        with_reducible rfl
      rotate_left
      · simp only [Act.put, List.setIfInBounds_toArray, List.set_cons_zero, List.set_cons_succ, i64_w, i32_w]
        rfl
      refine pure_ (i := 3) (N := some 60) (v := ?_) (a' := ?_) #[true, false, true, true, false, false, false, false, false] rfl rfl (by kernel_rfl) (fun _ _ _ h => h) (Or.inl ⟨by rfl, ?_⟩) ?_ ?_
      rotate_left
      · intro w'
        go_simp
        with_reducible rfl
      rotate_left
      · simp only [Act.put, List.setIfInBounds_toArray, List.set_cons_zero, List.set_cons_succ, i64_w, i32_w]
        rfl
      refine pure_ (i := 4) (N := some 61) (v := ?_) (a' := ?_) #[true, false, true, true, true, false, false, false, false] rfl rfl (by kernel_rfl) (fun _ _ _ h => h) (Or.inl ⟨by rfl, ?_⟩) ?_ ?_
      rotate_left
      · intro w'
        go_simp
        with_reducible rfl
      rotate_left
      · simp only [Act.put, List.setIfInBounds_toArray, List.set_cons_zero, List.set_cons_succ, i64_w, i32_w]
        rfl
      refine take_ (i := 1) (N := some 58) (v := ?_) (a' := ?_) #[true, true, true, true, true, false, false, false, false] rfl rfl (by kernel_rfl) (fun _ _ _ h => h) (Or.inl ⟨by rfl, ?_⟩) hHeld ?_ ?_
      rotate_left
      · intro w' s0
        go_simp
        with_reducible rfl
      rotate_left
      · simp only [Act.put, List.setIfInBounds_toArray, List.set_cons_zero, List.set_cons_succ, i64_w, i32_w]
        rfl
      refine one_ (i := 5) (N := none) #[true, true, true, true, true, true, false, false, false] rfl rfl (by kernel_rfl) (by decide) (fun K hK => ?_)
      refine skip_ (w1 := ?_) (by rfl) rfl ?_ ?_
      rotate_left
      · go_simp
        rfl
      refine hK.out _ _ ((by have := blk_cell (blk_kept BRd.out (kept_one wq g (o + 2) (.string value)) hBrg) 0; rw [HOO.out] at this; exact this)) (fun hHeld => ?_)
      clear hK K
      refine pure_ (i := 6) (N := some 62) (v := ?_) (a' := ?_) #[true, true, true, true, true, true, true, false, false] rfl rfl (by kernel_rfl) (fun _ _ _ h => h) (Or.inl ⟨by rfl, ?_⟩) ?_ ?_
      rotate_left
      · intro w'
        go_simp
        with_reducible rfl
      rotate_left
      · simp only [Act.put, List.setIfInBounds_toArray, List.set_cons_zero, List.set_cons_succ, i64_w, i32_w]
        rfl
      refine pure_ (i := 7) (N := some 63) (v := ?_) (a' := ?_) #[true, true, true, true, true, true, true, true, false] rfl rfl (by kernel_rfl) (fun _ _ _ h => h) (Or.inl ⟨by rfl, ?_⟩) ?_ ?_
      rotate_left
      · intro w'
        go_simp
        with_reducible rfl
      rotate_left
      · simp only [Act.put, List.setIfInBounds_toArray, List.set_cons_zero, List.set_cons_succ, i64_w, i32_w]
        rfl
      refine last_ (i := 8) (N := none) #[true, true, true, true, true, true, true, true, true] rfl rfl (by kernel_rfl) (by decide) (fun K hK => ?_)
      refine skip_ (w1 := ?_) (by rfl) rfl ?_ ?_
      rotate_left
      · go_simp
        rfl
      refine hK.out _ _ ?_
      clear hK K
      refine done_ (by kernel_rfl) ?_
      go_end0
      have hk := Kept.then_ (kept_one wq g (o + 2) (.string value)) (kept_one _ g (o + 4) (.bool true)) (fun k hk => .inl hk)
      refine ⟨rfl, ?_, (HBd.out.setCell (p := ⟨g, o + 2, none⟩) hbg _).setCell (p := ⟨g, o + 4, none⟩) hbg _⟩
      have hE : needE e false = E' := by rw [HEQ.out]; simp [*]
      have hP : { p with rules := p.rules.set (p.rules.length - 1) { r with f2 := value, f4 := true } } = P' := by rw [HPQ.out]; simp [*]
      rw [← hE, ← hP]
      exact rule_done hbB (blk_far (blk_far HPd.out hBg _) hBg _) (Rows_rules HRd.out LSd.out hk (fun k hk => by have hk' : k = g := hk; subst hk'; exact R_own_type HRd.out.2.2.2.2 rfl)) (blk_kept BPd.out hk hBpg) (blk_kept BRd.out hk hBrg) HFD.out HFO.out hn
  · go_wp2_with (first | (go_at_call 40; refine (need_calls B vE vP vD vO (.slice (some ⟨g, 0, none⟩) p.rules.length c) fd fo e false _ HPW.out).mono ?_; rintro x w3 ⟨rfl, hp, hk, hb⟩; have HP3 := Aside0.mk hp; have HR3 := Aside0.mk (Rows_kept HRW.out hk (apart_one HPW.out (by decide))); have BP3 := Aside0.mk (blk_kept BPW.out hk hBpB); have BR3 := Aside0.mk (blk_kept BRW.out hk hBrB); have HB3 := Aside0.mk (hb base hbB); clear hp hk hb))
    go_end0
    refine ⟨rfl, ?_, HB3.out⟩
    have hE : needE e false = E' := by rw [HEQ.out]; simp [*]
    have hP : { p with rules := p.rules.set (p.rules.length - 1) (lastR p.rules) } = P' := by rw [HPQ.out, HRR.out]; simp [*]
    rw [← hE, ← hP]
    exact rule_done hbB HP3.out (show Rows _ _ { p with rules := p.rules.set (p.rules.length - 1) (lastR p.rules) } _ _ _ _ _ by rw [lastR_self _ hn]; exact HR3.out) BP3.out BR3.out HFD.out HFO.out hn
end Go.Proofs.YtefheailchihaaaGreatDoor.Print

end
