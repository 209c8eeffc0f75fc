/- YtefheailchihaaaGreatDoorSe12: out of this seat's texts (wip/tools/shake.py), what is needed alone. -/
import Derived.ProofKit
import Derived.ChangeArms
import Derived.SizedLaws
import Derived.Deep.Slices
import Derived.Test.YtefheailchihaaaGreatDoorSe11
section
namespace Go.Proofs.YtefheailchihaaaGreatDoorW.Opening
open Go.ChangeShapes Go.WideShapes Go.Proofs.YtefheailchihaaaGreatDoorW.PrintWords
variable {H : Type} {enc : TypeId × Value → H} {P : Program} {w : World} {base : Nat} {spare : Nat → Bool} {held : Bool}

/-- What reads as data of type t is of kind d, and small. -/
def Opens {α : Type} (enc : TypeId × Value → H) (P : Program) (w : World) (base : Nat) (spare : Nat → Bool) (held : Bool) (t : TypeId) (d : Kd α) (S : α → Prop) : Prop :=
  ∀ (fuel : Nat) (cs : List Value) (x : DataW H × List MemPlace), DataW.trod enc P w base spare held fuel t cs = some x → (x.1.weights P t).all (· ≤ reachBytes) = true → ∃ y, d.K w y cs ∧ S y

theorem opens_int {t : TypeId} {k : IntKind} (ht : P.underlying t = some (.int k)) : Opens enc P w base spare held t (Kd.int k) (fun n => (Lit.int k n).wf = true) := by
  intro fuel cs x h _
  obtain ⟨n, rfl, rfl, hw⟩ := DataW.trod_int ht h
  exact ⟨n, rfl, hw⟩
theorem weightsAll_mem {e : TypeId} : ∀ {l : List (DataW H)} {d : DataW H}, d ∈ l → ∀ n ∈ d.weights P e, n ∈ DataW.weightsAll P e l
  | d0 :: l, d, hd, n, hn => by
    simp only [DataW.weightsAll, List.mem_append]
    rcases List.mem_cons.1 hd with rfl | hd
    · exact .inl hn
    · exact .inr (weightsAll_mem hd n hn)

/-- One list out of 'for each there is one'. -/
theorem list_of {β γ : Type} {R : Nat → β → γ → Prop} : ∀ (l : List β) (k : Nat), (∀ i b, l[i]? = some b → ∃ c, R (k + i) b c) → ∃ m : List γ, m.length = l.length ∧ ∀ i b c, l[i]? = some b → m[i]? = some c → R (k + i) b c
  | [], _, _ => ⟨[], rfl, fun i b c h => by simp at h⟩
  | b :: l, k, h => by
    obtain ⟨c, hc⟩ := h 0 b rfl
    obtain ⟨m, hm, hr⟩ := list_of l (k + 1) (R := R) (fun i b' hb => by
      have := h (i + 1) b' (by simpa using hb)
      rwa [show k + (i + 1) = k + 1 + i by omega] at this)
    refine ⟨c :: m, by simp [hm], fun i b' c' h1 h2 => ?_⟩
    cases i with
    | zero =>
      simp at h1 h2
      subst h1; subst h2
      exact hc
    | succ i =>
      have := hr i b' c' (by simpa using h1) (by simpa using h2)
      rwa [show k + 1 + i = k + (i + 1) by omega] at this

theorem opens_slice {α : Type} {t e : TypeId} {d : Kd α} {S : α → Prop} (ht : P.underlying t = some (.slice e)) (hc : P.cellsOf e = d.sz) (ho : Opens enc P w base spare held e d S) :
    Opens enc P w base spare held t (Kd.slice e d) (fun xs => xs.length * P.bytesOf e ≤ 140737488351232 ∧ ∀ x ∈ xs, S x) := by
  intro fuel cs x h hz
  rcases DataW.trod_slice ht h with ⟨rfl, rfl⟩ | ⟨a, len, cap, elems, rest, n, _, rfl, rfl, hb, hl, hm, hlen, hel, _, _⟩
  · exact ⟨[], ⟨none, 0, rfl, by simp, rfl, by simp, fun h => by simp at h⟩, by simp, by simp⟩
  · simp only [DataW.weights, ht, List.all_cons, List.all_append, Bool.and_eq_true, decide_eq_true_eq, List.length_map] at hz
    obtain ⟨hz0, hz1, _⟩ := hz
    have each : ∀ i b, elems[i]? = some b → ∃ y : α, ∃ c : List Value, d.K w y c ∧ S y ∧ c.length = d.sz ∧ ∀ j u, c[j]? = some u → w.cell? (a.add (i * d.sz + j)) = some u := by
      intro i b hi
      have hil : i < len := by rw [← hlen]; exact (List.getElem?_eq_some_iff.1 hi).1
      have h1 := hel i hil
      rw [hi] at h1
      obtain ⟨cs', h2, h3⟩ := Option.bind_eq_some_iff.1 h1
      obtain ⟨_, hcl, hcell⟩ := World.cells?_some h2
      have hw : (b.1.weights P e).all (· ≤ reachBytes) = true := by
        rw [List.all_eq_true] at hz1 ⊢
        exact fun z hz => hz1 z (weightsAll_mem (List.mem_map.2 ⟨b, List.mem_of_getElem? hi, rfl⟩) z hz)
      obtain ⟨y, hy, hs⟩ := ho n cs' b h3 hw
      refine ⟨y, cs', hy, hs, by rw [hcl, hc], fun j u hj => ?_⟩
      have hjl : j < P.cellsOf e := by rw [← hcl]; exact (List.getElem?_eq_some_iff.1 hj).1
      have := hcell j hjl
      rw [Deep.add_add, hc, hj] at this
      exact this
    obtain ⟨ys, hy, hr⟩ := list_of (R := fun i _ (y : α) => ∃ c : List Value, d.K w y c ∧ S y ∧ c.length = d.sz ∧ ∀ j u, c[j]? = some u → w.cell? (a.add (i * d.sz + j)) = some u) elems 0 (fun i b hi => by
      rw [Nat.zero_add]
      exact each i b hi)
    have hyl : ys.length = len := by rw [hy, hlen]
    refine ⟨ys, ⟨some a, cap, by rw [hyl], by omega, rfl, by unfold maxLen at hm; omega, fun _ => ⟨a, rfl, fun j p hj => ?_⟩⟩, ?_, fun y hy' => ?_⟩
    · have hjl : j < elems.length := by rw [hlen, ← hyl]; exact (List.getElem?_eq_some_iff.1 hj).1
      obtain ⟨c, h1, _, h3, h4⟩ := hr j _ p (List.getElem?_eq_getElem hjl) hj
      rw [Nat.zero_add] at h4
      exact ⟨c, h3, h1, h4⟩
    · have : ys.length * P.bytesOf e ≤ (elems.length + rest.length) * P.bytesOf e := Nat.mul_le_mul_right _ (by omega)
      exact Nat.le_trans this hz0
    · obtain ⟨j, hj, rfl⟩ := List.mem_iff_getElem.1 hy'
      have hjl : j < elems.length := by omega
      obtain ⟨c, _, h2, _⟩ := hr j _ _ (List.getElem?_eq_getElem hjl) (List.getElem?_eq_getElem hj)
      exact h2

/-- An argument's own weights. -/
theorem weights_at {ts : List TypeId} {ds : List (DataW H)} (h : (DataW.weightsEach P ts ds).all (· ≤ reachBytes) = true) {j : Nat} {t : TypeId} {d : DataW H} (ht : ts[j]? = some t) (hd : ds[j]? = some d) : (d.weights P t).all (· ≤ reachBytes) = true := by
  rw [List.all_eq_true] at h ⊢
  exact fun n hn => h n (DataW.weights_mem_each ht hd n hn)
end Go.Proofs.YtefheailchihaaaGreatDoorW.Opening

end
section
namespace Go.Proofs.YtefheailchihaaaGreatDoor.Print
open Go.RowKit Go.Proofs.YtefheailchihaaaGreatDoorW.PrintWords Go.Proofs.YtefheailchihaaaGreatDoorW.Opening
variable {H : Type} {enc : TypeId × Value → H} {w : World} {base : Nat} {spare : Nat → Bool} {held : Bool}
def Small35 (l : List Int) : Prop := l.length * 8 ≤ 140737488351232 ∧ ∀ n ∈ l, (Lit.int .i64 n).wf = true
set_option maxRecDepth 100000 in
theorem opens40 : Opens enc Tryz.prog w base spare held 40 (Kd.slice 3 (Kd.int .i64)) Small35 :=
  opens_slice Tryz.underlying40 (by kernel_rfl) (opens_int Tryz.underlying3)
end Go.Proofs.YtefheailchihaaaGreatDoor.Print

end
section
namespace Go.Proofs.YtefheailchihaaaGreatDoor.Print
open Go.RowKit Go.Proofs.YtefheailchihaaaGreatDoorW.PrintWords Go.Proofs.YtefheailchihaaaGreatDoorW.PrintLast
set_option linter.unusedVariables false

theorem wrap_succB (i : Nat) (h : i ≤ 4611686018427387904) : wrap64 ((i : Int) + 1) = ((i + 1 : Nat) : Int) := by unfold wrap64; omega
theorem ahead_aheadB (E X : List S42) (p : Pst) : ahead E (ahead X p) = ahead (E ++ X) p := by
  unfold ahead
  simp only [List.append_assoc]
/-- What stands behind n rows: the text, the value, the commands that are wanted. -/
structure BJ (n : Nat) (s v : ByteArray) (ws : List ByteArray) : Prop where
  cut : (linesCut s).2 = 0
  size : s.size ≤ 60 + 20 * n
  len : ws.length ≤ n
  vsize : v.size ≤ 199
  go : ∃ E X o O, Sc O v ∧ parseGo (linesCut s).1 pst0 .none = (ahead E (biP O), o, 0) ∧ overE (biP O) o 0 = 0 ∧ overP (biP O) o = ahead X (biP O) ∧ (E ++ X).map (·.f4) = ws
theorem bj_zero : BJ 0 biH ⟨#[]⟩ [] := ⟨biH_lines, by rw [biH_size]; omega, Nat.le_refl _, by decide, [], [], .rule, [], sc_nil, biH_go, biP_over [], rfl, rfl⟩
theorem bj_skip {n : Nat} {s v : ByteArray} {ws : List ByteArray} (h : BJ n s v ws) : BJ (n + 1) s v ws := ⟨h.cut, by have := h.size; omega, Nat.le_succ_of_le h.len, h.vsize, h.go⟩
theorem bj_app {n : Nat} {s v : ByteArray} {ws : List ByteArray} (h : BJ n s v ws) (hn : n < 12) (c : Nat) (hc : c < 3) : (linesCut (s ++ biK n c)) = ((linesCut s).1 ++ (linesCut (biK n c)).1, 0) ∧ (s ++ biK n c).size ≤ 60 + 20 * (n + 1) ∧
    ∃ es O, Sc O v ∧ es.map (·.f4) = ws ∧ parseGo (linesCut (s ++ biK n c)).1 pst0 .none = parseGo (linesCut (biK n c)).1 (ahead es (biP O)) .none := by
  have R := row_all n hn
  obtain ⟨h1, h2⟩ := R.cut c hc
  have hs := h.size
  have hz : (s ++ biK n c).size ≤ 60 + 20 * (n + 1) := by rw [ByteArray.size_append]; omega
  have hL := lines_app2 h.cut h1 (by omega)
  obtain ⟨E, X, o, O, g0, g1, g2, g3, g4⟩ := h.go
  obtain ⟨x, hx, hf⟩ := R.flat c hc
  refine ⟨hL, hz, E ++ X, O, g0, g4, ?_⟩
  rw [hL]
  show parseGo ((linesCut s).1 ++ (linesCut (biK n c)).1) pst0 .none = _
  rw [parseGo_app _ _ _ _ (by rw [g1]), g1]
  show parseGo (linesCut (biK n c)).1 (ahead E (biP O)) o = _
  rw [hx]
  refine go_flat _ _ _ x [] hf ?_ ?_
  · rw [(ahead_over E (biP O) o).2]; exact g2
  · rw [(ahead_over E (biP O) o).1, g3, ahead_aheadB]
theorem plain_catB (a b : ByteArray) (ha : plainL a.data.toList = true) (hb : plainL b.data.toList = true) (hs : a.size + b.size ≤ 256) : plainB (a ++ b) 256 = true := by
  unfold plainB
  rw [ByteArray.data_append, Array.toList_append]
  unfold plainL at *
  rw [List.all_append, ha, hb, ByteArray.size_append]
  simp only [Bool.and_self, Bool.true_and, decide_eq_true_eq]
  omega
theorem plainL_of {s : ByteArray} {m : Int} (h : plainB s m = true) : plainL s.data.toList = true := by
  unfold plainB at h
  simp only [Bool.and_eq_true, decide_eq_true_eq] at h
  exact h.1
theorem bj_set0 {n : Nat} {s v : ByteArray} {ws : List ByteArray} (h : BJ n s v ws) (hn : n < 12) : BJ (n + 1) (s ++ biK n 0) (strL n) ws := by
  obtain ⟨hL, hz, es, O, g0, g4, hgo⟩ := bj_app h hn 0 (by omega)
  have R := row_all n hn
  refine ⟨by rw [hL], hz, Nat.le_succ_of_le h.len, by rw [R.plain.2]; omega, es, [], .none, [⟨biV, strL n⟩], sc_one ?_, ?_, rfl, rfl, by rw [List.append_nil]; exact g4⟩
  · unfold plainB
    rw [R.plain.1, R.plain.2]
    decide
  · rw [hgo]; exact R.set0 O v es g0
theorem bj_set1 {n : Nat} {s v : ByteArray} {ws : List ByteArray} (h : BJ n s v ws) (hn : n < 12) (hv : v.size < 100) : BJ (n + 1) (s ++ biK n 1) ((v ++ v) ++ strL n) ws := by
  obtain ⟨hL, hz, es, O, g0, g4, hgo⟩ := bj_app h hn 1 (by omega)
  have R := row_all n hn
  have hp2 : plainB (v ++ v) 256 = true := plain_catB v v (plainL_of g0.plain) (plainL_of g0.plain) (by omega)
  have hp : plainB ((v ++ v) ++ strL n) 256 = true := plain_catB (v ++ v) (strL n) (plainL_of hp2) R.plain.1 (by rw [ByteArray.size_append, R.plain.2]; omega)
  refine ⟨by rw [hL], hz, Nat.le_succ_of_le h.len, by rw [ByteArray.size_append, ByteArray.size_append, R.plain.2]; omega, es, [], .none, [⟨biV, (v ++ v) ++ strL n⟩], sc_one hp, ?_, rfl, rfl, by rw [List.append_nil]; exact g4⟩
  rw [hgo]; exact R.set1 O v es g0 hp
theorem cmd_eqB (v L : ByteArray) : (⟨#[60]⟩ : ByteArray) ++ v ++ (⟨#[62]⟩ : ByteArray) ++ ((⟨#[111]⟩ : ByteArray) ++ L) = (((⟨#[60]⟩ : ByteArray) ++ v) ++ (⟨#[62, 111]⟩ : ByteArray)) ++ L := by
  have h : (⟨#[62, 111]⟩ : ByteArray) = (⟨#[62]⟩ : ByteArray) ++ (⟨#[111]⟩ : ByteArray) := by decide +kernel
  rw [h]
  simp only [ByteArray.append_assoc]
theorem bj_build {n : Nat} {s v : ByteArray} {ws : List ByteArray} (h : BJ n s v ws) (hn : n < 12) : BJ (n + 1) (s ++ biK n 2) v (ws ++ [(((⟨#[60]⟩ : ByteArray) ++ v) ++ (⟨#[62, 111]⟩ : ByteArray)) ++ strL n]) := by
  obtain ⟨hL, hz, es, O, g0, g4, hgo⟩ := bj_app h hn 2 (by omega)
  have R := row_all n hn
  obtain ⟨e1, e2⟩ := R.ends O v g0 (by have := h.vsize; omega)
  have hlen := h.len
  have hl : es.length = ws.length := by rw [← g4, List.length_map]
  obtain ⟨x, hx, hf⟩ := R.flat 2 (by omega)
  refine ⟨by rw [hL], hz, by rw [List.length_append, List.length_singleton]; omega, h.vsize, es, [⟨[biO n], [], [], [], (⟨#[60]⟩ : ByteArray) ++ v ++ (⟨#[62]⟩ : ByteArray) ++ biO n, false, ⟨#[]⟩⟩], biB n, O, g0, ?_, e1, e2, ?_⟩
  · rw [hgo, ahead_go es _ (biP O) .none (by rw [hx]; show es.length + 0 + 1 < 16; omega), R.build O]
  · rw [List.map_append, g4]
    show ws ++ [(⟨#[60]⟩ : ByteArray) ++ v ++ (⟨#[62]⟩ : ByteArray) ++ biO n] = _
    unfold biO
    rw [cmd_eqB]
theorem bj_parse {n : Nat} {s v : ByteArray} {ws : List ByteArray} (h : BJ n s v ws) : ∃ es : List S42, es.map (·.f4) = ws ∧ parseB s = (es, [], [], 0) := by
  obtain ⟨E, X, o, O, g0, h1, h2, h3, h4⟩ := h.go
  refine ⟨E ++ X, h4, ?_⟩
  unfold parseB
  rw [if_pos h.cut, h1]
  unfold parseEnd
  show (if (0 : Int) = 0 then (if overE (ahead E (biP O)) o 0 = 0 then ((overP (ahead E (biP O)) o).edges, (overP (ahead E (biP O)) o).pools, (overP (ahead E (biP O)) o).defs, (0 : Int)) else _) else _) = _
  rw [if_pos rfl, (ahead_over E (biP O) o).2, if_pos h2, (ahead_over E (biP O) o).1, h3, ahead_aheadB]
  show (((E ++ X) ++ [] : List S42), _) = _
  rw [List.append_nil]
  rfl
theorem bi_last (es : List S42) (ps : List S44) (ds : List ByteArray) (ws : List ByteArray) (hl : ws.length ≤ 1000) (he : es.map (·.f4) = ws) : ∀ (d i k : Nat), i + d = ws.length → d < k → cruciblelaw8_ManifestBinds.l1 k ws (i : Int) es ps ds = some true
  | _, _, 0, _, h => absurd h (by omega)
  | 0, i, k + 1, h, _ => by
    unfold cruciblelaw8_ManifestBinds.l1
    rw [if_neg (by omega)]
  | d + 1, i, k + 1, h, hk => by
    have hel : es.length = ws.length := by rw [← he, List.length_map]
    have hi : i < es.length := by omega
    have e1 : rd_T42 es (i : Int) = es[i] := by simp [rd_T42, List.getD_eq_getElem?_getD, hi]
    have e2 : rdOf ByteArray.empty ws (i : Int) = es[i].f4 := by
      subst he
      simp [rdOf, List.getD_eq_getElem?_getD, hi]
    unfold cruciblelaw8_ManifestBinds.l1
    rw [if_pos (by omega), if_pos (by omega), if_pos (by omega), e1, e2, if_pos rfl, wrap_succB i (by omega)]
    exact bi_last es ps ds ws hl he d (i + 1) k (by omega) (by omega)
theorem bi_tail (k : Nat) (x0 : List Int) (s v : ByteArray) (ws : List ByteArray) (n : Nat) (hn : n ≤ 12) (h : BJ n s v ws) (hk : 30 ≤ k) : cruciblelaw8_ManifestBinds.j1 (k + 1) x0 s v ws (n : Int) false = some true := by
  obtain ⟨es, he, hp⟩ := bj_parse h
  have hel : es.length = ws.length := by rw [← he, List.length_map]
  have hlen := h.len
  have hf : manifest_Parse.f s = some (es, [], [], 0) := pf_of (by have := h.size; omega) hp
  unfold cruciblelaw8_ManifestBinds.j1
  rw [if_neg (by decide), hf]
  simp only [Option.bind_some]
  rw [show cruciblelaw0_Num.f 0 = some 0 by kernel_rfl]
  simp only [Option.bind_some]
  rw [if_pos trivial, hel, show ((ws.length : Int) != (ws.length : Int)) = false by simp]
  obtain ⟨k', rfl⟩ : ∃ k', k = k' + 1 := ⟨k - 1, by omega⟩
  show (if false = true then some false else cruciblelaw8_ManifestBinds.l1 k' ws 0 es [] []) = some true
  rw [if_neg (by decide)]
  exact bi_last es [] [] ws (by omega) he ws.length 0 k' (by omega) (by omega)
theorem bi_end (k : Nat) (x0 : List Int) (s v : ByteArray) (ws : List ByteArray) (n : Nat) (hn : n ≤ 12) (hx : ¬ (n < x0.length ∧ n < 12)) (h : BJ n s v ws) (hk : 30 ≤ k) : cruciblelaw8_ManifestBinds.l0 (k + 2) x0 s v ws (n : Int) = some true := by
  conv => lhs; unfold cruciblelaw8_ManifestBinds.l0
  by_cases h1 : n < x0.length
  · rw [if_pos (by omega), show decide ((n : Int) < 12) = false from decide_eq_false (by omega)]
    exact bi_tail k x0 s v ws n hn h hk
  · rw [if_neg (by omega)]
    exact bi_tail k x0 s v ws n hn h hk
set_option maxHeartbeats 4000000 in
theorem bi_step (k : Nat) (x0 : List Int) (s v : ByteArray) (ws : List ByteArray) (n : Nat) (hn : n < 12) (hx : n < x0.length) (h : BJ n s v ws) : ∃ s' v' ws', BJ (n + 1) s' v' ws' ∧ cruciblelaw8_ManifestBinds.l0 (k + 2) x0 s v ws (n : Int) = cruciblelaw8_ManifestBinds.l0 k x0 s' v' ws' ((n + 1 : Nat) : Int) := by
  have hw : wrap64 ((n : Int) + 1) = ((n + 1 : Nat) : Int) := wrap_succB n (by omega)
  have R := row_all n hn
  have hL1 := R.plain.2
  have hs := h.size
  have hv := h.vsize
  have hlen := h.len
  have a0 : ((s ++ biT0) ++ strL n) ++ biNl = s ++ biK n 0 := by unfold biK; simp only [ByteArray.append_assoc]
  have a1 : ((s ++ biT1) ++ strL n) ++ biNl = s ++ biK n 1 := by unfold biK; simp only [ByteArray.append_assoc]
  have a2 : ((s ++ biT2) ++ strL n) ++ biT3 = s ++ biK n 2 := by unfold biK; simp only [ByteArray.append_assoc]
  have z0 : (s ++ biT0).size = s.size + 4 := by rw [ByteArray.size_append]; rfl
  have z1 : (s ++ biT1).size = s.size + 12 := by rw [ByteArray.size_append]; rfl
  have z2 : (s ++ biT2).size = s.size + 7 := by rw [ByteArray.size_append]; rfl
  have y1 : ((⟨#[60]⟩ : ByteArray) ++ v).size = 1 + v.size := by rw [ByteArray.size_append]; rfl
  have y2 : (((⟨#[60]⟩ : ByteArray) ++ v) ++ (⟨#[62, 111]⟩ : ByteArray)).size = 3 + v.size := by rw [ByteArray.size_append, y1]; show 1 + v.size + 2 = _; omega
  have e0 : cruciblelaw8_ManifestBinds.l0 (k + 2) x0 s v ws (n : Int) = cruciblelaw8_ManifestBinds.j1 (k + 1) x0 s v ws (n : Int) true := by
    conv => lhs; unfold cruciblelaw8_ManifestBinds.l0
    rw [if_pos (by omega), show decide ((n : Int) < 12) = true from decide_eq_true (by omega)]
  rw [e0]
  by_cases h0 : (wrap64 (Int.tmod (IntKind.u64.wrap (rd x0 n)) 3)) = 0
  · refine ⟨_, _, _, bj_set0 h hn, ?_⟩
    conv => lhs; unfold cruciblelaw8_ManifestBinds.j1
    rw [if_pos rfl]
    simp only [Option.bind_some]
    rw [if_pos (by omega), if_pos (by omega), if_pos h0, if_pos (by omega), if_pos (by rw [z0, hL1]; omega), if_pos (by rw [ByteArray.size_append, z0, hL1]; omega), hw, a0]
  by_cases h1 : (wrap64 (Int.tmod (IntKind.u64.wrap (rd x0 n)) 3)) = 1
  · by_cases h2 : (v.size : Int) < 100
    · refine ⟨_, _, _, bj_set1 h hn (by omega), ?_⟩
      conv => lhs; unfold cruciblelaw8_ManifestBinds.j1
      rw [if_pos rfl]
      simp only [Option.bind_some]
      rw [if_pos (by omega), if_pos (by omega), if_neg h0, if_pos h1, if_pos h2, if_pos (by omega), if_pos (by rw [z1, hL1]; omega), if_pos (by rw [ByteArray.size_append, z1, hL1]; omega), if_pos (by omega), if_pos (by rw [ByteArray.size_append, hL1]; omega), hw, a1]
    · refine ⟨_, _, _, bj_skip h, ?_⟩
      conv => lhs; unfold cruciblelaw8_ManifestBinds.j1
      rw [if_pos rfl]
      simp only [Option.bind_some]
      rw [if_pos (by omega), if_pos (by omega), if_neg h0, if_pos h1, if_neg h2, hw]
  · refine ⟨_, _, _, bj_build h hn, ?_⟩
    conv => lhs; unfold cruciblelaw8_ManifestBinds.j1
    rw [if_pos rfl]
    simp only [Option.bind_some]
    rw [if_pos (by omega), if_pos (by omega), if_neg h0, if_neg h1, if_pos (by omega), if_pos (by rw [z2, hL1]; omega), if_pos (by rw [ByteArray.size_append, z2, hL1]; omega), if_pos (by omega), if_pos (by rw [y1]; omega), if_pos (by rw [y2, hL1]; omega), if_pos (by omega), hw, a2]
theorem bi_go (x0 : List Int) : ∀ (d n : Nat) (s v : ByteArray) (ws : List ByteArray), n + d = min x0.length 12 → BJ n s v ws → cruciblelaw8_ManifestBinds.l0 (2 * d + 40) x0 s v ws (n : Int) = some true
  | 0, n, s, v, ws, h, hJ => bi_end 38 x0 s v ws n (by omega) (by omega) hJ (by omega)
  | d + 1, n, s, v, ws, h, hJ => by
    obtain ⟨s', v', ws', hJ', he⟩ := bi_step (2 * d + 40) x0 s v ws n (by omega) (by omega) hJ
    rw [show 2 * (d + 1) + 40 = 2 * d + 40 + 2 by omega, he]
    exact bi_go x0 d (n + 1) s' v' ws' (by omega) hJ'
theorem pure_ManifestBinds : cruciblelaw8_ManifestBinds.Pure := fun l0 _ _ _ => by
  refine ⟨2 * (min l0.length 12) + 40, ?_⟩
  have ha : cruciblelaw8_awake.f = some true := rfl
  unfold cruciblelaw8_ManifestBinds.f
  rw [ha]
  simp only [Option.bind_some]
  rw [if_pos trivial]
  exact bi_go l0 _ 0 biH ⟨#[]⟩ [] (by omega) bj_zero
end Go.Proofs.YtefheailchihaaaGreatDoor.Print
namespace Go.Proofs.YtefheailchihaaaGreatDoor.Print
open Go.RowKit Go.Lib Go.Proofs.YtefheailchihaaaGreatDoorW.PrintWords Go.Proofs.YtefheailchihaaaGreatDoorW.PrintLast
theorem ManifestBinds_walk (w : World) (A : Option Addr) (c : Nat) (l : List Int) (hr : Kd.C (Kd.int .i64) w A l.length l) (hc : l.length ≤ c) (hs : Small35 l) :
    Calls Tryz.prog 9 #[.slice A l.length c] w fun e w' => e = .returned (.bool true) ∧ Below w.heap.size w w' := by
  obtain ⟨k, hk⟩ := pure_ManifestBinds l (by unfold maxLen; have := hs.1; omega) hs.1 hs.2
  exact cruciblelaw8_ManifestBinds.calls k A c l true w hr hc hk
end Go.Proofs.YtefheailchihaaaGreatDoor.Print

end
