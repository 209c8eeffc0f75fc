/- YtefheailchihaaaGreatDoorSd12: out of this seat's texts (wip/tools/shake.py), what is needed alone. -/
import Derived.ProofKit
import Derived.ChangeArms
import Derived.SizedLaws
import Derived.Deep.Slices
import Derived.Test.YtefheailchihaaaGreatDoorSd11
section
namespace Go.Proofs.YtefheailchihaaaGreatDoorW.Opening
open Go.ChangeShapes Go.WideShapes Go.Proofs.YtefheailchihaaaGreatDoorW.PrintWords
variable {H : Type} {enc : TypeId × Value → H} {P : Program} {w : World} {base : Nat} {spare : Nat → Bool} {held : Bool}

/-- What reads as data of type t is of kind d, and small. -/
def Opens {α : Type} (enc : TypeId × Value → H) (P : Program) (w : World) (base : Nat) (spare : Nat → Bool) (held : Bool) (t : TypeId) (d : Kd α) (S : α → Prop) : Prop :=
  ∀ (fuel : Nat) (cs : List Value) (x : DataW H × List MemPlace), DataW.trod enc P w base spare held fuel t cs = some x → (x.1.weights P t).all (· ≤ reachBytes) = true → ∃ y, d.K w y cs ∧ S y

theorem opens_int {t : TypeId} {k : IntKind} (ht : P.underlying t = some (.int k)) : Opens enc P w base spare held t (Kd.int k) (fun n => (Lit.int k n).wf = true) := by
  intro fuel cs x h _
  obtain ⟨n, rfl, rfl, hw⟩ := DataW.trod_int ht h
  exact ⟨n, rfl, hw⟩
theorem weightsAll_mem {e : TypeId} : ∀ {l : List (DataW H)} {d : DataW H}, d ∈ l → ∀ n ∈ d.weights P e, n ∈ DataW.weightsAll P e l
  | d0 :: l, d, hd, n, hn => by
    simp only [DataW.weightsAll, List.mem_append]
    rcases List.mem_cons.1 hd with rfl | hd
    · exact .inl hn
    · exact .inr (weightsAll_mem hd n hn)

/-- One list out of 'for each there is one'. -/
theorem list_of {β γ : Type} {R : Nat → β → γ → Prop} : ∀ (l : List β) (k : Nat), (∀ i b, l[i]? = some b → ∃ c, R (k + i) b c) → ∃ m : List γ, m.length = l.length ∧ ∀ i b c, l[i]? = some b → m[i]? = some c → R (k + i) b c
  | [], _, _ => ⟨[], rfl, fun i b c h => by simp at h⟩
  | b :: l, k, h => by
    obtain ⟨c, hc⟩ := h 0 b rfl
    obtain ⟨m, hm, hr⟩ := list_of l (k + 1) (R := R) (fun i b' hb => by
      have := h (i + 1) b' (by simpa using hb)
      rwa [show k + (i + 1) = k + 1 + i by omega] at this)
    refine ⟨c :: m, by simp [hm], fun i b' c' h1 h2 => ?_⟩
    cases i with
    | zero =>
      simp at h1 h2
      subst h1; subst h2
      exact hc
    | succ i =>
      have := hr i b' c' (by simpa using h1) (by simpa using h2)
      rwa [show k + 1 + i = k + (i + 1) by omega] at this

theorem opens_slice {α : Type} {t e : TypeId} {d : Kd α} {S : α → Prop} (ht : P.underlying t = some (.slice e)) (hc : P.cellsOf e = d.sz) (ho : Opens enc P w base spare held e d S) :
    Opens enc P w base spare held t (Kd.slice e d) (fun xs => xs.length * P.bytesOf e ≤ 140737488351232 ∧ ∀ x ∈ xs, S x) := by
  intro fuel cs x h hz
  rcases DataW.trod_slice ht h with ⟨rfl, rfl⟩ | ⟨a, len, cap, elems, rest, n, _, rfl, rfl, hb, hl, hm, hlen, hel, _, _⟩
  · exact ⟨[], ⟨none, 0, rfl, by simp, rfl, by simp, fun h => by simp at h⟩, by simp, by simp⟩
  · simp only [DataW.weights, ht, List.all_cons, List.all_append, Bool.and_eq_true, decide_eq_true_eq, List.length_map] at hz
    obtain ⟨hz0, hz1, _⟩ := hz
    have each : ∀ i b, elems[i]? = some b → ∃ y : α, ∃ c : List Value, d.K w y c ∧ S y ∧ c.length = d.sz ∧ ∀ j u, c[j]? = some u → w.cell? (a.add (i * d.sz + j)) = some u := by
      intro i b hi
      have hil : i < len := by rw [← hlen]; exact (List.getElem?_eq_some_iff.1 hi).1
      have h1 := hel i hil
      rw [hi] at h1
      obtain ⟨cs', h2, h3⟩ := Option.bind_eq_some_iff.1 h1
      obtain ⟨_, hcl, hcell⟩ := World.cells?_some h2
      have hw : (b.1.weights P e).all (· ≤ reachBytes) = true := by
        rw [List.all_eq_true] at hz1 ⊢
        exact fun z hz => hz1 z (weightsAll_mem (List.mem_map.2 ⟨b, List.mem_of_getElem? hi, rfl⟩) z hz)
      obtain ⟨y, hy, hs⟩ := ho n cs' b h3 hw
      refine ⟨y, cs', hy, hs, by rw [hcl, hc], fun j u hj => ?_⟩
      have hjl : j < P.cellsOf e := by rw [← hcl]; exact (List.getElem?_eq_some_iff.1 hj).1
      have := hcell j hjl
      rw [Deep.add_add, hc, hj] at this
      exact this
    obtain ⟨ys, hy, hr⟩ := list_of (R := fun i _ (y : α) => ∃ c : List Value, d.K w y c ∧ S y ∧ c.length = d.sz ∧ ∀ j u, c[j]? = some u → w.cell? (a.add (i * d.sz + j)) = some u) elems 0 (fun i b hi => by
      rw [Nat.zero_add]
      exact each i b hi)
    have hyl : ys.length = len := by rw [hy, hlen]
    refine ⟨ys, ⟨some a, cap, by rw [hyl], by omega, rfl, by unfold maxLen at hm; omega, fun _ => ⟨a, rfl, fun j p hj => ?_⟩⟩, ?_, fun y hy' => ?_⟩
    · have hjl : j < elems.length := by rw [hlen, ← hyl]; exact (List.getElem?_eq_some_iff.1 hj).1
      obtain ⟨c, h1, _, h3, h4⟩ := hr j _ p (List.getElem?_eq_getElem hjl) hj
      rw [Nat.zero_add] at h4
      exact ⟨c, h3, h1, h4⟩
    · have : ys.length * P.bytesOf e ≤ (elems.length + rest.length) * P.bytesOf e := Nat.mul_le_mul_right _ (by omega)
      exact Nat.le_trans this hz0
    · obtain ⟨j, hj, rfl⟩ := List.mem_iff_getElem.1 hy'
      have hjl : j < elems.length := by omega
      obtain ⟨c, _, h2, _⟩ := hr j _ _ (List.getElem?_eq_getElem hjl) (List.getElem?_eq_getElem hj)
      exact h2

/-- An argument's own weights. -/
theorem weights_at {ts : List TypeId} {ds : List (DataW H)} (h : (DataW.weightsEach P ts ds).all (· ≤ reachBytes) = true) {j : Nat} {t : TypeId} {d : DataW H} (ht : ts[j]? = some t) (hd : ds[j]? = some d) : (d.weights P t).all (· ≤ reachBytes) = true := by
  rw [List.all_eq_true] at h ⊢
  exact fun n hn => h n (DataW.weights_mem_each ht hd n hn)
end Go.Proofs.YtefheailchihaaaGreatDoorW.Opening

end
section
namespace Go.Proofs.YtefheailchihaaaGreatDoor.Print
open Go.RowKit Go.Proofs.YtefheailchihaaaGreatDoorW.PrintWords Go.Proofs.YtefheailchihaaaGreatDoorW.Opening
variable {H : Type} {enc : TypeId × Value → H} {w : World} {base : Nat} {spare : Nat → Bool} {held : Bool}
def Small35 (l : List Int) : Prop := l.length * 8 ≤ 140737488351232 ∧ ∀ n ∈ l, (Lit.int .i64 n).wf = true
set_option maxRecDepth 100000 in
theorem opens40 : Opens enc Tryz.prog w base spare held 40 (Kd.slice 3 (Kd.int .i64)) Small35 :=
  opens_slice Tryz.underlying40 (by kernel_rfl) (opens_int Tryz.underlying3)
end Go.Proofs.YtefheailchihaaaGreatDoor.Print

end
section
namespace Go.Proofs.YtefheailchihaaaGreatDoor.Print
open Go.RowKit Go.Proofs.YtefheailchihaaaGreatDoorW.PrintWords Go.Proofs.YtefheailchihaaaGreatDoorW.PrintLast
set_option linter.unusedVariables false

def kd (r : Int) : Nat := if Go.bits .and .i64 r 1 = 0 then (if Go.bits .and .i64 r 2 = 2 then 2 else 0) else 1
theorem kd_lt (r : Int) : kd r < 3 := by unfold kd; split; split; all_goals omega
/-- What stands behind n rows: the text, the edges that are wanted. -/
structure EJ (n : Nat) (s : ByteArray) (es : List S42) : Prop where
  cut : (linesCut s).2 = 0
  size : s.size ≤ 120 + 60 * n
  len : es.length = n
  few : ∀ e ∈ es, FewE 10 e
  go : ∃ E X o, parseGo (linesCut s).1 pst0 .none = (ahead E edP, o, 0) ∧ overE edP o 0 = 0 ∧ overP edP o = ahead X edP ∧ es = E ++ X
theorem strO_size (i : Int) : (strO i).size = 2 := by rw [ByteArray.size_append, strOfNums_size]; rfl
theorem edK_size (i : Int) (c : Nat) : (edK i c).size ≤ 60 := by
  unfold edK
  split <;> simp only [ByteArray.size_append, strOfNums_size, List.length_cons, List.length_nil] <;> decide
theorem ej_zero : EJ 0 edH [] := ⟨edH_lines, by rw [edH_size]; omega, rfl, fun e h => by simp at h, [], [], .rule, edH_go, edP_over, rfl, rfl⟩
theorem ahead_ahead (E X : List S42) (p : Pst) : ahead E (ahead X p) = ahead (E ++ X) p := by
  unfold ahead
  simp only [List.append_assoc]
theorem edE_few (i : Int) (c : Nat) : FewE 10 (edE i c) := by
  unfold edE FewE
  split <;> simp
theorem ej_succ {n : Nat} {s : ByteArray} {es : List S42} (h : EJ n s es) (hn : n < 8) (c : Nat) (hc : c < 3) : EJ (n + 1) (edT s n c) (es ++ [edE n c]) := by
  have B := blk_all n c hn hc
  have hk := edK_size n c
  have hs := h.size
  have hL := lines_app2 h.cut B.cut (by rw [ByteArray.size_append]; omega)
  obtain ⟨E, X, o, h1, h2, h3, h4⟩ := h.go
  obtain ⟨x, l, hx, hf⟩ := B.flat
  rw [edT_eq]
  refine ⟨by rw [hL], by rw [ByteArray.size_append]; omega, by rw [List.length_append, h.len]; rfl, fun e he => ?_, es, [edE n c], (parseGo (linesCut (edK n c)).1 edP .none).2.1, ?_, B.ends, B.edge, rfl⟩
  · rcases List.mem_append.1 he with he | he
    · exact h.few e he
    · rw [List.mem_singleton.1 he]; exact edE_few n c
  · rw [hL]
    show parseGo ((linesCut s).1 ++ (linesCut (edK n c)).1) pst0 .none = _
    rw [parseGo_app _ _ _ _ (by rw [h1]), h1]
    show parseGo (linesCut (edK n c)).1 (ahead E edP) o = _
    have hgo : parseGo (linesCut (edK n c)).1 (ahead E edP) o = parseGo (linesCut (edK n c)).1 (ahead es edP) .none := by
      rw [hx]
      refine go_flat _ _ _ x l hf ?_ ?_
      · rw [(ahead_over E edP o).2]; exact h2
      · rw [(ahead_over E edP o).1, h3, ahead_ahead, h4]
    rw [hgo, ahead_go es _ edP .none (by have := B.len; have := h.len; show es.length + 0 + _ < 16; omega), B.state, B.fine]
theorem ej_parse {n : Nat} {s : ByteArray} {es : List S42} (h : EJ n s es) : parseB s = (es, [⟨(⟨#[112]⟩ : ByteArray), 3⟩], [], 0) := by
  obtain ⟨E, X, o, h1, h2, h3, h4⟩ := h.go
  unfold parseB
  rw [if_pos h.cut, h1]
  unfold parseEnd
  show (if (0 : Int) = 0 then (if overE (ahead E edP) o 0 = 0 then ((overP (ahead E edP) o).edges, (overP (ahead E edP) o).pools, (overP (ahead E edP) o).defs, (0 : Int)) else _) else _) = _
  rw [if_pos rfl, (ahead_over E edP o).2, if_pos h2, (ahead_over E edP o).1, h3, ahead_ahead, ← h4]
  show ((es ++ [] : List S42), _) = _
  rw [List.append_nil]
  rfl
set_option maxHeartbeats 4000000 in
theorem ed_step (k : Nat) (x0 : List Int) (s : ByteArray) (es : List S42) (n : Nat) (m : Int) (hm : (n : Int) < m) (hl : n < x0.length) (hn : n < 8) (hs : s.size ≤ 100000) (he : es.length ≤ 100) : cruciblelaw8_ManifestEdges.l0 (k + 1) x0 s es m (n : Int) = cruciblelaw8_ManifestEdges.l0 k x0 (edT s n (kd (rd x0 n))) (es ++ [edE n (kd (rd x0 n))]) m ((n + 1 : Nat) : Int) := by
  have hw : wrap64 ((n : Int) + 1) = ((n + 1 : Nat) : Int) := wrapN n (by omega)
  obtain ⟨O, hO, hg⟩ : ∃ O : ByteArray, O.size = 2 ∧ (⟨#[111]⟩ : ByteArray) ++ strOfNums ([(wrap64 (97 + (n : Int))) % 256] : List Int) = O := ⟨_, strO_size n, rfl⟩
  have g1 : (s ++ (⟨#[98, 117, 105, 108, 100, 32]⟩ : ByteArray)).size = s.size + 6 := by rw [ByteArray.size_append]; rfl
  have g2 : ((s ++ (⟨#[98, 117, 105, 108, 100, 32]⟩ : ByteArray)) ++ O).size = s.size + 8 := by rw [ByteArray.size_append, g1, hO]
  have g3 : (((s ++ (⟨#[98, 117, 105, 108, 100, 32]⟩ : ByteArray)) ++ O) ++ edT0).size = s.size + 25 := by rw [ByteArray.size_append, g2]; rfl
  have g4 : ((⟨#[97, 32, 45, 113, 32, 105, 49, 32, 105, 50, 32, 62, 32]⟩ : ByteArray) ++ O).size = 15 := by rw [ByteArray.size_append, hO]; rfl
  conv => lhs; unfold cruciblelaw8_ManifestEdges.l0
  rw [if_pos hm]
  simp only [Option.bind_some]
  rw [if_pos (by rw [strOfNums_size]; exact (by decide : 1 + 1 ≤ 9223372036854775807)), if_pos (by omega), if_pos (by omega)]
  unfold kd
  by_cases h1 : Go.bits .and .i64 (rd x0 n) 1 = 0
  · rw [if_pos h1, if_pos h1]
    rw [hg]
    rw [if_pos (by omega), if_pos (by rw [g1, hO]; omega), if_pos (by rw [g2]; omega)]
    rw [if_pos (by rw [hO]; omega)]
    by_cases h2 : Go.bits .and .i64 (rd x0 n) 2 = 2
    · rw [if_pos h2, if_pos h2, if_pos (by rw [g3]; omega), if_pos (by rw [g4]; omega), if_pos (by omega), hw, ← hg]
      rfl
    · rw [if_neg h2, if_neg h2, if_pos (by omega), hw, ← hg]
      rfl
  · rw [if_neg h1, if_neg h1]
    rw [hg]
    rw [if_pos (by omega), if_pos (by rw [g1, hO]; omega), if_pos (by rw [g2]; omega), if_pos (by omega), hw, ← hg]
    rfl
theorem ed_end (K : Nat) (hK : 30 ≤ K) (x0 : List Int) (s : ByteArray) (es : List S42) (n : Nat) (hn : n ≤ 8) (h : EJ n s es) : cruciblelaw8_ManifestEdges.l0 (K + 1) x0 s es (n : Int) (n : Int) = some true := by
  have hp : manifest_Parse.f s = some (es, [⟨(⟨#[112]⟩ : ByteArray), 3⟩], [], 0) := pf_of (by have := h.size; omega) (ej_parse h)
  have hg := same_graph 10 (by omega) es (by have := h.len; omega) h.few [⟨(⟨#[112]⟩ : ByteArray), 3⟩] (by simp) [] (by simp) K (by omega)
  conv => lhs; unfold cruciblelaw8_ManifestEdges.l0
  rw [if_neg (by omega), hp]
  simp only [Option.bind_some]
  rw [show cruciblelaw0_Num.f 0 = some 0 by kernel_rfl]
  simp only [Option.bind_some]
  rw [if_pos trivial, hg]
  rfl
theorem ed_go (K : Nat) (hK : 30 ≤ K) (x0 : List Int) (m : Nat) (hm : m ≤ 8) (hl : m ≤ x0.length) : ∀ (d n : Nat) (s : ByteArray) (es : List S42), n + d = m → EJ n s es → cruciblelaw8_ManifestEdges.l0 (d + (K + 1)) x0 s es (m : Int) (n : Int) = some true
  | 0, n, s, es, h, hJ => by
    obtain rfl : n = m := by omega
    rw [Nat.zero_add]
    exact ed_end K hK x0 s es n hm hJ
  | d + 1, n, s, es, h, hJ => by
    rw [show d + 1 + (K + 1) = (d + (K + 1)) + 1 by omega, ed_step _ x0 s es n m (by omega) (by omega) (by omega) (by have := hJ.size; omega) (by have := hJ.len; omega)]
    exact ed_go K hK x0 m hm hl d (n + 1) _ _ (by omega) (ej_succ hJ (by omega) _ (kd_lt _))
theorem pure_ManifestEdges : cruciblelaw8_ManifestEdges.Pure := fun l0 _ _ _ => by
  obtain ⟨m, hm, hm1, hm2⟩ : ∃ m : Nat, mn (l0.length : Int) 8 = (m : Int) ∧ m ≤ 8 ∧ m ≤ l0.length := by
    by_cases h : l0.length ≤ 8
    · exact ⟨l0.length, by unfold mn; split <;> omega, by omega, by omega⟩
    · exact ⟨8, by unfold mn; split <;> omega, by omega, by omega⟩
  refine ⟨m + (30 + 1), ?_⟩
  have ha : cruciblelaw8_awake.f = some true := rfl
  unfold cruciblelaw8_ManifestEdges.f
  rw [ha, hm]
  simp only [Option.bind_some]
  rw [if_pos trivial]
  exact ed_go 30 (by omega) l0 m hm1 hm2 m 0 edH [] (by omega) ej_zero
end Go.Proofs.YtefheailchihaaaGreatDoor.Print
namespace Go.Proofs.YtefheailchihaaaGreatDoor.Print
open Go.RowKit Go.Lib Go.Proofs.YtefheailchihaaaGreatDoorW.PrintWords Go.Proofs.YtefheailchihaaaGreatDoorW.PrintLast
theorem ManifestEdges_walk (w : World) (A : Option Addr) (c : Nat) (l : List Int) (hr : Kd.C (Kd.int .i64) w A l.length l) (hc : l.length ≤ c) (hs : Small35 l) :
    Calls Tryz.prog 6 #[.slice A l.length c] w fun e w' => e = .returned (.bool true) ∧ Below w.heap.size w w' := by
  obtain ⟨k, hk⟩ := pure_ManifestEdges l (by unfold maxLen; have := hs.1; omega) hs.1 hs.2
  exact cruciblelaw8_ManifestEdges.calls k A c l true w hr hc hk
end Go.Proofs.YtefheailchihaaaGreatDoor.Print

end
