/- Words of ours: an argument's cells that can be read as data are of the printed kind: numbers, bools, strings, slices and structs of these, however deep; with the bounds that the row's reach gives. -/
import Derived.Test.YtbkgcdjbkoeejaaDoorWWords
import Derived.ProofKit
import Derived.ChangeArms
import Derived.SizedLaws
import Derived.Deep.Slices
namespace Go.Proofs.YtbkgcdjbkoeejaaDoorW.Opening
open Go.ChangeShapes Go.WideShapes Go.Proofs.YtbkgcdjbkoeejaaDoorW.PrintWords
variable {H : Type} {enc : TypeId × Value → H} {P : Program} {w : World} {base : Nat} {spare : Nat → Bool} {held : Bool}

/-- What reads as data of type t is of kind d, and small. -/
def Opens {α : Type} (enc : TypeId × Value → H) (P : Program) (w : World) (base : Nat) (spare : Nat → Bool) (held : Bool) (t : TypeId) (d : Kd α) (S : α → Prop) : Prop :=
  ∀ (fuel : Nat) (cs : List Value) (x : DataW H × List MemPlace), DataW.trod enc P w base spare held fuel t cs = some x → (x.1.weights P t).all (· ≤ reachBytes) = true → ∃ y, d.K w y cs ∧ S y

theorem opens_int {t : TypeId} {k : IntKind} (ht : P.underlying t = some (.int k)) : Opens enc P w base spare held t (Kd.int k) (fun n => (Lit.int k n).wf = true) := by
  intro fuel cs x h _
  obtain ⟨n, rfl, rfl, hw⟩ := DataW.trod_int ht h
  exact ⟨n, rfl, hw⟩
theorem opens_bool {t : TypeId} (ht : P.underlying t = some .bool) : Opens enc P w base spare held t Kd.bool (fun _ => True) := by
  intro fuel cs x h _
  obtain ⟨n, rfl, rfl⟩ := DataW.trod_bool ht h
  exact ⟨n, rfl, trivial⟩
theorem opens_string {t : TypeId} (ht : P.underlying t = some .string) : Opens enc P w base spare held t Kd.string (fun s => s.size ≤ 140737488351232) := by
  intro fuel cs x h hz
  obtain ⟨s, rfl, rfl, hw⟩ := DataW.trod_string ht h
  refine ⟨s, rfl, ?_⟩
  simp only [DataW.weights, List.all_cons, List.all_nil, Bool.and_true, decide_eq_true_eq] at hz
  rw [Array.length_toList] at hz
  exact hz

theorem weightsAll_mem {e : TypeId} : ∀ {l : List (DataW H)} {d : DataW H}, d ∈ l → ∀ n ∈ d.weights P e, n ∈ DataW.weightsAll P e l
  | d0 :: l, d, hd, n, hn => by
    simp only [DataW.weightsAll, List.mem_append]
    rcases List.mem_cons.1 hd with rfl | hd
    · exact .inl hn
    · exact .inr (weightsAll_mem hd n hn)

/-- One list out of 'for each there is one'. -/
theorem list_of {β γ : Type} {R : Nat → β → γ → Prop} : ∀ (l : List β) (k : Nat), (∀ i b, l[i]? = some b → ∃ c, R (k + i) b c) → ∃ m : List γ, m.length = l.length ∧ ∀ i b c, l[i]? = some b → m[i]? = some c → R (k + i) b c
  | [], _, _ => ⟨[], rfl, fun i b c h => by simp at h⟩
  | b :: l, k, h => by
    obtain ⟨c, hc⟩ := h 0 b rfl
    obtain ⟨m, hm, hr⟩ := list_of l (k + 1) (R := R) (fun i b' hb => by
      have := h (i + 1) b' (by simpa using hb)
      rwa [show k + (i + 1) = k + 1 + i by omega] at this)
    refine ⟨c :: m, by simp [hm], fun i b' c' h1 h2 => ?_⟩
    cases i with
    | zero =>
      simp at h1 h2
      subst h1; subst h2
      exact hc
    | succ i =>
      have := hr i b' c' (by simpa using h1) (by simpa using h2)
      rwa [show k + 1 + i = k + (i + 1) by omega] at this

theorem opens_slice {α : Type} {t e : TypeId} {d : Kd α} {S : α → Prop} (ht : P.underlying t = some (.slice e)) (hc : P.cellsOf e = d.sz) (ho : Opens enc P w base spare held e d S) :
    Opens enc P w base spare held t (Kd.slice e d) (fun xs => xs.length * P.bytesOf e ≤ 140737488351232 ∧ ∀ x ∈ xs, S x) := by
  intro fuel cs x h hz
  rcases DataW.trod_slice ht h with ⟨rfl, rfl⟩ | ⟨a, len, cap, elems, rest, n, _, rfl, rfl, hb, hl, hm, hlen, hel, _, _⟩
  · exact ⟨[], ⟨none, 0, rfl, by simp, rfl, by simp, fun h => by simp at h⟩, by simp, by simp⟩
  · simp only [DataW.weights, ht, List.all_cons, List.all_append, Bool.and_eq_true, decide_eq_true_eq, List.length_map] at hz
    obtain ⟨hz0, hz1, _⟩ := hz
    have each : ∀ i b, elems[i]? = some b → ∃ y : α, ∃ c : List Value, d.K w y c ∧ S y ∧ c.length = d.sz ∧ ∀ j u, c[j]? = some u → w.cell? (a.add (i * d.sz + j)) = some u := by
      intro i b hi
      have hil : i < len := by rw [← hlen]; exact (List.getElem?_eq_some_iff.1 hi).1
      have h1 := hel i hil
      rw [hi] at h1
      obtain ⟨cs', h2, h3⟩ := Option.bind_eq_some_iff.1 h1
      obtain ⟨_, hcl, hcell⟩ := World.cells?_some h2
      have hw : (b.1.weights P e).all (· ≤ reachBytes) = true := by
        rw [List.all_eq_true] at hz1 ⊢
        exact fun z hz => hz1 z (weightsAll_mem (List.mem_map.2 ⟨b, List.mem_of_getElem? hi, rfl⟩) z hz)
      obtain ⟨y, hy, hs⟩ := ho n cs' b h3 hw
      refine ⟨y, cs', hy, hs, by rw [hcl, hc], fun j u hj => ?_⟩
      have hjl : j < P.cellsOf e := by rw [← hcl]; exact (List.getElem?_eq_some_iff.1 hj).1
      have := hcell j hjl
      rw [Deep.add_add, hc, hj] at this
      exact this
    obtain ⟨ys, hy, hr⟩ := list_of (R := fun i _ (y : α) => ∃ c : List Value, d.K w y c ∧ S y ∧ c.length = d.sz ∧ ∀ j u, c[j]? = some u → w.cell? (a.add (i * d.sz + j)) = some u) elems 0 (fun i b hi => by
      rw [Nat.zero_add]
      exact each i b hi)
    have hyl : ys.length = len := by rw [hy, hlen]
    refine ⟨ys, ⟨some a, cap, by rw [hyl], by omega, rfl, by unfold maxLen at hm; omega, fun _ => ⟨a, rfl, fun j p hj => ?_⟩⟩, ?_, fun y hy' => ?_⟩
    · have hjl : j < elems.length := by rw [hlen, ← hyl]; exact (List.getElem?_eq_some_iff.1 hj).1
      obtain ⟨c, h1, _, h3, h4⟩ := hr j _ p (List.getElem?_eq_getElem hjl) hj
      rw [Nat.zero_add] at h4
      exact ⟨c, h3, h1, h4⟩
    · have : ys.length * P.bytesOf e ≤ (elems.length + rest.length) * P.bytesOf e := Nat.mul_le_mul_right _ (by omega)
      exact Nat.le_trans this hz0
    · obtain ⟨j, hj, rfl⟩ := List.mem_iff_getElem.1 hy'
      have hjl : j < elems.length := by omega
      obtain ⟨c, _, h2, _⟩ := hr j _ _ (List.getElem?_eq_getElem hjl) (List.getElem?_eq_getElem hj)
      exact h2

/-- The same of a struct's fields, one behind the other, from an offset on. -/
def OpensFs {α : Type} (enc : TypeId × Value → H) (P : Program) (w : World) (base : Nat) (spare : Nat → Bool) (held : Bool) (fl : List Field) (off : Nat) (d : Kd α) (S : α → Prop) : Prop :=
  ∀ (n : Nat) (cs : List Value) (xs : List (DataW H × List MemPlace)), cs.length = d.sz → xs.length = fl.length →
    (∀ (i : Nat) (f : Field), fl[i]? = some f → DataW.trod enc P w base spare held n f.type ((cs.drop (f.offset - off)).take (P.cellsOf f.type)) = xs[i]?) →
    (DataW.weightsEach P (fl.map (·.type)) (xs.map (·.1))).all (· ≤ reachBytes) = true → ∃ y, d.K w y cs ∧ S y

theorem opensFs_one {α : Type} {f : Field} {off : Nat} {d : Kd α} {S : α → Prop} (ho : f.offset = off) (hc : P.cellsOf f.type = d.sz) (h : Opens enc P w base spare held f.type d S) : OpensFs enc P w base spare held [f] off d S := by
  intro n cs xs hl hx hf hz
  match xs, hx with
  | [x], _ =>
    have h1 := hf 0 f rfl
    rw [ho, Nat.sub_self, List.drop_zero, hc, List.take_of_length_le (by omega)] at h1
    refine h n cs x (by simpa using h1) ?_
    simpa [DataW.weightsEach] using hz

theorem opensFs_cons {α β : Type} {f : Field} {fl : List Field} {off : Nat} {d : Kd α} {d' : Kd β} {S : α → Prop} {S' : β → Prop} (ho : f.offset = off) (hc : P.cellsOf f.type = d.sz) (hr : ∀ g ∈ fl, off + d.sz ≤ g.offset)
    (h : Opens enc P w base spare held f.type d S) (h' : OpensFs enc P w base spare held fl (off + d.sz) d' S') : OpensFs enc P w base spare held (f :: fl) off (Kd.pair d d') (fun p => S p.1 ∧ S' p.2) := by
  intro n cs xs hl hx hf hz
  match xs, hx with
  | x :: xs, hx =>
    have hl' : cs.length = d.sz + d'.sz := hl
    have h1 := hf 0 f rfl
    rw [ho, Nat.sub_self, List.drop_zero, hc] at h1
    simp only [List.map_cons, DataW.weightsEach, List.all_append, Bool.and_eq_true] at hz
    obtain ⟨y, hy, hs⟩ := h n _ x (by simpa using h1) hz.1
    obtain ⟨z, hz1, hz2⟩ := h' n (cs.drop d.sz) xs (by rw [List.length_drop]; omega) (by simpa using hx) (fun i g hg => by
      have h2 := hf (i + 1) g (by simpa using hg)
      have h3 := hr g (List.mem_of_getElem? hg)
      rw [List.drop_drop, show d.sz + (g.offset - (off + d.sz)) = g.offset - off by omega]
      simpa using h2) hz.2
    exact ⟨(y, z), ⟨cs.take d.sz, cs.drop d.sz, (List.take_append_drop _ _).symm, hy, hz1⟩, hs, hz2⟩

theorem opens_struct {α β : Type} {t : TypeId} {fs : Array Field} {d : Kd α} {S : α → Prop} {f : β → α} (g : α → β) (ht : P.underlying t = some (.struct fs)) (hc : P.cellsOf t = d.sz) (hg : ∀ p, f (g p) = p)
    (h : OpensFs enc P w base spare held fs.toList 0 d S) : Opens enc P w base spare held t (Kd.iso d f) (fun b => S (f b)) := by
  intro fuel cs x hx hz
  obtain ⟨xs, n, rfl, rfl, hl, hxl, hf⟩ := DataW.trod_struct ht hx
  simp only [DataW.weights, ht] at hz
  obtain ⟨y, hy, hs⟩ := h n cs xs (by rw [hl, hc]) (by simpa using hxl) (fun i f hi => by
    rw [Nat.sub_zero]
    exact hf i f (by simpa using hi)) hz
  exact ⟨g y, by show d.K w (f (g y)) cs; rw [hg]; exact hy, by show S (f (g y)); rw [hg]; exact hs⟩

/-- An argument's own weights. -/
theorem weights_at {ts : List TypeId} {ds : List (DataW H)} (h : (DataW.weightsEach P ts ds).all (· ≤ reachBytes) = true) {j : Nat} {t : TypeId} {d : DataW H} (ht : ts[j]? = some t) (hd : ds[j]? = some d) : (d.weights P t).all (· ≤ reachBytes) = true := by
  rw [List.all_eq_true] at h ⊢
  exact fun n hn => h n (DataW.weights_mem_each ht hd n hn)
end Go.Proofs.YtbkgcdjbkoeejaaDoorW.Opening
