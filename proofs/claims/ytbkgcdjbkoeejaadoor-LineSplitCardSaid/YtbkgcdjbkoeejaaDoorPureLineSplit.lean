/- LineSplit, plain: a line may be broken by $ at any blank, or nowhere. -/
import Derived.Test.YtbkgcdjbkoeejaaDoorPureLineRow
import Derived.Test.YtbkgcdjbkoeejaaDoorPCruciblelaw6LineSplit
namespace Go.Proofs.YtbkgcdjbkoeejaaDoor.Pure
open Go.RowKit Go.Lib Go.Proofs.YtbkgcdjbkoeejaaDoor.Print Go.Proofs.YtbkgcdjbkoeejaaDoorW.PrintWords Go.Proofs.YtbkgcdjbkoeejaaDoorW.PrintLast Go.Proofs.YtbkgcdjbkoeejaaDoorW.PrintMore

def mk (l : List UInt8) : ByteArray := ⟨l.toArray⟩
theorem mk_app (a b : List UInt8) : mk a ++ mk b = mk (a ++ b) := by
  apply ByteArray.ext
  apply Array.toList_inj.1
  rw [ByteArray.data_append, Array.toList_append]
  rfl
theorem mk_size (l : List UInt8) : (mk l).size = l.length := by simp [mk, ByteArray.size]
theorem mk_data (l : List UInt8) : (mk l).data.toList = l := rfl
theorem mk_cut (l : List UInt8) (c : UInt8) : (mk (l ++ [c])).extract 0 ((mk (l ++ [c])).size - 1) = mk l := by
  apply ByteArray.ext
  apply Array.toList_inj.1
  rw [Lib.extract_data, mk_size, mk_data, mk_data]
  simp

def letterB (c : UInt8) : Bool := decide (97 ≤ c.toNat) && decide (c.toNat ≤ 112)
/-- A text that begins and ends with a letter, of bytes that may be. -/
def Good (l : List UInt8) : Prop := (∃ c, l.head? = some c ∧ letterB c = true) ∧ (∃ c, l.getLast? = some c ∧ letterB c = true) ∧ plainL l = true ∧ (10 : UInt8) ∉ l
theorem letter_ne {c : UInt8} (h : letterB c = true) : c ≠ 32 ∧ c ≠ 35 ∧ c ≠ 36 ∧ c ≠ 10 := by
  unfold letterB at h
  simp only [Bool.and_eq_true, decide_eq_true_eq] at h
  refine ⟨?_, ?_, ?_, ?_⟩ <;> (intro e; subst e; exact absurd h.1 (by decide))
theorem good_left {g : List UInt8} (h : Good g) : Lib.trimLeftB g 32 = g := by
  obtain ⟨⟨c, hc, hl⟩, _⟩ := h
  cases g with
  | nil => simp at hc
  | cons x g =>
    simp at hc
    subst hc
    unfold Lib.trimLeftB
    rw [List.dropWhile_cons, if_neg (by simpa using (letter_ne hl).1)]
theorem good_left2 {g : List UInt8} (h : Good g) (b : List UInt8) : Lib.trimLeftB (g ++ b) 32 = g ++ b := by
  obtain ⟨⟨c, hc, hl⟩, _⟩ := h
  cases g with
  | nil => simp at hc
  | cons x g =>
    simp at hc
    subst hc
    unfold Lib.trimLeftB
    rw [List.cons_append, List.dropWhile_cons, if_neg (by simpa using (letter_ne hl).1)]
theorem good_right {g : List UInt8} (h : Good g) : Lib.trimRightB g 32 = g := by
  obtain ⟨_, ⟨c, hc, hl⟩, _⟩ := h
  rcases List.eq_nil_or_concat g with e | ⟨y, d, e⟩
  · rw [e] at hc; simp at hc
  · rw [e, List.concat_eq_append] at hc ⊢
    simp at hc
    subst hc
    unfold Lib.trimRightB
    rw [List.reverse_append, List.reverse_singleton, List.singleton_append, List.dropWhile_cons, if_neg (by simpa using (letter_ne hl).1)]
    simp
theorem good_tail {g : List UInt8} (h : Good g) : tailN g = 0 := by
  obtain ⟨_, ⟨c, hc, hl⟩, _⟩ := h
  rcases List.eq_nil_or_concat g with e | ⟨y, d, e⟩
  · rw [e]; rfl
  · rw [e, List.concat_eq_append] at hc ⊢
    simp at hc
    subst hc
    unfold tailN
    rw [List.reverse_append, List.reverse_singleton, List.singleton_append, List.takeWhile_cons, if_neg (by simpa using (letter_ne hl).2.2.1)]
    rfl
theorem on_break (g : List UInt8) : onB (mk ((g ++ [32]) ++ [36])) = true := by
  unfold onB tailN
  rw [mk_data]
  simp
theorem good_next {g : List UInt8} (h : Good g) {x : UInt8} (hx : letterB x = true) : Good (g ++ [32] ++ [x]) := by
  obtain ⟨⟨c, hc, hl⟩, _, hp, hn⟩ := h
  have hx2 := hx
  unfold letterB at hx2
  simp only [Bool.and_eq_true, decide_eq_true_eq] at hx2
  refine ⟨⟨c, ?_, hl⟩, ⟨x, by simp, hx⟩, ?_, ?_⟩
  · cases g with
    | nil => simp at hc
    | cons y g => simpa using hc
  · unfold plainL at *
    rw [List.all_append, List.all_append, hp]
    simp
    omega
  · simp only [List.mem_append, List.mem_singleton, not_or]
    exact ⟨⟨hn, by decide⟩, fun e => (letter_ne hx).2.2.2 e.symm⟩
theorem good_one {x : UInt8} (hx : letterB x = true) : Good [x] := by
  have hx2 := hx
  unfold letterB at hx2
  simp only [Bool.and_eq_true, decide_eq_true_eq] at hx2
  refine ⟨⟨x, rfl, hx⟩, ⟨x, rfl, hx⟩, ?_, ?_⟩
  · unfold plainL
    simp
    omega
  · simp only [List.mem_singleton]
    exact fun e => (letter_ne hx).2.2.2 e.symm

def joinRows : List ByteArray → Option (ByteArray × List ByteArray)
  | [] => none
  | r :: rs => joinGo r r rs
def K (rs : List ByteArray) (pre : List UInt8) : Prop := ∀ (q : ByteArray) (more : List ByteArray), (rs = [] → frontB q = q) → joinRows (rs ++ q :: more) = joinGo (mk pre ++ frontB q) (frontB q) more
theorem K_nil : K [] [] := by
  intro q more h
  rw [h rfl, show mk [] ++ q = q from ByteArray.empty_append]
  rfl
theorem K_step {rs : List ByteArray} {pre : List UInt8} (h : K rs pre) (c : ByteArray) (hc : rs = [] → frontB c = c) (d : List UInt8) (hd : frontB c = mk (d ++ [36])) (ho : onB (mk (d ++ [36])) = true) : K (rs ++ [c]) (pre ++ d) := by
  intro q more _
  rw [List.append_assoc, List.singleton_append, h c (q :: more) hc, hd, joinGo_on q more ho, mk_app, ← List.append_assoc, mk_cut]
theorem go_rows (k : Nat) (rs : List ByteArray) (hr : rs ≠ []) (out : List S39) : linesGo (k + 1) rs out = after k out (joinRows rs) := by
  cases rs with
  | nil => exact absurd rfl hr
  | cons r rs => exact linesGo_cons k r rs out

def Two (i : Nat) (s t : ByteArray) : Prop := ∃ (rs : List ByteArray) (pre g cur : List UInt8), t = U rs ++ mk cur ∧ s = mk (pre ++ g) ∧ ((cur = g ∧ rs = [] ∧ pre = []) ∨ (cur = 32 :: 32 :: 32 :: 32 :: g ∧ rs ≠ [])) ∧ K rs pre ∧ Good g ∧ Good (pre ++ g) ∧ NoNl rs ∧ plainRows rs = true ∧ plainL cur = true ∧ (10 : UInt8) ∉ cur ∧ t.size ≤ 8 * i ∧ s.size ≤ 8 * i
theorem front_cur {g cur pre : List UInt8} {rs : List ByteArray} (hg : Good g) (h : (cur = g ∧ rs = [] ∧ pre = []) ∨ (cur = 32 :: 32 :: 32 :: 32 :: g ∧ rs ≠ [])) (b : List UInt8) : frontB (mk (cur ++ b)) = mk (g ++ b) := by
  unfold frontB
  rw [mk_data]
  have h2 := good_left2 hg b
  rcases h with ⟨e, _⟩ | ⟨e, _⟩
  · rw [e, h2]; rfl
  · rw [e]
    show (⟨(Lib.trimLeftB (32 :: 32 :: 32 :: 32 :: (g ++ b)) 32).toArray⟩ : ByteArray) = mk (g ++ b)
    have : Lib.trimLeftB (32 :: 32 :: 32 :: 32 :: (g ++ b)) 32 = Lib.trimLeftB (g ++ b) 32 := by
      unfold Lib.trimLeftB
      simp
    rw [this, h2]
    rfl
theorem two_lines {i : Nat} (hi : i ≤ 12) {s t : ByteArray} (h : Two i s t) : linesCut (t ++ ⟨#[10]⟩) = ([⟨false, s⟩], 0) := by
  obtain ⟨rs, pre, g, cur, ht, hs, hcur, hK, hg, hpg, hn, hp, hcp, hc10, hz, _⟩ := h
  have hu : t ++ ⟨#[10]⟩ = U (rs ++ [mk cur]) := by
    rw [ht, ← U_app]
    apply ByteArray.ext
    apply Array.toList_inj.1
    simp only [ByteArray.data_append, Array.toList_append]
    show (unrows rs ++ cur) ++ [10] = unrows rs ++ unrows [mk cur]
    rw [unrows_cons]
    simp [unrows, mk_data]
  have hN : NoNl (rs ++ [mk cur]) := fun r hr => by
    rcases List.mem_append.1 hr with h | h
    · exact hn r h
    · simp at h; subst h; exact hc10
  have hP : plainRows (rs ++ [mk cur]) = true := by
    unfold plainRows at *
    rw [List.all_append, hp]
    simp [mk_data, hcp]
  have hZ : (U (rs ++ [mk cur])).size ≤ 2048 := by
    rw [← hu, ByteArray.size_append, show (⟨#[10]⟩ : ByteArray).size = 1 from rfl]
    omega
  have hf := front_cur (b := []) hg hcur
  rw [List.append_nil, List.append_nil] at hf
  have hfc : rs = [] → frontB (mk cur) = mk cur := fun e => by
    rw [hf]
    rcases hcur with ⟨e2, _⟩ | ⟨_, e2⟩
    · rw [e2]
    · exact absurd e e2
  rw [hu, cut_rows _ hN, if_pos ⟨hZ, hP⟩, List.length_append, List.length_singleton, go_rows _ _ (by simp), hK (mk cur) [] hfc, hf, mk_app, ← hs, joinGo_off _ (by unfold onB; rw [mk_data, good_tail hg]; rfl)]
  show linesGo rs.length [] (addLine [] s) = _
  rw [linesGo_nil]
  have ht2 : trimBB s = s := by
    unfold trimBB Lib.trimB
    rw [hs, mk_data, good_right hpg, good_left hpg]
    rfl
  obtain ⟨⟨c, hc, hl⟩, _⟩ := hpg
  have hne : ¬ s.size = 0 := by
    rw [hs, mk_size]
    intro e
    rw [List.length_eq_zero_iff.1 e] at hc
    simp at hc
  have h35 : firstIs 35 s = false := by
    unfold firstIs
    rw [hs, mk_data, hc]
    simpa using (letter_ne hl).2.1
  have h32 : firstIs 32 s = false := by
    unfold firstIs
    rw [hs, mk_data, hc]
    simpa using (letter_ne hl).1
  unfold addLine
  rw [ht2, if_neg (by rw [h35]; simp [hne]), h32]
  rfl
theorem two_one {x : UInt8} (hx : letterB x = true) : Two 1 (mk [x]) (mk [x]) := by
  have hg := good_one hx
  refine ⟨[], [], [x], [x], ?_, rfl, Or.inl ⟨rfl, rfl, rfl⟩, K_nil, hg, hg, fun r hr => by simp at hr, rfl, hg.2.2.1, hg.2.2.2, by rw [mk_size]; simp, by rw [mk_size]; simp⟩
  exact (ByteArray.empty_append (b := mk [x])).symm
theorem two_self {i : Nat} {s t : ByteArray} (h : Two i s t) : Two i s s := by
  obtain ⟨rs, pre, g, cur, ht, hs, hcur, hK, hg, hpg, hn, hp, hcp, hc10, hz, hz2⟩ := h
  refine ⟨[], [], pre ++ g, pre ++ g, ?_, hs, Or.inl ⟨rfl, rfl, rfl⟩, K_nil, hpg, hpg, fun r hr => by simp at hr, rfl, hpg.2.2.1, hpg.2.2.2, hz2, hz2⟩
  rw [hs]
  exact (ByteArray.empty_append (b := mk (pre ++ g))).symm
theorem two_next {i : Nat} {s t : ByteArray} (h : Two i s t) {x : UInt8} (hx : letterB x = true) : Two (i + 1) ((s ++ ⟨#[32]⟩) ++ mk [x]) ((t ++ ⟨#[32]⟩) ++ mk [x]) := by
  obtain ⟨rs, pre, g, cur, ht, hs, hcur, hK, hg, hpg, hn, hp, hcp, hc10, hz, hz2⟩ := h
  have hgn := good_next hg hx
  have hpn := good_next hpg hx
  have hx2 := hx
  unfold letterB at hx2
  simp only [Bool.and_eq_true, decide_eq_true_eq] at hx2
  refine ⟨rs, pre, g ++ [32] ++ [x], cur ++ [32] ++ [x], ?_, ?_, ?_, hK, hgn, by rw [← List.append_assoc, ← List.append_assoc]; exact hpn, hn, hp, ?_, ?_, ?_, ?_⟩
  · rw [ht, show (⟨#[32]⟩ : ByteArray) = mk [32] from rfl, ByteArray.append_assoc, ByteArray.append_assoc, mk_app, mk_app]
    simp
  · rw [hs, show (⟨#[32]⟩ : ByteArray) = mk [32] from rfl, ByteArray.append_assoc, mk_app, mk_app]
    simp
  · rcases hcur with ⟨e, e2, e3⟩ | ⟨e, e2⟩
    · exact Or.inl ⟨by rw [e], e2, e3⟩
    · exact Or.inr ⟨by rw [e]; rfl, e2⟩
  · unfold plainL at *
    rw [List.all_append, List.all_append, hcp]
    simp
    omega
  · simp only [List.mem_append, List.mem_singleton, not_or]
    exact ⟨⟨hc10, by decide⟩, fun e => (letter_ne hx).2.2.2 e.symm⟩
  · rw [ByteArray.size_append, ByteArray.size_append, mk_size, show (⟨#[32]⟩ : ByteArray).size = 1 from rfl, List.length_singleton]; omega
  · rw [ByteArray.size_append, ByteArray.size_append, mk_size, show (⟨#[32]⟩ : ByteArray).size = 1 from rfl, List.length_singleton]; omega
theorem two_break {i : Nat} {s t : ByteArray} (h : Two i s t) {x : UInt8} (hx : letterB x = true) : Two (i + 1) ((s ++ ⟨#[32]⟩) ++ mk [x]) (((t ++ ⟨#[32]⟩) ++ ⟨#[36, 10, 32, 32, 32, 32]⟩) ++ mk [x]) := by
  obtain ⟨rs, pre, g, cur, ht, hs, hcur, hK, hg, hpg, hn, hp, hcp, hc10, hz, hz2⟩ := h
  have hpn := good_next hpg hx
  have hx2 := hx
  unfold letterB at hx2
  simp only [Bool.and_eq_true, decide_eq_true_eq] at hx2
  have hf := front_cur (b := [32, 36]) hg hcur
  have hfc : rs = [] → frontB (mk (cur ++ [32, 36])) = mk (cur ++ [32, 36]) := fun e => by
    rw [hf]
    rcases hcur with ⟨e2, _⟩ | ⟨_, e2⟩
    · rw [e2]
    · exact absurd e e2
  have hKn := K_step hK (mk (cur ++ [32, 36])) hfc (g ++ [32]) (by rw [hf]; simp) (on_break g)
  refine ⟨rs ++ [mk (cur ++ [32, 36])], pre ++ (g ++ [32]), [x], 32 :: 32 :: 32 :: 32 :: [x], ?_, ?_, Or.inr ⟨rfl, by simp⟩, hKn, good_one hx, by simpa using hpn, ?_, ?_, ?_, ?_, ?_, ?_⟩
  · rw [ht, ← U_app]
    apply ByteArray.ext
    apply Array.toList_inj.1
    simp only [ByteArray.data_append, Array.toList_append]
    show (((unrows rs ++ cur) ++ [32]) ++ [36, 10, 32, 32, 32, 32]) ++ [x] = (unrows rs ++ unrows [mk (cur ++ [32, 36])]) ++ (32 :: 32 :: 32 :: 32 :: [x])
    rw [unrows_cons]
    simp [unrows, mk_data]
  · rw [hs, show (⟨#[32]⟩ : ByteArray) = mk [32] from rfl, ByteArray.append_assoc, mk_app, mk_app]
    simp
  · intro r hr
    rcases List.mem_append.1 hr with h | h
    · exact hn r h
    · simp at h
      subst h
      rw [mk_data]
      simp [hc10]
  · have hcp2 : plainL (cur ++ [32, 36]) = true := by
      unfold plainL at *
      rw [List.all_append, hcp]
      decide
    unfold plainRows at *
    rw [List.all_append, hp, List.all_cons, List.all_nil, mk_data, hcp2]
    rfl
  · unfold plainL
    simp
    omega
  · simp only [List.mem_cons, List.not_mem_nil, or_false, not_or]
    exact ⟨by decide, by decide, by decide, by decide, fun e => (letter_ne hx).2.2.2 e.symm⟩
  · rw [ByteArray.size_append, ByteArray.size_append, ByteArray.size_append, mk_size, show (⟨#[32]⟩ : ByteArray).size = 1 from rfl, show (⟨#[36, 10, 32, 32, 32, 32]⟩ : ByteArray).size = 6 from rfl, List.length_singleton]; omega
  · rw [ByteArray.size_append, ByteArray.size_append, mk_size, show (⟨#[32]⟩ : ByteArray).size = 1 from rfl, List.length_singleton]; omega

theorem letter_of : ∀ j : Fin 16, letterB (UInt8.ofNat (97 + j.val)) = true := by decide +kernel
theorem letter2 (n : Int) : ∃ x : UInt8, letterB x = true ∧ strOfNums [(wrap64 (97 + (Go.bits .and .i64 n 15))) % 256] = mk [x] := by
  obtain ⟨j, hj, h⟩ := letter n
  exact ⟨_, letter_of ⟨j, hj⟩, h⟩
def Inv2 (i : Nat) (s t : ByteArray) : Prop := (i = 0 ∧ s = ⟨#[]⟩ ∧ t = ⟨#[]⟩) ∨ (1 ≤ i ∧ Two i s t)
theorem inv2_size {i : Nat} {s t : ByteArray} (h : Inv2 i s t) : s.size ≤ 8 * i ∧ t.size ≤ 8 * i := by
  rcases h with ⟨rfl, rfl, rfl⟩ | ⟨_, rs, pre, g, cur, _, _, _, _, _, _, _, _, _, _, a, b⟩
  · exact ⟨by decide, by decide⟩
  · exact ⟨b, a⟩
theorem split_end (i : Nat) (hi : i ≤ 12) (k : Nat) (hk : 100 ≤ k) (x0 : List Int) (x1 : Int) (s t : ByteArray) (n : Int) (h : Inv2 i s t) (h0 : x0.length = 0 ↔ i = 0) : cruciblelaw6_LineSplit.j1 (k + 1) x0 x1 s t n false = some true := by
  obtain ⟨hz, hz2⟩ := inv2_size h
  have z1 : (⟨#[10]⟩ : ByteArray).size = 1 := rfl
  rw [cruciblelaw6_LineSplit.j1, if_neg (by decide), if_pos (by omega), cut_f (by rw [ByteArray.size_append, z1]; omega)]
  simp only [Option.bind_some]
  rw [if_pos (by omega), cut_f (by rw [ByteArray.size_append, z1]; omega)]
  simp only [Option.bind_some]
  rcases h with ⟨rfl, rfl, rfl⟩ | ⟨h1, h2⟩
  · have hl : (x0.length : Int) = 0 := by have := h0.2 rfl; omega
    have e1 : linesCut ((⟨#[]⟩ : ByteArray) ++ ⟨#[10]⟩) = ([], 0) := by kernel_rfl
    rw [if_pos hl, e1]
    rfl
  · have hl : ¬ (x0.length : Int) = 0 := by
      intro e
      have := h0.1 (by omega)
      omega
    rw [if_neg hl, two_lines hi h2, two_lines hi (two_self h2)]
    simp only [num_eq, Option.bind_some]
    rw [if_pos trivial, if_pos trivial, same_self _ (by simp) k (by simp; omega)]
    simp only [Option.bind_some]
    rw [if_pos trivial]
theorem split_go (x0 : List Int) (x1 : Int) (hn : x0.length ≤ 140737488355328) (d : Nat) : ∀ (k i : Nat) (s t : ByteArray), i + d = x0.length → 2 * d + 200 ≤ k → i ≤ 12 → Inv2 i s t → cruciblelaw6_LineSplit.l0 k x0 x1 s t (i : Int) = some true := by
  induction d with
  | zero =>
    intro k i s t hi hk h12 h
    obtain ⟨k, rfl⟩ : ∃ m, k = m + 1 + 1 := ⟨k - 2, by omega⟩
    rw [cruciblelaw6_LineSplit.l0, if_neg (by omega)]
    exact split_end i h12 k (by omega) x0 x1 s t _ h (by omega)
  | succ d ih =>
    intro k i s t hi hk h12 h
    obtain ⟨k, rfl⟩ : ∃ m, k = m + 1 + 1 := ⟨k - 2, by omega⟩
    rw [cruciblelaw6_LineSplit.l0, if_pos (by omega)]
    by_cases h3 : (i : Int) < 12
    · obtain ⟨x, hx, hl⟩ := letter2 (rd x0 (i : Int))
      obtain ⟨hz, hz2⟩ := inv2_size h
      have p0 : 0 ≤ (i : Int) := by omega
      have p1 : (i : Int) < (x0.length : Int) := by omega
      have next : ∀ s' t', Inv2 (i + 1) s' t' → cruciblelaw6_LineSplit.l0 k x0 x1 s' t' ((i + 1 : Nat) : Int) = some true := fun s' t' h' => ih k (i + 1) s' t' (by omega) (by omega) (by omega) h'
      have hwr := wrap_nat i x0.length (by omega) hn
      have hm : (mk [x]).size = 1 := rfl
      have z8 : (⟨#[32]⟩ : ByteArray).size = 1 := rfl
      have z6 : (⟨#[36, 10, 32, 32, 32, 32]⟩ : ByteArray).size = 6 := rfl
      have s1 : ∀ a b : ByteArray, (a ++ b).size = a.size + b.size := fun a b => ByteArray.size_append
      rw [decide_eq_true h3, cruciblelaw6_LineSplit.j1, if_pos rfl, if_pos p0, if_pos p1]
      simp only [Option.bind_some]
      rw [hl, hwr]
      clear hwr
      by_cases hi0 : (i : Int) > 0
      · rcases h with ⟨e, _⟩ | ⟨h1, h2⟩
        · omega
        · rw [if_pos hi0, if_pos (by omega), if_pos (by omega)]
          by_cases hb : (Go.bits .and .i64 (shr .i64 x1 (i : Int)) 1) = 1
          · rw [if_pos hb, if_pos (by simp only [s1]; omega), if_pos (by simp only [s1]; omega), if_pos (by simp only [s1]; omega)]
            exact next _ _ (Or.inr ⟨by omega, two_break h2 hx⟩)
          · rw [if_neg hb, if_pos (by simp only [s1]; omega), if_pos (by simp only [s1]; omega)]
            exact next _ _ (Or.inr ⟨by omega, two_next h2 hx⟩)
      · obtain rfl : i = 0 := by omega
        rcases h with ⟨_, rfl, rfl⟩ | ⟨h1, _⟩
        · have he : (⟨#[]⟩ : ByteArray) ++ mk [x] = mk [x] := ByteArray.empty_append
          rw [if_neg hi0, if_pos (by omega), if_pos (by omega), he]
          exact next _ _ (Or.inr ⟨by omega, two_one hx⟩)
        · omega
    · rw [decide_eq_false h3]
      exact split_end i h12 k (by omega) x0 x1 s t _ h (by omega)
theorem LineSplit : cruciblelaw6_LineSplit.Pure := by
  intro l0 a1 _ hl _ _
  refine ⟨2 * l0.length + 300, ?_⟩
  unfold cruciblelaw6_LineSplit.f
  rw [awake6 _ (by omega)]
  simp only [Option.bind_some, if_true]
  exact split_go l0 a1 (by omega) l0.length _ 0 _ _ (by omega) (by omega) (by omega) (Or.inl ⟨rfl, rfl, rfl⟩)
end Go.Proofs.YtbkgcdjbkoeejaaDoor.Pure
namespace Go.Proofs.YtbkgcdjbkoeejaaDoor.Print
open Go.RowKit Go.Lib Go.Proofs.YtbkgcdjbkoeejaaDoorW.PrintWords Go.Proofs.YtbkgcdjbkoeejaaDoorW.PrintLast
theorem LineSplit_walk (w : World) (A : Option Addr) (c : Nat) (l : List Int) (hr : Kd.C (Kd.int .i64) w A l.length l) (hc : l.length ≤ c) (hs : Small35 l) (a1 : Int) (h1 : (Lit.int .i64 a1).wf = true) :
    Calls Tryd.prog 7 #[.slice A l.length c, .int .i64 a1] w fun e w' => e = .returned (.bool true) ∧ Below w.heap.size w w' := by
  obtain ⟨k, hk⟩ := Pure.LineSplit l a1 (by unfold maxLen; have := hs.1; omega) hs.1 hs.2 h1
  exact cruciblelaw6_LineSplit.calls k A c l a1 true w hr hc hk
end Go.Proofs.YtbkgcdjbkoeejaaDoor.Print
