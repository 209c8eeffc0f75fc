import Derived.Test.YtefheailchihaaaGreatDoorProg
import Derived.Below
import Derived.Deep.Draws
import Derived.Deep.AppendLies
import Derived.Maps.AppendAt
import Derived.OwnWalk
import Derived.Laws.BytesArg
import Derived.Laws.MakeOwn
import Derived.Laws.OwnMore
import Derived.Deep.OwnRows
import Derived.Tactics
import Derived.Lib.ConvBytes
import Derived.Laws.Slices
import Derived.WalkKit
import Derived.KernelRfl
import Derived.RowKit3
import Derived.Deep.LoopGhost
import Derived.Deep.QuietTactic
import Derived.BigQuiet
import Derived.WideLaws
import Derived.Deep.DeepCutAuto
import Derived.Deep.CutBlock
import Derived.Deep.RegionHeld3
import Derived.Laws.Rows
import Derived.Lib.AppendStr
import Derived.ArgAppend
import Derived.Laws.IdiomCopy
import Derived.OrdersHeld
import Derived.Laws.BitsLemmas
import Derived.RowKit
import Derived.Test.YtefheailchihaaaGreatDoorSg1
set_option maxHeartbeats 8000000
set_option maxRecDepth 100000
set_option linter.unusedVariables false
set_option linter.unusedSimpArgs false
section
namespace Go.Proofs.YtefheailchihaaaGreatDoor.Print
open Go.RowKit Go.Proofs.YtefheailchihaaaGreatDoorW.PrintWords Go.Proofs.YtefheailchihaaaGreatDoorW.PrintLast Go.Proofs.YtefheailchihaaaGreatDoorW.PrintMore
attribute [local go_sem] max2_int min2_int max_two min_two max_three min_three max_four min_four
def errW : Option Int → Value
 | none => .nilIface
 | some c => .iface 0 (.int .i64 c)
theorem Cp : errW none = .nilIface := rfl
theorem Co (c : Int) : errW (some c) = .iface 0 (.int .i64 c) := rfl
theorem Hh : (Tryz.prog.info? 9).map (fun i => (i.zero, i.size, i.bytes)) = some (some (.string ⟨#[]⟩), 1, 16) := by kernel_rfl
theorem info59 : (Tryz.prog.info? 59).map (fun i => (i.zero, i.size, i.bytes)) = some (some (.agg #[(.bool false), (.string ⟨#[]⟩)]), 2, 24) := by kernel_rfl
theorem info174 : (Tryz.prog.info? 174).map (fun i => (i.zero, i.size, i.bytes)) = some (some (.agg #[(.string ⟨#[]⟩), (.string ⟨#[]⟩)]), 2, 32) := by kernel_rfl
structure S42 where
 f0 : (List ByteArray)
 f1 : (List ByteArray)
 f2 : (List ByteArray)
 f3 : (List ByteArray)
 f4 : ByteArray
 f5 : Bool
 f6 : ByteArray
def z42 : S42 := ⟨([] : List ByteArray), ([] : List ByteArray), ([] : List ByteArray), ([] : List ByteArray), (⟨#[]⟩ : ByteArray), false, (⟨#[]⟩ : ByteArray)⟩
def k42 : Kd S42 := Kd.iso (Kd.pair (Kd.slice 9 Kd.string) (Kd.pair (Kd.slice 9 Kd.string) (Kd.pair (Kd.slice 9 Kd.string) (Kd.pair (Kd.slice 9 Kd.string) (Kd.pair Kd.string (Kd.pair Kd.bool Kd.string)))))) (fun x : S42 => (x.f0, x.f1, x.f2, x.f3, x.f4, x.f5, x.f6))
theorem k42_open {w : World} {x : S42} {cs : List Value} (h : k42.K w x cs) : ∃ A0 c0 A1 c1 A2 c2 A3 c3, cs = [.slice A0 x.f0.length c0, .slice A1 x.f1.length c1, .slice A2 x.f2.length c2, .slice A3 x.f3.length c3, .string x.f4, .bool x.f5, .string x.f6] ∧ x.f0.length ≤ c0 ∧ Kd.string.C w A0 x.f0.length x.f0 ∧ x.f1.length ≤ c1 ∧ Kd.string.C w A1 x.f1.length x.f1 ∧ x.f2.length ≤ c2 ∧ Kd.string.C w A2 x.f2.length x.f2 ∧ x.f3.length ≤ c3 ∧ Kd.string.C w A3 x.f3.length x.f3 := by
 obtain ⟨_, _, rfl, ⟨A0, c0, rfl, l0, g0⟩, ⟨_, _, rfl, ⟨A1, c1, rfl, l1, g1⟩, ⟨_, _, rfl, ⟨A2, c2, rfl, l2, g2⟩, ⟨_, _, rfl, ⟨A3, c3, rfl, l3, g3⟩, ⟨_, _, rfl, rfl, ⟨_, _, rfl, rfl, rfl⟩⟩⟩⟩⟩⟩ := h
 exact ⟨A0, c0, A1, c1, A2, c2, A3, c3, rfl, l0, g0, l1, g1, l2, g2, l3, g3⟩
theorem k42_openM {w : World} {base : Nat} {ok : Nat → Prop} {x : S42} {cs : List Value} (h : k42.M w base ok x cs) : ∃ v0 v1 v2 v3, cs = [v0, v1, v2, v3, .string x.f4, .bool x.f5, .string x.f6] ∧ Kd.string.R 9 w base ok v0 x.f0 ∧ Kd.string.R 9 w base ok v1 x.f1 ∧ Kd.string.R 9 w base ok v2 x.f2 ∧ Kd.string.R 9 w base ok v3 x.f3 := by
 obtain ⟨_, _, rfl, ⟨v0, rfl, g0⟩, ⟨_, _, rfl, ⟨v1, rfl, g1⟩, ⟨_, _, rfl, ⟨v2, rfl, g2⟩, ⟨_, _, rfl, ⟨v3, rfl, g3⟩, ⟨_, _, rfl, rfl, ⟨_, _, rfl, rfl, rfl⟩⟩⟩⟩⟩⟩ := h
 exact ⟨v0, v1, v2, v3, rfl, g0, g1, g2, g3⟩
theorem k42_mk (w : World) (x : S42) {A0 : Option Addr} {c0 : Nat} (l0 : x.f0.length ≤ c0) (g0 : Kd.string.C w A0 x.f0.length x.f0) {A1 : Option Addr} {c1 : Nat} (l1 : x.f1.length ≤ c1) (g1 : Kd.string.C w A1 x.f1.length x.f1) {A2 : Option Addr} {c2 : Nat} (l2 : x.f2.length ≤ c2) (g2 : Kd.string.C w A2 x.f2.length x.f2) {A3 : Option Addr} {c3 : Nat} (l3 : x.f3.length ≤ c3) (g3 : Kd.string.C w A3 x.f3.length x.f3) : k42.K w x [.slice A0 x.f0.length c0, .slice A1 x.f1.length c1, .slice A2 x.f2.length c2, .slice A3 x.f3.length c3, .string x.f4, .bool x.f5, .string x.f6] := ⟨[.slice A0 x.f0.length c0], [.slice A1 x.f1.length c1, .slice A2 x.f2.length c2, .slice A3 x.f3.length c3, .string x.f4, .bool x.f5, .string x.f6], rfl, ⟨A0, c0, rfl, l0, g0⟩, ⟨[.slice A1 x.f1.length c1], [.slice A2 x.f2.length c2, .slice A3 x.f3.length c3, .string x.f4, .bool x.f5, .string x.f6], rfl, ⟨A1, c1, rfl, l1, g1⟩, ⟨[.slice A2 x.f2.length c2], [.slice A3 x.f3.length c3, .string x.f4, .bool x.f5, .string x.f6], rfl, ⟨A2, c2, rfl, l2, g2⟩, ⟨[.slice A3 x.f3.length c3], [.string x.f4, .bool x.f5, .string x.f6], rfl, ⟨A3, c3, rfl, l3, g3⟩, ⟨[.string x.f4], [.bool x.f5, .string x.f6], rfl, rfl, ⟨[.bool x.f5], [.string x.f6], rfl, rfl, rfl⟩⟩⟩⟩⟩⟩
theorem k42_mkM (w : World) (base : Nat) (ok : Nat → Prop) (x : S42) {v0 : Value} (g0 : Kd.string.R 9 w base ok v0 x.f0) {v1 : Value} (g1 : Kd.string.R 9 w base ok v1 x.f1) {v2 : Value} (g2 : Kd.string.R 9 w base ok v2 x.f2) {v3 : Value} (g3 : Kd.string.R 9 w base ok v3 x.f3) : k42.M w base ok x [v0, v1, v2, v3, .string x.f4, .bool x.f5, .string x.f6] := ⟨[v0], [v1, v2, v3, .string x.f4, .bool x.f5, .string x.f6], rfl, ⟨v0, rfl, g0⟩, ⟨[v1], [v2, v3, .string x.f4, .bool x.f5, .string x.f6], rfl, ⟨v1, rfl, g1⟩, ⟨[v2], [v3, .string x.f4, .bool x.f5, .string x.f6], rfl, ⟨v2, rfl, g2⟩, ⟨[v3], [.string x.f4, .bool x.f5, .string x.f6], rfl, ⟨v3, rfl, g3⟩, ⟨[.string x.f4], [.bool x.f5, .string x.f6], rfl, rfl, ⟨[.bool x.f5], [.string x.f6], rfl, rfl, rfl⟩⟩⟩⟩⟩⟩
def Fb (xs : List S42) (i : Int) : S42 := xs.getD i.toNat z42
theorem at_T42 {w : World} {A : Option Addr} {n : Nat} {xs : List S42} (h : Kd.C k42 w A n xs) (i : Int) (h0 : 0 ≤ i) (h1 : i < n) : ∃ ad A0 c0 A1 c1 A2 c2 A3 c3, A = some ad ∧ w.cell? (ad.add (i.toNat * 7)) = some (.slice A0 (Fb xs i).f0.length c0) ∧ w.cell? ⟨(ad.add (i.toNat * 7)).block, (ad.add (i.toNat * 7)).off + 1, none⟩ = some (.slice A1 (Fb xs i).f1.length c1) ∧ w.cell? ⟨(ad.add (i.toNat * 7)).block, (ad.add (i.toNat * 7)).off + 2, none⟩ = some (.slice A2 (Fb xs i).f2.length c2) ∧ w.cell? ⟨(ad.add (i.toNat * 7)).block, (ad.add (i.toNat * 7)).off + 3, none⟩ = some (.slice A3 (Fb xs i).f3.length c3) ∧ w.cell? ⟨(ad.add (i.toNat * 7)).block, (ad.add (i.toNat * 7)).off + 4, none⟩ = some (.string (Fb xs i).f4) ∧ w.cell? ⟨(ad.add (i.toNat * 7)).block, (ad.add (i.toNat * 7)).off + 5, none⟩ = some (.bool (Fb xs i).f5) ∧ w.cell? ⟨(ad.add (i.toNat * 7)).block, (ad.add (i.toNat * 7)).off + 6, none⟩ = some (.string (Fb xs i).f6) ∧ (Fb xs i).f0.length ≤ c0 ∧ Kd.string.C w A0 (Fb xs i).f0.length (Fb xs i).f0 ∧ (Fb xs i).f1.length ≤ c1 ∧ Kd.string.C w A1 (Fb xs i).f1.length (Fb xs i).f1 ∧ (Fb xs i).f2.length ≤ c2 ∧ Kd.string.C w A2 (Fb xs i).f2.length (Fb xs i).f2 ∧ (Fb xs i).f3.length ≤ c3 ∧ Kd.string.C w A3 (Fb xs i).f3.length (Fb xs i).f3 := by
 obtain ⟨ad, c, e, _, hK, hc0⟩ := Kd.C_get h z42 i h0 h1
 have hc : ∀ j u, c[j]? = some u → w.cell? (ad.add (i.toNat * 7 + j)) = some u := hc0
 obtain ⟨A0, c0, A1, c1, A2, c2, A3, c3, rfl, l0, g0, l1, g1, l2, g2, l3, g3⟩ := k42_open hK
 exact ⟨ad, A0, c0, A1, c1, A2, c2, A3, c3, e, hc 0 _ rfl, by rw [← D9 _ _ 1 (by omega)]; exact hc 1 _ rfl, by rw [← D9 _ _ 2 (by omega)]; exact hc 2 _ rfl, by rw [← D9 _ _ 3 (by omega)]; exact hc 3 _ rfl, by rw [← D9 _ _ 4 (by omega)]; exact hc 4 _ rfl, by rw [← D9 _ _ 5 (by omega)]; exact hc 5 _ rfl, by rw [← D9 _ _ 6 (by omega)]; exact hc 6 _ rfl, l0, g0, l1, g1, l2, g2, l3, g3⟩
structure S44 where
 f0 : ByteArray
 f1 : Int
def z44 : S44 := ⟨(⟨#[]⟩ : ByteArray), (0 : Int)⟩
def k44 : Kd S44 := Kd.iso (Kd.pair Kd.string (Kd.int .i64)) (fun x : S44 => (x.f0, x.f1))
theorem k44_open {w : World} {x : S44} {cs : List Value} (h : k44.K w x cs) : cs = [.string x.f0, .int .i64 x.f1] := by
 obtain ⟨_, _, rfl, rfl, rfl⟩ := h
 exact rfl
theorem k44_openM {w : World} {base : Nat} {ok : Nat → Prop} {x : S44} {cs : List Value} (h : k44.M w base ok x cs) : cs = [.string x.f0, .int .i64 x.f1] := by
 obtain ⟨_, _, rfl, rfl, rfl⟩ := h
 exact rfl
theorem k44_mk (w : World) (x : S44)  : k44.K w x [.string x.f0, .int .i64 x.f1] := ⟨[.string x.f0], [.int .i64 x.f1], rfl, rfl, rfl⟩
theorem k44_mkM (w : World) (base : Nat) (ok : Nat → Prop) (x : S44)  : k44.M w base ok x [.string x.f0, .int .i64 x.f1] := ⟨[.string x.f0], [.int .i64 x.f1], rfl, rfl, rfl⟩
def Ds (xs : List S44) (i : Int) : S44 := xs.getD i.toNat z44
theorem at_T44 {w : World} {A : Option Addr} {n : Nat} {xs : List S44} (h : Kd.C k44 w A n xs) (i : Int) (h0 : 0 ≤ i) (h1 : i < n) : ∃ ad , A = some ad ∧ w.cell? (ad.add (i.toNat * 2)) = some (.string (Ds xs i).f0) ∧ w.cell? ⟨(ad.add (i.toNat * 2)).block, (ad.add (i.toNat * 2)).off + 1, none⟩ = some (.int .i64 (Ds xs i).f1) := by
 obtain ⟨ad, c, e, _, hK, hc0⟩ := Kd.C_get h z44 i h0 h1
 have hc : ∀ j u, c[j]? = some u → w.cell? (ad.add (i.toNat * 2 + j)) = some u := hc0
 obtain rfl := k44_open hK
 exact ⟨ad, e, hc 0 _ rfl, by rw [← D9 _ _ 1 (by omega)]; exact hc 1 _ rfl⟩
structure S59 where
 f0 : Bool
 f1 : ByteArray
def z59 : S59 := ⟨false, (⟨#[]⟩ : ByteArray)⟩
def k59 : Kd S59 := Kd.iso (Kd.pair Kd.bool Kd.string) (fun x : S59 => (x.f0, x.f1))
theorem k59_open {w : World} {x : S59} {cs : List Value} (h : k59.K w x cs) : cs = [.bool x.f0, .string x.f1] := by
 obtain ⟨_, _, rfl, rfl, rfl⟩ := h
 exact rfl
theorem k59_mkM (w : World) (base : Nat) (ok : Nat → Prop) (x : S59)  : k59.M w base ok x [.bool x.f0, .string x.f1] := ⟨[.bool x.f0], [.string x.f1], rfl, rfl, rfl⟩
def rd_T59 (xs : List S59) (i : Int) : S59 := xs.getD i.toNat z59
theorem at_T59 {w : World} {A : Option Addr} {n : Nat} {xs : List S59} (h : Kd.C k59 w A n xs) (i : Int) (h0 : 0 ≤ i) (h1 : i < n) : ∃ ad , A = some ad ∧ w.cell? (ad.add (i.toNat * 2)) = some (.bool (rd_T59 xs i).f0) ∧ w.cell? ⟨(ad.add (i.toNat * 2)).block, (ad.add (i.toNat * 2)).off + 1, none⟩ = some (.string (rd_T59 xs i).f1) := by
 obtain ⟨ad, c, e, _, hK, hc0⟩ := Kd.C_get h z59 i h0 h1
 have hc : ∀ j u, c[j]? = some u → w.cell? (ad.add (i.toNat * 2 + j)) = some u := hc0
 obtain rfl := k59_open hK
 exact ⟨ad, e, hc 0 _ rfl, by rw [← D9 _ _ 1 (by omega)]; exact hc 1 _ rfl⟩
structure S162 where
 f0 : Bool
 f1 : ByteArray
def z162 : S162 := ⟨false, (⟨#[]⟩ : ByteArray)⟩
def k162 : Kd S162 := Kd.iso (Kd.pair Kd.bool Kd.string) (fun x : S162 => (x.f0, x.f1))
theorem k162_open {w : World} {x : S162} {cs : List Value} (h : k162.K w x cs) : cs = [.bool x.f0, .string x.f1] := by
 obtain ⟨_, _, rfl, rfl, rfl⟩ := h
 exact rfl
theorem k162_openM {w : World} {base : Nat} {ok : Nat → Prop} {x : S162} {cs : List Value} (h : k162.M w base ok x cs) : cs = [.bool x.f0, .string x.f1] := by
 obtain ⟨_, _, rfl, rfl, rfl⟩ := h
 exact rfl
theorem k162_mkM (w : World) (base : Nat) (ok : Nat → Prop) (x : S162)  : k162.M w base ok x [.bool x.f0, .string x.f1] := ⟨[.bool x.f0], [.string x.f1], rfl, rfl, rfl⟩
def Bn (xs : List S162) (i : Int) : S162 := xs.getD i.toNat z162
theorem at_T162 {w : World} {A : Option Addr} {n : Nat} {xs : List S162} (h : Kd.C k162 w A n xs) (i : Int) (h0 : 0 ≤ i) (h1 : i < n) : ∃ ad , A = some ad ∧ w.cell? (ad.add (i.toNat * 2)) = some (.bool (Bn xs i).f0) ∧ w.cell? ⟨(ad.add (i.toNat * 2)).block, (ad.add (i.toNat * 2)).off + 1, none⟩ = some (.string (Bn xs i).f1) := by
 obtain ⟨ad, c, e, _, hK, hc0⟩ := Kd.C_get h z162 i h0 h1
 have hc : ∀ j u, c[j]? = some u → w.cell? (ad.add (i.toNat * 2 + j)) = some u := hc0
 obtain rfl := k162_open hK
 exact ⟨ad, e, hc 0 _ rfl, by rw [← D9 _ _ 1 (by omega)]; exact hc 1 _ rfl⟩
structure S174 where
 f0 : ByteArray
 f1 : ByteArray
def z174 : S174 := ⟨(⟨#[]⟩ : ByteArray), (⟨#[]⟩ : ByteArray)⟩
def k174 : Kd S174 := Kd.iso (Kd.pair Kd.string Kd.string) (fun x : S174 => (x.f0, x.f1))
theorem k174_open {w : World} {x : S174} {cs : List Value} (h : k174.K w x cs) : cs = [.string x.f0, .string x.f1] := by
 obtain ⟨_, _, rfl, rfl, rfl⟩ := h
 exact rfl
theorem k174_openM {w : World} {base : Nat} {ok : Nat → Prop} {x : S174} {cs : List Value} (h : k174.M w base ok x cs) : cs = [.string x.f0, .string x.f1] := by
 obtain ⟨_, _, rfl, rfl, rfl⟩ := h
 exact rfl
theorem k174_mkM (w : World) (base : Nat) (ok : Nat → Prop) (x : S174)  : k174.M w base ok x [.string x.f0, .string x.f1] := ⟨[.string x.f0], [.string x.f1], rfl, rfl, rfl⟩
def Bg (xs : List S174) (i : Int) : S174 := xs.getD i.toNat z174
theorem Gb {w : World} {A : Option Addr} {n : Nat} {xs : List S174} (h : Kd.C k174 w A n xs) (i : Int) (h0 : 0 ≤ i) (h1 : i < n) : ∃ ad , A = some ad ∧ w.cell? (ad.add (i.toNat * 2)) = some (.string (Bg xs i).f0) ∧ w.cell? ⟨(ad.add (i.toNat * 2)).block, (ad.add (i.toNat * 2)).off + 1, none⟩ = some (.string (Bg xs i).f1) := by
 obtain ⟨ad, c, e, _, hK, hc0⟩ := Kd.C_get h z174 i h0 h1
 have hc : ∀ j u, c[j]? = some u → w.cell? (ad.add (i.toNat * 2 + j)) = some u := hc0
 obtain rfl := k174_open hK
 exact ⟨ad, e, hc 0 _ rfl, by rw [← D9 _ _ 1 (by omega)]; exact hc 1 _ rfl⟩
end Go.Proofs.YtefheailchihaaaGreatDoor.Print
end
section
namespace Go.Proofs.YtefheailchihaaaGreatDoor.Print
open Go.RowKit Go.Proofs.YtefheailchihaaaGreatDoorW.PrintWords Go.Proofs.YtefheailchihaaaGreatDoorW.PrintLast Go.Proofs.YtefheailchihaaaGreatDoorW.PrintMore
section
variable {P : Program} {ops : Array Oper} {Q : Exit → Act → World → Prop} {md : Region.Mode} {S : World → Prop} {ds : List Nat} {N : Option Tmp} {oi : Oper} {v : Value} {fuel : Nat} {l : Array Bool} {a a' : Act} {w : World}
theorem pX (i n : Nat) (h : Ci P md ops Q S ds fuel (l.setIfInBounds i true) a' w) (hi : ops[i]? = some oi := by rfl) (hN : oi.dst = some n := by rfl) (hc : anyB md ops l (l.setIfInBounds i true) i = true := by kernel_rfl)
 (hQ : ∀ c a w, Q (.panic c) (a.put oi.dst v) w → Q (.panic c) a w := by exact fun _ _ _ h => h) (hy : Yields P ops oi v a := by (refine Or.inl ⟨by rfl, ?_⟩; intro w'; go_simp; with_reducible rfl)) (ha : a.put (some n) v = a' := by (simp only [Act.put, List.setIfInBounds_toArray, List.set_cons_zero, List.set_cons_succ, G8, i32_w]; rfl)) : Ci P md ops Q S ds (fuel + 1) l a w :=
 pure_ _ hi hN hc hQ hy ha h
theorem qX (i n : Nat) (h : Ci P md ops Q S ds fuel (l.setIfInBounds i true) a' w) (hi : ops[i]? = some oi := by rfl) (hN : oi.dst = some n := by rfl) (hc : anyB md ops l (l.setIfInBounds i true) i = true := by kernel_rfl)
 (hQ : ∀ c a w, Q (.panic c) (a.put oi.dst undef) w → Q (.panic c) a w := by exact fun _ _ _ h => h) (hy : Yields P ops oi undef a := by exact Or.inr ⟨by rfl, rfl⟩) (ha : a.put (some n) undef = a' := by (simp only [Act.put, List.setIfInBounds_toArray, List.set_cons_zero, List.set_cons_succ, G8, i32_w]; rfl)) : Ci P md ops Q S ds (fuel + 1) l a w :=
 pure_ _ hi hN hc hQ hy ha h
theorem tX (i n : Nat) (hS : S w) (h : Ci P md ops Q S ds fuel (l.setIfInBounds i true) a' w) (hi : ops[i]? = some oi := by rfl) (hN : oi.dst = some n := by rfl) (hc : takeB md ops ds l (l.setIfInBounds i true) i = true := by kernel_rfl)
 (hQ : ∀ c a w, Q (.panic c) (a.put oi.dst v) w → Q (.panic c) a w := by exact fun _ _ _ h => h) (hy : YieldsIf P ops S oi v a := by (refine Or.inl ⟨by rfl, ?_⟩; intro w' r0; (try (have s0 := And.left r0; have r1 := And.right r0; clear r0)); (try (have s1 := And.left r1; have r2 := And.right r1; clear r1)); (try (have s2 := And.left r2; have r3 := And.right r2; clear r2)); (try (have s3 := And.left r3; have r4 := And.right r3; clear r3)); (try (have s4 := And.left r4; have r5 := And.right r4; clear r4)); (try (have s5 := And.left r5; have r6 := And.right r5; clear r5)); (try (have s6 := And.left r6; have r7 := And.right r6; clear r6)); (try (have s7 := And.left r7; have r8 := And.right r7; clear r7)); (try (have s8 := And.left r8; have r9 := And.right r8; clear r8)); go_simp; with_reducible rfl)) (ha : a.put (some n) v = a' := by (simp only [Act.put, List.setIfInBounds_toArray, List.set_cons_zero, List.set_cons_succ, G8, i32_w]; rfl)) : Ci P md ops Q S ds (fuel + 1) l a w :=
 take_ _ hi hN hc hQ hy hS ha h
theorem oX (i : Nat) (N : Option Tmp) (h : ∀ K : Act → World → Prop, Shut (∀ a' w', S w' → (S w' → Ci P md ops Q S ds fuel (l.setIfInBounds i true) a' w') → K a' w') → if Region.wanted oi (yielded ops a.tmps) = true then Oper.wp P oi a w K Q else K (a.put N undef) w)
 (hi : ops[i]? = some oi := by rfl) (hN : oi.dst = N := by rfl) (hc : readyB md ops l (l.setIfInBounds i true) i = true := by kernel_rfl) (hd : i ∉ ds := by decide) : Ci P md ops Q S ds (fuel + 1) l a w :=
 one_ _ hi hN hc hd h
theorem lX (i : Nat) (N : Option Tmp) (h : ∀ K : Act → World → Prop, Shut (∀ a' w', Ci P md ops Q S ds fuel (l.setIfInBounds i true) a' w' → K a' w') → if Region.wanted oi (yielded ops a.tmps) = true then Oper.wp P oi a w K Q else K (a.put N undef) w)
 (hi : ops[i]? = some oi := by rfl) (hN : oi.dst = N := by rfl) (hc : readyB md ops l (l.setIfInBounds i true) i = true := by kernel_rfl) (hd : i ∈ ds := by decide) : Ci P md ops Q S ds (fuel + 1) l a w :=
 last_ _ hi hN hc hd h
theorem nX (h : Ci P md ops Q S ds fuel l a' w) (ha : a = a' := by (show Act.put _ (some _) _ = _; simp only [Act.put, List.setIfInBounds_toArray, List.set_cons_zero, List.set_cons_succ, G8, i32_w]; rfl)) : Ci P md ops Q S ds fuel l a w := norm_ ha h
theorem gX {K : Act → World → Prop} {f : FuncId} {fn : Func} {ar : Array Operand} {ts : Array TypeId} (hf : P.funcs[f]? = some fn) (args : Array Value)
 (h : Calls P f args w fun e w' => ∃ v, e = .returned v ∧ K (a.put N v) w') (hname : (fn.name == "runtime.NumGoroutine") = false := by kernel_rfl) (hb : fn.body.isSome = true := by exact rfl) (hw : Region.wanted oi (yielded ops a.tmps) = true := by rfl) (hN : oi.dst = N := by exact rfl) (hop : oi.op = .call { callee := .value (.func f), args := ar, argTypes := ts } := by exact rfl) (hargs : ar.map a.eval = args := by (simp only [List.map_toArray, List.map_cons, List.map_nil]; rfl)) : if Region.wanted oi (yielded ops a.tmps) = true then Oper.wp P oi a w K Q else K (a.put N undef) w :=
 goes_ hf hname hb args hw hN hop hargs h
theorem kX {w1 : World} {K : Act → World → Prop} (h : K a w1) (hw : Region.wanted oi (yielded ops a.tmps) = true := by rfl) (hN : oi.dst = none := by exact rfl) (hrun : (execOp a.eval oi).run P w = .ok .skip w1 := by (go_simp; rfl)) : if Region.wanted oi (yielded ops a.tmps) = true then Oper.wp P oi a w K Q else K (a.put none undef) w := skip_ hw hN hrun h
theorem vX {w1 : World} {K : Act → World → Prop} (h : K (a.put N v) w1) (hw : Region.wanted oi (yielded ops a.tmps) = true := by rfl) (hN : oi.dst = N := by exact rfl) (hrun : (execOp a.eval oi).run P w = .ok (.value v) w1 := by (go_simp; constructor <;> rfl)) : if Region.wanted oi (yielded ops a.tmps) = true then Oper.wp P oi a w K Q else K (a.put N undef) w := value_ hw hN hrun h
theorem dX {n : Nat} (h : Q .normal a w) (hr : (Region.ready md ops l == []) = true := by kernel_rfl) : Ci P md ops Q S ds n l a w := done_ hr h
theorem sX {id : Nat} (n : Nat) (hS : S w.drew) (h : S w.drew → Ci P .any ops Q S ds n (Array.replicate n false) a w.drew) (hm : P.follows .mixedOrders = true := by kernel_rfl) (hn : ops.size = n := by exact rfl) : (Code.region id ops true).wp P Q a w := start_ _ hm hn rfl hS h
end
end Go.Proofs.YtefheailchihaaaGreatDoor.Print
end
section
namespace Go.Proofs.YtefheailchihaaaGreatDoor.Print
open Go.RowKit Go.Proofs.YtefheailchihaaaGreatDoorW.PrintWords Go.Proofs.YtefheailchihaaaGreatDoorW.PrintLast Go.Proofs.YtefheailchihaaaGreatDoorW.PrintMore
attribute [local go_sem] max2_int min2_int max_two min_two max_three min_three max_four min_four
def C9.f (a0 : Int) : Option (Bool) := if a0 ≥ 97 then (if a0 ≤ 122 then (some true) else (if a0 ≥ 48 then (some (decide (a0 ≤ 57))) else (some false))) else (if a0 ≥ 48 then (some (decide (a0 ≤ 57))) else (some false))
theorem C9.calls (a0 : Int) (r : Bool) (w : World) (h : C9.f a0 = some r) :
 Calls Tryz.prog 62 #[.int .u8 a0] w fun e w' => e = .returned (.bool r) ∧ Ch w w' := by
 have H : (if a0 ≥ 97 then (if a0 ≤ 122 then (some true) else (if a0 ≥ 48 then (some (decide (a0 ≤ 57))) else (some false))) else (if a0 ≥ 48 then (some (decide (a0 ≤ 57))) else (some false))) = some r := h
 clear h
 by_cases c2 : a0 ≥ 97
 ·rw [if_pos c2] at H
  have c2b0 : decide (97 ≤ a0) = true := decide_eq_true c2
  clear c2
  by_cases c3 : a0 ≤ 122
  ·rw [if_pos c3] at H
   have c3b0 : decide (a0 ≤ 122) = true := decide_eq_true c3
   clear c3
   obtain rfl := Option.some.inj H
   go_enter Tryz.func62, Tryz.ntmps62
   go_wp2
   go_ret
   exact ⟨zqD, zqF⟩
  ·rw [if_neg c3] at H
   have c3b0 : decide (a0 ≤ 122) = false := decide_eq_false c3
   clear c3
   by_cases c4 : a0 ≥ 48
   ·rw [if_pos c4] at H
    have c4b0 : decide (48 ≤ a0) = true := decide_eq_true c4
    clear c4
    obtain rfl := Option.some.inj H
    go_enter Tryz.func62, Tryz.ntmps62
    go_wp2
    go_ret
    exact ⟨zqD, zqF⟩
   ·rw [if_neg c4] at H
    have c4b0 : decide (48 ≤ a0) = false := decide_eq_false c4
    clear c4
    obtain rfl := Option.some.inj H
    go_enter Tryz.func62, Tryz.ntmps62
    go_wp2
    go_ret
    exact ⟨zqD, zqF⟩
 ·rw [if_neg c2] at H
  have c2b0 : decide (97 ≤ a0) = false := decide_eq_false c2
  clear c2
  by_cases c5 : a0 ≥ 48
  ·rw [if_pos c5] at H
   have c5b0 : decide (48 ≤ a0) = true := decide_eq_true c5
   clear c5
   obtain rfl := Option.some.inj H
   go_enter Tryz.func62, Tryz.ntmps62
   go_wp2
   go_ret
   exact ⟨zqD, zqF⟩
  ·rw [if_neg c5] at H
   have c5b0 : decide (48 ≤ a0) = false := decide_eq_false c5
   clear c5
   obtain rfl := Option.some.inj H
   go_enter Tryz.func62, Tryz.ntmps62
   go_wp2
   go_ret
   exact ⟨zqD, zqF⟩
def Ag.l0 : Nat → ByteArray → Int → Option (Bool)
 | 0, _, _ => none
 | k + 1, x0, x3 => if x3 < (x0.size : Int) then (if 0 ≤ x3 then ((C9.f (bt x0 x3)).bind fun t125 => (if t125 = true then (Ag.l0 k x0 (wrap64 (x3 + 1))) else (if (bt x0 x3) = 46 then (Ag.l0 k x0 (wrap64 (x3 + 1))) else (if (bt x0 x3) = 95 then (Ag.l0 k x0 (wrap64 (x3 + 1))) else (if (bt x0 x3) = 45 then (Ag.l0 k x0 (wrap64 (x3 + 1))) else (if (bt x0 x3) = 47 then (Ag.l0 k x0 (wrap64 (x3 + 1))) else (some false))))))) else (none)) else (if (x0.size : Int) ≥ 1 then (some (decide ((x0.size : Int) ≤ 16))) else (some false))
def Ag.f (k : Nat) (a0 : ByteArray) : Option (Bool) := Ag.l0 k a0 0
theorem Ag.mono_l : ∀ k, (∀ y0 y1, LeO (Ag.l0 k y0 y1) (Ag.l0 (k + 1) y0 y1))
 | 0 => fun _ _ r h => by simp [Ag.l0] at h
 | k + 1 => by
  have ih0 := Ag.mono_l k
  ·intro y0 y1
   unfold Ag.l0
   repeat' first
   | (with_reducible exact ih0 _ _)
   | (with_reducible exact LeO.refl _)
   | (with_reducible exact LeO.none _)
   | (with_reducible refine LeO.ite ?_ ?_)
   | (with_reducible refine LeO.bind ?_ (fun _ => ?_))
   | exact ih0 _ _
   | exact LeO.none _
   | refine LeO.ite ?_ ?_
   | refine LeO.bind ?_ (fun _ => ?_)
theorem Ag.mono : ∀ a0 k, LeO (Ag.f k a0) (Ag.f (k + 1) a0) := by
 intro a0 k
 have ih0 := Ag.mono_l k
 unfold Ag.f
 repeat' first
  | (with_reducible exact ih0 _ _)
  | (with_reducible exact LeO.refl _)
  | (with_reducible exact LeO.none _)
  | (with_reducible refine LeO.ite ?_ ?_)
  | (with_reducible refine LeO.bind ?_ (fun _ => ?_))
  | exact ih0 _ _
  | exact LeO.none _
  | refine LeO.ite ?_ ?_
  | refine LeO.bind ?_ (fun _ => ?_)
theorem Ag.calls (k : Nat) (a0 : ByteArray) (r : Bool) (w : World) (h : Ag.f k a0 = some r) :
 Calls Tryz.prog 31 #[.string a0] w fun e w' => e = .returned (.bool r) ∧ Ch w w' := by
 have H : (Ag.l0 k a0 0) = some r := h
 clear h
 have H' := Aa.mk H
 clear H
 go_enter Tryz.func31, Tryz.ntmps31
 go_wp2
 go_loopg [3] k (fun kq v3 w' => ∃ (x3_1 : Int), v3 = .int .i64 x3_1 ∧ Aa (Ag.l0 kq a0 x3_1 = some r) ∧ Aa (kq ≤ k) ∧ Ch w w')
 case atStart => exact ⟨(0), zqD, H', ⟨Nat.le_refl _⟩, zqF⟩
 case round =>
  clear H'
  obtain ⟨x3_1, rfl, HA, HK1, ⟨m1, rfl⟩⟩ := hrel
  cases gk with
  | zero => exact absurd HA.out (by simp [Ag.l0])
  | succ k1 =>
   have H := HA.out
   clear HA
   simp only [Ag.l0] at H
   by_cases c2 : x3_1 < (a0.size : Int)
   ·rw [if_pos c2] at H
    have c2b0 : decide (x3_1 < (a0.size : Int)) = true := decide_eq_true c2
    clear c2
    by_cases c3 : 0 ≤ x3_1
    ·rw [if_pos c3] at H
     have c3b0 : decide (0 ≤ x3_1) = true := decide_eq_true c3
     clear c3
     replace H := Option.bind_eq_some_iff.mp H
     obtain ⟨t125, A50, H⟩ := H
     replace H : (if t125 = true then (Ag.l0 k1 a0 (wrap64 (x3_1 + 1))) else (if (bt a0 x3_1) = 46 then (Ag.l0 k1 a0 (wrap64 (x3_1 + 1))) else (if (bt a0 x3_1) = 95 then (Ag.l0 k1 a0 (wrap64 (x3_1 + 1))) else (if (bt a0 x3_1) = 45 then (Ag.l0 k1 a0 (wrap64 (x3_1 + 1))) else (if (bt a0 x3_1) = 47 then (Ag.l0 k1 a0 (wrap64 (x3_1 + 1))) else (some false)))))) = some r := H
     have A5 := Aa.mk A50
     clear A50
     by_cases c6 : t125 = true
     ·subst c6
      have H1 : (Ag.l0 k1 a0 (wrap64 (x3_1 + 1))) = some r := by rw [if_pos rfl] at H; exact H
      clear H
      have H := H1
      clear H1
      have H' := Aa.mk H
      clear H
      have p4 : 0 ≤ (x3_1 : Int) := of_decide_eq_true zqA
      have q4 : x3_1 < (a0.size : Int) := of_decide_eq_true zqA
      have hx4 := Eb a0 x3_1
      replace p4 := eq_true p4
      replace q4 := eq_true q4
      go_wp2_with (first | ((with_reducible refine Ck (f := 62) rfl ?_); refine Dx (some 13) rfl rfl Tryz.func62 (by kernel_rfl) rfl #[.int .u8 (bt a0 x3_1)] rfl zqC ?_; (with_reducible refine (C9.calls (bt a0 x3_1) true _ A5.out).mono ?_); rintro e w' ⟨rfl, ⟨nd, rfl⟩⟩; refine ⟨_, rfl, ?_⟩))
      go_roundg k1
      case measure => have := HK1.out; omega
      case rel => exact ⟨(wrap64 (x3_1 + 1)), zqD, H', ⟨by have := HK1.out; omega⟩, zqF⟩
     ·replace c6 := Bool.eq_false_iff.mpr c6
      subst c6
      have H1 : (if (bt a0 x3_1) = 46 then (Ag.l0 k1 a0 (wrap64 (x3_1 + 1))) else (if (bt a0 x3_1) = 95 then (Ag.l0 k1 a0 (wrap64 (x3_1 + 1))) else (if (bt a0 x3_1) = 45 then (Ag.l0 k1 a0 (wrap64 (x3_1 + 1))) else (if (bt a0 x3_1) = 47 then (Ag.l0 k1 a0 (wrap64 (x3_1 + 1))) else (some false))))) = some r := by rw [if_neg (show ¬ (false = true) by decide)] at H; exact H
      clear H
      have H := H1
      clear H1
      by_cases c8 : (bt a0 x3_1) = 46
      ·rw [if_pos c8] at H
       have c8b0 : ((bt a0 x3_1) == 46) = true := beq_iff_eq.mpr c8
       have c8b1 : ((bt a0 x3_1) != 46) = false := bne_eq_false_iff_eq.mpr c8
       clear c8
       have H' := Aa.mk H
       clear H
       have p4 : 0 ≤ (x3_1 : Int) := of_decide_eq_true zqA
       have q4 : x3_1 < (a0.size : Int) := of_decide_eq_true zqA
       have hx4 := Eb a0 x3_1
       replace p4 := eq_true p4
       replace q4 := eq_true q4
       go_wp2_with (first | ((with_reducible refine Ck (f := 62) rfl ?_); refine Dx (some 13) rfl rfl Tryz.func62 (by kernel_rfl) rfl #[.int .u8 (bt a0 x3_1)] rfl zqC ?_; (with_reducible refine (C9.calls (bt a0 x3_1) false _ A5.out).mono ?_); rintro e w' ⟨rfl, ⟨nd, rfl⟩⟩; refine ⟨_, rfl, ?_⟩; have p7 : 0 ≤ (x3_1 : Int) := of_decide_eq_true zqA; have q7 : x3_1 < (a0.size : Int) := of_decide_eq_true zqA; have hx7 := Eb a0 x3_1; replace p7 := eq_true p7; replace q7 := eq_true q7))
       go_roundg k1
       case measure => have := HK1.out; omega
       case rel => exact ⟨(wrap64 (x3_1 + 1)), zqD, H', ⟨by have := HK1.out; omega⟩, zqF⟩
      ·rw [if_neg c8] at H
       have c8b0 : ((bt a0 x3_1) == 46) = false := beq_eq_false_iff_ne.mpr c8
       have c8b1 : ((bt a0 x3_1) != 46) = true := bne_iff_ne.mpr c8
       by_cases c10 : (bt a0 x3_1) = 95
       ·rw [if_pos c10] at H
        have c10b0 : ((bt a0 x3_1) == 95) = true := beq_iff_eq.mpr c10
        have c10b1 : ((bt a0 x3_1) != 95) = false := bne_eq_false_iff_eq.mpr c10
        clear c10
        have H' := Aa.mk H
        clear H
        have p4 : 0 ≤ (x3_1 : Int) := of_decide_eq_true zqA
        have q4 : x3_1 < (a0.size : Int) := of_decide_eq_true zqA
        have hx4 := Eb a0 x3_1
        replace p4 := eq_true p4
        replace q4 := eq_true q4
        go_wp2_with (first | ((with_reducible refine Ck (f := 62) rfl ?_); refine Dx (some 13) rfl rfl Tryz.func62 (by kernel_rfl) rfl #[.int .u8 (bt a0 x3_1)] rfl zqC ?_; (with_reducible refine (C9.calls (bt a0 x3_1) false _ A5.out).mono ?_); rintro e w' ⟨rfl, ⟨nd, rfl⟩⟩; refine ⟨_, rfl, ?_⟩; have p7 : 0 ≤ (x3_1 : Int) := of_decide_eq_true zqA; have q7 : x3_1 < (a0.size : Int) := of_decide_eq_true zqA; have hx7 := Eb a0 x3_1; replace p7 := eq_true p7; replace q7 := eq_true q7; have p9 : 0 ≤ (x3_1 : Int) := of_decide_eq_true zqA; have q9 : x3_1 < (a0.size : Int) := of_decide_eq_true zqA; have hx9 := Eb a0 x3_1; replace p9 := eq_true p9; replace q9 := eq_true q9))
        go_roundg k1
        case measure => have := HK1.out; omega
        case rel => exact ⟨(wrap64 (x3_1 + 1)), zqD, H', ⟨by have := HK1.out; omega⟩, zqF⟩
       ·rw [if_neg c10] at H
        have c10b0 : ((bt a0 x3_1) == 95) = false := beq_eq_false_iff_ne.mpr c10
        have c10b1 : ((bt a0 x3_1) != 95) = true := bne_iff_ne.mpr c10
        by_cases c12 : (bt a0 x3_1) = 45
        ·rw [if_pos c12] at H
         have c12b0 : ((bt a0 x3_1) == 45) = true := beq_iff_eq.mpr c12
         have c12b1 : ((bt a0 x3_1) != 45) = false := bne_eq_false_iff_eq.mpr c12
         clear c12
         have H' := Aa.mk H
         clear H
         have p4 : 0 ≤ (x3_1 : Int) := of_decide_eq_true zqA
         have q4 : x3_1 < (a0.size : Int) := of_decide_eq_true zqA
         have hx4 := Eb a0 x3_1
         replace p4 := eq_true p4
         replace q4 := eq_true q4
         go_wp2_with (first | ((with_reducible refine Ck (f := 62) rfl ?_); refine Dx (some 13) rfl rfl Tryz.func62 (by kernel_rfl) rfl #[.int .u8 (bt a0 x3_1)] rfl zqC ?_; (with_reducible refine (C9.calls (bt a0 x3_1) false _ A5.out).mono ?_); rintro e w' ⟨rfl, ⟨nd, rfl⟩⟩; refine ⟨_, rfl, ?_⟩; have p7 : 0 ≤ (x3_1 : Int) := of_decide_eq_true zqA; have q7 : x3_1 < (a0.size : Int) := of_decide_eq_true zqA; have hx7 := Eb a0 x3_1; replace p7 := eq_true p7; replace q7 := eq_true q7; have p9 : 0 ≤ (x3_1 : Int) := of_decide_eq_true zqA; have q9 : x3_1 < (a0.size : Int) := of_decide_eq_true zqA; have hx9 := Eb a0 x3_1; replace p9 := eq_true p9; replace q9 := eq_true q9; have p11 : 0 ≤ (x3_1 : Int) := of_decide_eq_true zqA; have q11 : x3_1 < (a0.size : Int) := of_decide_eq_true zqA; have hx11 := Eb a0 x3_1; replace p11 := eq_true p11; replace q11 := eq_true q11))
         go_roundg k1
         case measure => have := HK1.out; omega
         case rel => exact ⟨(wrap64 (x3_1 + 1)), zqD, H', ⟨by have := HK1.out; omega⟩, zqF⟩
        ·rw [if_neg c12] at H
         have c12b0 : ((bt a0 x3_1) == 45) = false := beq_eq_false_iff_ne.mpr c12
         have c12b1 : ((bt a0 x3_1) != 45) = true := bne_iff_ne.mpr c12
         by_cases c14 : (bt a0 x3_1) = 47
         ·rw [if_pos c14] at H
          have c14b0 : ((bt a0 x3_1) == 47) = true := beq_iff_eq.mpr c14
          have c14b1 : ((bt a0 x3_1) != 47) = false := bne_eq_false_iff_eq.mpr c14
          clear c14
          have H' := Aa.mk H
          clear H
          have p4 : 0 ≤ (x3_1 : Int) := of_decide_eq_true zqA
          have q4 : x3_1 < (a0.size : Int) := of_decide_eq_true zqA
          have hx4 := Eb a0 x3_1
          replace p4 := eq_true p4
          replace q4 := eq_true q4
          go_wp2_with (first | ((with_reducible refine Ck (f := 62) rfl ?_); refine Dx (some 13) rfl rfl Tryz.func62 (by kernel_rfl) rfl #[.int .u8 (bt a0 x3_1)] rfl zqC ?_; (with_reducible refine (C9.calls (bt a0 x3_1) false _ A5.out).mono ?_); rintro e w' ⟨rfl, ⟨nd, rfl⟩⟩; refine ⟨_, rfl, ?_⟩; have p7 : 0 ≤ (x3_1 : Int) := of_decide_eq_true zqA; have q7 : x3_1 < (a0.size : Int) := of_decide_eq_true zqA; have hx7 := Eb a0 x3_1; replace p7 := eq_true p7; replace q7 := eq_true q7; have p9 : 0 ≤ (x3_1 : Int) := of_decide_eq_true zqA; have q9 : x3_1 < (a0.size : Int) := of_decide_eq_true zqA; have hx9 := Eb a0 x3_1; replace p9 := eq_true p9; replace q9 := eq_true q9; have p11 : 0 ≤ (x3_1 : Int) := of_decide_eq_true zqA; have q11 : x3_1 < (a0.size : Int) := of_decide_eq_true zqA; have hx11 := Eb a0 x3_1; replace p11 := eq_true p11; replace q11 := eq_true q11; have p13 : 0 ≤ (x3_1 : Int) := of_decide_eq_true zqA; have q13 : x3_1 < (a0.size : Int) := of_decide_eq_true zqA; have hx13 := Eb a0 x3_1; replace p13 := eq_true p13; replace q13 := eq_true q13))
          go_roundg k1
          case measure => have := HK1.out; omega
          case rel => exact ⟨(wrap64 (x3_1 + 1)), zqD, H', ⟨by have := HK1.out; omega⟩, zqF⟩
         ·rw [if_neg c14] at H
          have c14b0 : ((bt a0 x3_1) == 47) = false := beq_eq_false_iff_ne.mpr c14
          have c14b1 : ((bt a0 x3_1) != 47) = true := bne_iff_ne.mpr c14
          obtain rfl := Option.some.inj H
          have p4 : 0 ≤ (x3_1 : Int) := of_decide_eq_true zqA
          have q4 : x3_1 < (a0.size : Int) := of_decide_eq_true zqA
          have hx4 := Eb a0 x3_1
          replace p4 := eq_true p4
          replace q4 := eq_true q4
          go_wp2_with (first | ((with_reducible refine Ck (f := 62) rfl ?_); refine Dx (some 13) rfl rfl Tryz.func62 (by kernel_rfl) rfl #[.int .u8 (bt a0 x3_1)] rfl zqC ?_; (with_reducible refine (C9.calls (bt a0 x3_1) false _ A5.out).mono ?_); rintro e w' ⟨rfl, ⟨nd, rfl⟩⟩; refine ⟨_, rfl, ?_⟩; have p7 : 0 ≤ (x3_1 : Int) := of_decide_eq_true zqA; have q7 : x3_1 < (a0.size : Int) := of_decide_eq_true zqA; have hx7 := Eb a0 x3_1; replace p7 := eq_true p7; replace q7 := eq_true q7; have p9 : 0 ≤ (x3_1 : Int) := of_decide_eq_true zqA; have q9 : x3_1 < (a0.size : Int) := of_decide_eq_true zqA; have hx9 := Eb a0 x3_1; replace p9 := eq_true p9; replace q9 := eq_true q9; have p11 : 0 ≤ (x3_1 : Int) := of_decide_eq_true zqA; have q11 : x3_1 < (a0.size : Int) := of_decide_eq_true zqA; have hx11 := Eb a0 x3_1; replace p11 := eq_true p11; replace q11 := eq_true q11; have p13 : 0 ≤ (x3_1 : Int) := of_decide_eq_true zqA; have q13 : x3_1 < (a0.size : Int) := of_decide_eq_true zqA; have hx13 := Eb a0 x3_1; replace p13 := eq_true p13; replace q13 := eq_true q13))
          go_ret
          exact ⟨zqD, zqF⟩
    ·rw [if_neg c3] at H
     exact absurd H (by simp)
   ·rw [if_neg c2] at H
    have c2b0 : decide (x3_1 < (a0.size : Int)) = false := decide_eq_false c2
    clear c2
    by_cases c15 : (a0.size : Int) ≥ 1
    ·rw [if_pos c15] at H
     have c15b0 : decide (1 ≤ (a0.size : Int)) = true := decide_eq_true c15
     have c15b1 : decide (1 ≤ a0.size) = true := decide_eq_true (by omega)
     clear c15
     obtain rfl := Option.some.inj H
     go_wp2
     go_ret
     exact ⟨zqD, zqF⟩
    ·rw [if_neg c15] at H
     have c15b0 : decide (1 ≤ (a0.size : Int)) = false := decide_eq_false c15
     have c15b1 : decide (1 ≤ a0.size) = false := decide_eq_false (by omega)
     clear c15
     obtain rfl := Option.some.inj H
     go_wp2
     go_ret
     exact ⟨zqD, zqF⟩
def Hm.f (a0 : Int) : Option (Int) := some a0
theorem Hm.calls (a0 : Int) (r : Int) (w : World) (h : Hm.f a0 = some r) :
 Calls Tryz.prog 13 #[.int .i64 a0] w fun e w' => e = .returned (.int .i64 r) ∧ Ch w w' := by
 have H : (some a0) = some r := h
 clear h
 obtain rfl := Option.some.inj H
 go_enter Tryz.func13, Tryz.ntmps13
 go_wp2
 go_ret
 exact ⟨zqD, zqF⟩
def An.l0 : Nat → ByteArray → Int → Int → Int → Option (Bool)
 | 0, _, _, _, _ => none
 | k + 1, x0, x1, x2, x7 => if x7 < (x0.size : Int) then (if 0 ≤ x7 then (if (bt x0 x7) < 32 then (some false) else (if (bt x0 x7) > 126 then (some false) else (An.l0 k x0 x1 x2 (wrap64 (x7 + 1))))) else (none)) else (if (x0.size : Int) ≥ x1 then (some (decide ((x0.size : Int) ≤ x2))) else (some false))
def An.f (k : Nat) (a0 : ByteArray) (a1 : Int) (a2 : Int) : Option (Bool) := An.l0 k a0 a1 a2 0
theorem An.mono_l : ∀ k, (∀ y0 y1 y2 y3, LeO (An.l0 k y0 y1 y2 y3) (An.l0 (k + 1) y0 y1 y2 y3))
 | 0 => fun _ _ _ _ r h => by simp [An.l0] at h
 | k + 1 => by
  have ih0 := An.mono_l k
  ·intro y0 y1 y2 y3
   unfold An.l0
   repeat' first
   | (with_reducible exact ih0 _ _ _ _)
   | (with_reducible exact LeO.refl _)
   | (with_reducible exact LeO.none _)
   | (with_reducible refine LeO.ite ?_ ?_)
   | (with_reducible refine LeO.bind ?_ (fun _ => ?_))
   | exact ih0 _ _ _ _
   | exact LeO.none _
   | refine LeO.ite ?_ ?_
   | refine LeO.bind ?_ (fun _ => ?_)
theorem An.mono : ∀ a0 a1 a2 k, LeO (An.f k a0 a1 a2) (An.f (k + 1) a0 a1 a2) := by
 intro a0 a1 a2 k
 have ih0 := An.mono_l k
 unfold An.f
 repeat' first
  | (with_reducible exact ih0 _ _ _ _)
  | (with_reducible exact LeO.refl _)
  | (with_reducible exact LeO.none _)
  | (with_reducible refine LeO.ite ?_ ?_)
  | (with_reducible refine LeO.bind ?_ (fun _ => ?_))
  | exact ih0 _ _ _ _
  | exact LeO.none _
  | refine LeO.ite ?_ ?_
  | refine LeO.bind ?_ (fun _ => ?_)
theorem An.calls (k : Nat) (a0 : ByteArray) (a1 : Int) (a2 : Int) (r : Bool) (w : World) (h : An.f k a0 a1 a2 = some r) :
 Calls Tryz.prog 48 #[.string a0, .int .i64 a1, .int .i64 a2] w fun e w' => e = .returned (.bool r) ∧ Ch w w' := by
 have H : (An.l0 k a0 a1 a2 0) = some r := h
 clear h
 have H' := Aa.mk H
 clear H
 go_enter Tryz.func48, Tryz.ntmps48
 go_wp2
 go_loopg [7] k (fun kq v7 w' => ∃ (x7_1 : Int), v7 = .int .i64 x7_1 ∧ Aa (An.l0 kq a0 a1 a2 x7_1 = some r) ∧ Aa (kq ≤ k) ∧ Ch w w')
 case atStart => exact ⟨(0), zqD, H', ⟨Nat.le_refl _⟩, zqF⟩
 case round =>
  clear H'
  try clear p2
  obtain ⟨x7_1, rfl, HA, HK1, ⟨m1, rfl⟩⟩ := hrel
  cases gk with
  | zero => exact absurd HA.out (by simp [An.l0])
  | succ k1 =>
   have H := HA.out
   clear HA
   simp only [An.l0] at H
   by_cases c4 : x7_1 < (a0.size : Int)
   ·rw [if_pos c4] at H
    have c4b0 : decide (x7_1 < (a0.size : Int)) = true := decide_eq_true c4
    clear c4
    by_cases c5 : 0 ≤ x7_1
    ·rw [if_pos c5] at H
     have c5b0 : decide (0 ≤ x7_1) = true := decide_eq_true c5
     clear c5
     by_cases c7 : (bt a0 x7_1) < 32
     ·rw [if_pos c7] at H
      have c7b0 : decide ((bt a0 x7_1) < 32) = true := decide_eq_true c7
      clear c7
      obtain rfl := Option.some.inj H
      have p6 : 0 ≤ (x7_1 : Int) := of_decide_eq_true zqA
      have q6 : x7_1 < (a0.size : Int) := of_decide_eq_true zqA
      have hx6 := Eb a0 x7_1
      replace p6 := eq_true p6
      replace q6 := eq_true q6
      go_wp2
      go_ret
      exact ⟨zqD, zqF⟩
     ·rw [if_neg c7] at H
      have c7b0 : decide ((bt a0 x7_1) < 32) = false := decide_eq_false c7
      clear c7
      by_cases c9 : (bt a0 x7_1) > 126
      ·rw [if_pos c9] at H
       have c9b0 : decide (126 < (bt a0 x7_1)) = true := decide_eq_true c9
       clear c9
       obtain rfl := Option.some.inj H
       have p6 : 0 ≤ (x7_1 : Int) := of_decide_eq_true zqA
       have q6 : x7_1 < (a0.size : Int) := of_decide_eq_true zqA
       have hx6 := Eb a0 x7_1
       replace p6 := eq_true p6
       replace q6 := eq_true q6
       have p8 : 0 ≤ (x7_1 : Int) := of_decide_eq_true zqA
       have q8 : x7_1 < (a0.size : Int) := of_decide_eq_true zqA
       have hx8 := Eb a0 x7_1
       replace p8 := eq_true p8
       replace q8 := eq_true q8
       go_wp2
       go_ret
       exact ⟨zqD, zqF⟩
      ·rw [if_neg c9] at H
       have c9b0 : decide (126 < (bt a0 x7_1)) = false := decide_eq_false c9
       clear c9
       have H' := Aa.mk H
       clear H
       have p6 : 0 ≤ (x7_1 : Int) := of_decide_eq_true zqA
       have q6 : x7_1 < (a0.size : Int) := of_decide_eq_true zqA
       have hx6 := Eb a0 x7_1
       replace p6 := eq_true p6
       replace q6 := eq_true q6
       have p8 : 0 ≤ (x7_1 : Int) := of_decide_eq_true zqA
       have q8 : x7_1 < (a0.size : Int) := of_decide_eq_true zqA
       have hx8 := Eb a0 x7_1
       replace p8 := eq_true p8
       replace q8 := eq_true q8
       go_wp2
       go_roundg k1
       case measure => have := HK1.out; omega
       case rel => exact ⟨(wrap64 (x7_1 + 1)), zqD, H', ⟨by have := HK1.out; omega⟩, zqF⟩
    ·rw [if_neg c5] at H
     exact absurd H (by simp)
   ·rw [if_neg c4] at H
    have c4b0 : decide (x7_1 < (a0.size : Int)) = false := decide_eq_false c4
    clear c4
    by_cases c10 : (a0.size : Int) ≥ a1
    ·rw [if_pos c10] at H
     have c10b0 : decide (a1 ≤ (a0.size : Int)) = true := decide_eq_true c10
     clear c10
     obtain rfl := Option.some.inj H
     go_wp2
     go_ret
     exact ⟨zqD, zqF⟩
    ·rw [if_neg c10] at H
     have c10b0 : decide (a1 ≤ (a0.size : Int)) = false := decide_eq_false c10
     clear c10
     obtain rfl := Option.some.inj H
     go_wp2
     go_ret
     exact ⟨zqD, zqF⟩
mutual
def Af.l0 : Nat → List (S174) → Int → Option (Bool)
 | 0, _, _ => none
 | k + 1, x0, x3 => if x3 < (x0.length : Int) then (if 0 ≤ x3 then ((Ag.f k ((Bg x0 x3).f0)).bind fun t130 => (if t130 = true then ((An.f k ((Bg x0 x3).f1) 0 256).bind fun t132 => (Af.j1 k x0 x3 (!t132))) else (Af.j1 k x0 x3 true))) else (none)) else (some (decide ((x0.length : Int) ≤ 16)))
def Af.j1 : Nat → List (S174) → Int → Bool → Option (Bool)
 | 0, _, _, _ => none
 | k + 1, x0, x3, x26 => if x26 = true then (some false) else (Af.l1 k x0 x3 0)
def Af.l1 : Nat → List (S174) → Int → Int → Option (Bool)
 | 0, _, _, _ => none
 | k + 1, x0, x3, x4 => if x4 < x3 then (if 0 ≤ x4 then (if x4 < (x0.length : Int) then (if 0 ≤ x3 then (if x3 < (x0.length : Int) then (if ((Bg x0 x4).f0).toList = ((Bg x0 x3).f0).toList then (some false) else (Af.l1 k x0 x3 (wrap64 (x4 + 1)))) else (none)) else (none)) else (none)) else (none)) else (Af.l0 k x0 (wrap64 (x3 + 1)))
end
def Af.f (k : Nat) (l0 : List (S174)) : Option (Bool) := Af.l0 k l0 0
theorem Af.mono_l : ∀ k, (∀ y0 y1, LeO (Af.l0 k y0 y1) (Af.l0 (k + 1) y0 y1)) ∧ (∀ y0 y1 y2, LeO (Af.j1 k y0 y1 y2) (Af.j1 (k + 1) y0 y1 y2)) ∧ (∀ y0 y1 y2, LeO (Af.l1 k y0 y1 y2) (Af.l1 (k + 1) y0 y1 y2))
 | 0 => ⟨fun _ _ r h => by simp [Af.l0] at h, fun _ _ _ r h => by simp [Af.j1] at h, fun _ _ _ r h => by simp [Af.l1] at h⟩
 | k + 1 => by
  obtain ⟨ih0, ih1, ih2⟩ := Af.mono_l k
  refine ⟨?_, ?_, ?_⟩
  ·intro y0 y1
   unfold Af.l0
   repeat' first
   | (with_reducible exact ih0 _ _)
   | (with_reducible exact ih1 _ _ _)
   | (with_reducible exact ih2 _ _ _)
   | (with_reducible exact Ag.mono _ _)
   | (with_reducible exact An.mono _ _ _ _)
   | (with_reducible exact LeO.refl _)
   | (with_reducible exact LeO.none _)
   | (with_reducible refine LeO.ite ?_ ?_)
   | (with_reducible refine LeO.bind ?_ (fun _ => ?_))
   | exact ih0 _ _
   | exact ih1 _ _ _
   | exact ih2 _ _ _
   | exact Ag.mono _ _
   | exact An.mono _ _ _ _
   | exact LeO.none _
   | refine LeO.ite ?_ ?_
   | refine LeO.bind ?_ (fun _ => ?_)
  ·intro y0 y1 y2
   unfold Af.j1
   repeat' first
   | (with_reducible exact ih0 _ _)
   | (with_reducible exact ih1 _ _ _)
   | (with_reducible exact ih2 _ _ _)
   | (with_reducible exact Ag.mono _ _)
   | (with_reducible exact An.mono _ _ _ _)
   | (with_reducible exact LeO.refl _)
   | (with_reducible exact LeO.none _)
   | (with_reducible refine LeO.ite ?_ ?_)
   | (with_reducible refine LeO.bind ?_ (fun _ => ?_))
   | exact ih0 _ _
   | exact ih1 _ _ _
   | exact ih2 _ _ _
   | exact Ag.mono _ _
   | exact An.mono _ _ _ _
   | exact LeO.none _
   | refine LeO.ite ?_ ?_
   | refine LeO.bind ?_ (fun _ => ?_)
  ·intro y0 y1 y2
   unfold Af.l1
   repeat' first
   | (with_reducible exact ih0 _ _)
   | (with_reducible exact ih1 _ _ _)
   | (with_reducible exact ih2 _ _ _)
   | (with_reducible exact Ag.mono _ _)
   | (with_reducible exact An.mono _ _ _ _)
   | (with_reducible exact LeO.refl _)
   | (with_reducible exact LeO.none _)
   | (with_reducible refine LeO.ite ?_ ?_)
   | (with_reducible refine LeO.bind ?_ (fun _ => ?_))
   | exact ih0 _ _
   | exact ih1 _ _ _
   | exact ih2 _ _ _
   | exact Ag.mono _ _
   | exact An.mono _ _ _ _
   | exact LeO.none _
   | refine LeO.ite ?_ ?_
   | refine LeO.bind ?_ (fun _ => ?_)
theorem Af.mono : ∀ a0 k, LeO (Af.f k a0) (Af.f (k + 1) a0) := by
 intro a0 k
 obtain ⟨ih0, ih1, ih2⟩ := Af.mono_l k
 unfold Af.f
 repeat' first
  | (with_reducible exact ih0 _ _)
  | (with_reducible exact ih1 _ _ _)
  | (with_reducible exact ih2 _ _ _)
  | (with_reducible exact Ag.mono _ _)
  | (with_reducible exact An.mono _ _ _ _)
  | (with_reducible exact LeO.refl _)
  | (with_reducible exact LeO.none _)
  | (with_reducible refine LeO.ite ?_ ?_)
  | (with_reducible refine LeO.bind ?_ (fun _ => ?_))
  | exact ih0 _ _
  | exact ih1 _ _ _
  | exact ih2 _ _ _
  | exact Ag.mono _ _
  | exact An.mono _ _ _ _
  | exact LeO.none _
  | refine LeO.ite ?_ ?_
  | refine LeO.bind ?_ (fun _ => ?_)
theorem Af.calls (k : Nat) (A0 : Option Addr) (c0 : Nat) (l0 : List (S174)) (r : Bool) (w : World) (hr0 : Kd.C k174 w A0 l0.length l0) (hc0 : l0.length ≤ c0) (h : Af.f k l0 = some r) :
 Calls Tryz.prog 130 #[.slice A0 l0.length c0] w fun e w' => e = .returned (.bool r) ∧ Ch w w' := by
 have HR0 := Aa.mk hr0
 have HC0 := Aa.mk hc0
 clear hr0 hc0
 have H : (Af.l0 k l0 0) = some r := h
 clear h
 have H' := Aa.mk H
 clear H
 go_enter Tryz.func130, Tryz.ntmps130
 go_wp2
 repeat (go_quiet (fail); try go_wp2)
 go_loopg [3] k (fun kq v3 w' => ∃ (x3_1 : Int), v3 = .int .i64 x3_1 ∧ Aa (Af.l0 kq l0 x3_1 = some r) ∧ Aa (kq ≤ k) ∧ Ch w w')
 case atStart => exact ⟨(0), zqD, H', ⟨Nat.le_refl _⟩, zqF⟩
 case round =>
  clear H'
  try clear c1
  obtain ⟨x3_1, rfl, HA, HK1, ⟨m1, rfl⟩⟩ := hrel
  cases gk with
  | zero => exact absurd HA.out (by simp [Af.l0])
  | succ k1 =>
   have H := HA.out
   clear HA
   simp only [Af.l0] at H
   by_cases c2 : x3_1 < (l0.length : Int)
   ·rw [if_pos c2] at H
    have c2b0 : decide (x3_1 < (l0.length : Int)) = true := decide_eq_true c2
    clear c2
    have HC3 := Aa.mk H
    clear H
    go_upto_region 4 with (fail)
    repeat (go_quiet (fail); go_upto_region 4 with (fail))
    go_cut [26] (fun v26 wc => ∃ (kq : Nat) (x26_2 : Bool), v26 = .bool x26_2 ∧ Aa (Af.j1 kq l0 x3_1 x26_2 = some r) ∧ Aa (kq ≤ k1) ∧ Ch w wc)
    case first =>
     have H := HC3.out
     clear HC3
     by_cases c4 : 0 ≤ x3_1
     ·rw [if_pos c4] at H
      have c4b0 : decide (0 ≤ x3_1) = true := decide_eq_true c4
      clear c4
      (first | rw [c4b0] | (simp only [G8, i32_w]; rw [c4b0]) | skip)
      replace H := Option.bind_eq_some_iff.mp H
      obtain ⟨t130, A50, H⟩ := H
      replace H : (if t130 = true then ((An.f k1 ((Bg l0 x3_1).f1) 0 256).bind fun t132 => (Af.j1 k1 l0 x3_1 (!t132))) else (Af.j1 k1 l0 x3_1 true)) = some r := H
      have A5 := Aa.mk A50
      clear A50
      by_cases c6 : t130 = true
      ·subst c6
       have H1 : ((An.f k1 ((Bg l0 x3_1).f1) 0 256).bind fun t132 => (Af.j1 k1 l0 x3_1 (!t132))) = some r := by rw [if_pos rfl] at H; exact H
       clear H
       have H := H1
       clear H1
       replace H := Option.bind_eq_some_iff.mp H
       obtain ⟨t132, A70, H⟩ := H
       replace H : (Af.j1 k1 l0 x3_1 (!t132)) = some r := H
       have A7 := Aa.mk A70
       clear A70
       have H' := Aa.mk H
       clear H
       have p129 : 0 ≤ (x3_1 : Int) := of_decide_eq_true zqA
       have q129 : x3_1 < (l0.length : Int) := of_decide_eq_true zqA
       obtain ⟨ad129, e129, hx129_0, hx129_1⟩ := Gb HR0.out x3_1 p129 q129
       cases e129
       replace p129 := eq_true p129
       replace q129 := eq_true q129
       go_wp2_with (first | (go_at_call 31; (with_reducible refine (Ag.calls k1 ((Bg l0 x3_1).f0) true _ A5.out).mono ?_); rintro e w' ⟨rfl, ⟨nd, rfl⟩⟩; (try first | exact ⟨rfl, _, World.drewN_drewN _ _ _⟩ | exact ⟨rfl, _, Eq.trans (World.drewN_drewN _ _ _) (congrArg (World.drewN _) (Nat.add_assoc _ _ _))⟩); have p131 : 0 ≤ (x3_1 : Int) := of_decide_eq_true zqA; have q131 : x3_1 < (l0.length : Int) := of_decide_eq_true zqA; obtain ⟨ad131, e131, hx131_0, hx131_1⟩ := Gb HR0.out x3_1 p131 q131; obtain rfl : ad129 = ad131 := (by injection e131); replace p131 := eq_true p131; replace q131 := eq_true q131) | (go_at_call 48; (with_reducible refine (An.calls k1 ((Bg l0 x3_1).f1) 0 256 t132 _ A7.out).mono ?_); rintro e w' ⟨rfl, ⟨nd, rfl⟩⟩; (try first | exact ⟨rfl, _, World.drewN_drewN _ _ _⟩ | exact ⟨rfl, _, Eq.trans (World.drewN_drewN _ _ _) (congrArg (World.drewN _) (Nat.add_assoc _ _ _))⟩)))
       repeat (go_quiet (first | (go_at_call 31; (with_reducible refine (Ag.calls k1 ((Bg l0 x3_1).f0) true _ A5.out).mono ?_); rintro e w' ⟨rfl, ⟨nd, rfl⟩⟩; (try first | exact ⟨rfl, _, World.drewN_drewN _ _ _⟩ | exact ⟨rfl, _, Eq.trans (World.drewN_drewN _ _ _) (congrArg (World.drewN _) (Nat.add_assoc _ _ _))⟩); have p131 : 0 ≤ (x3_1 : Int) := of_decide_eq_true zqA; have q131 : x3_1 < (l0.length : Int) := of_decide_eq_true zqA; obtain ⟨ad131, e131, hx131_0, hx131_1⟩ := Gb HR0.out x3_1 p131 q131; obtain rfl : ad129 = ad131 := (by injection e131); replace p131 := eq_true p131; replace q131 := eq_true q131) | (go_at_call 48; (with_reducible refine (An.calls k1 ((Bg l0 x3_1).f1) 0 256 t132 _ A7.out).mono ?_); rintro e w' ⟨rfl, ⟨nd, rfl⟩⟩; (try first | exact ⟨rfl, _, World.drewN_drewN _ _ _⟩ | exact ⟨rfl, _, Eq.trans (World.drewN_drewN _ _ _) (congrArg (World.drewN _) (Nat.add_assoc _ _ _))⟩))); try go_wp2_with (first | (go_at_call 31; (with_reducible refine (Ag.calls k1 ((Bg l0 x3_1).f0) true _ A5.out).mono ?_); rintro e w' ⟨rfl, ⟨nd, rfl⟩⟩; (try first | exact ⟨rfl, _, World.drewN_drewN _ _ _⟩ | exact ⟨rfl, _, Eq.trans (World.drewN_drewN _ _ _) (congrArg (World.drewN _) (Nat.add_assoc _ _ _))⟩); have p131 : 0 ≤ (x3_1 : Int) := of_decide_eq_true zqA; have q131 : x3_1 < (l0.length : Int) := of_decide_eq_true zqA; obtain ⟨ad131, e131, hx131_0, hx131_1⟩ := Gb HR0.out x3_1 p131 q131; obtain rfl : ad129 = ad131 := (by injection e131); replace p131 := eq_true p131; replace q131 := eq_true q131) | (go_at_call 48; (with_reducible refine (An.calls k1 ((Bg l0 x3_1).f1) 0 256 t132 _ A7.out).mono ?_); rintro e w' ⟨rfl, ⟨nd, rfl⟩⟩; (try first | exact ⟨rfl, _, World.drewN_drewN _ _ _⟩ | exact ⟨rfl, _, Eq.trans (World.drewN_drewN _ _ _) (congrArg (World.drewN _) (Nat.add_assoc _ _ _))⟩))))
       go_meet
       case rel => exact ⟨_, (!t132), zqD, H', ⟨by have := HK1.out; first | omega | exact Nat.le_refl _⟩, zqF⟩
      ·replace c6 := Bool.eq_false_iff.mpr c6
       subst c6
       have H1 : (Af.j1 k1 l0 x3_1 true) = some r := by rw [if_neg (show ¬ (false = true) by decide)] at H; exact H
       clear H
       have H := H1
       clear H1
       have H' := Aa.mk H
       clear H
       have p129 : 0 ≤ (x3_1 : Int) := of_decide_eq_true zqA
       have q129 : x3_1 < (l0.length : Int) := of_decide_eq_true zqA
       obtain ⟨ad129, e129, hx129_0, hx129_1⟩ := Gb HR0.out x3_1 p129 q129
       cases e129
       replace p129 := eq_true p129
       replace q129 := eq_true q129
       go_wp2_with (first | (go_at_call 31; (with_reducible refine (Ag.calls k1 ((Bg l0 x3_1).f0) false _ A5.out).mono ?_); rintro e w' ⟨rfl, ⟨nd, rfl⟩⟩; (try first | exact ⟨rfl, _, World.drewN_drewN _ _ _⟩ | exact ⟨rfl, _, Eq.trans (World.drewN_drewN _ _ _) (congrArg (World.drewN _) (Nat.add_assoc _ _ _))⟩)))
       repeat (go_quiet (first | (go_at_call 31; (with_reducible refine (Ag.calls k1 ((Bg l0 x3_1).f0) false _ A5.out).mono ?_); rintro e w' ⟨rfl, ⟨nd, rfl⟩⟩; (try first | exact ⟨rfl, _, World.drewN_drewN _ _ _⟩ | exact ⟨rfl, _, Eq.trans (World.drewN_drewN _ _ _) (congrArg (World.drewN _) (Nat.add_assoc _ _ _))⟩))); try go_wp2_with (first | (go_at_call 31; (with_reducible refine (Ag.calls k1 ((Bg l0 x3_1).f0) false _ A5.out).mono ?_); rintro e w' ⟨rfl, ⟨nd, rfl⟩⟩; (try first | exact ⟨rfl, _, World.drewN_drewN _ _ _⟩ | exact ⟨rfl, _, Eq.trans (World.drewN_drewN _ _ _) (congrArg (World.drewN _) (Nat.add_assoc _ _ _))⟩))))
       go_meet
       case rel => exact ⟨_, (true), zqD, H', ⟨by have := HK1.out; first | omega | exact Nat.le_refl _⟩, zqF⟩
     ·rw [if_neg c4] at H
      exact absurd H (by simp)
    case rest =>
     clear HC3
     try clear c1
     try clear p1
     try clear q1
     try clear hx1
     try clear c2
     try clear c2b0
     try clear p2
     try clear c4
     try clear c4b0
     try clear c6
     try clear hx129_0
     try clear hx129_1
     try clear hx131_0
     try clear hx131_1
     try clear p129
     try clear p131
     try clear q129
     try clear q131
     obtain ⟨kq, x26_2, rfl, HA, HJ2, ⟨mc2, rfl⟩⟩ := hcut
     cases kq with
     | zero => exact absurd HA.out (by simp [Af.j1])
     | succ kj2 =>
      have H := HA.out
      clear HA
      simp only [Af.j1] at H
      by_cases c8 : x26_2 = true
      ·subst c8
       have H1 : (some false) = some r := by rw [if_pos rfl] at H; exact H
       clear H
       have H := H1
       clear H1
       obtain rfl := Option.some.inj H
       go_wp2
       repeat (go_quiet (fail); try go_wp2)
       go_ret
       exact ⟨zqD, zqF⟩
      ·replace c8 := Bool.eq_false_iff.mpr c8
       subst c8
       have H1 : (Af.l1 kj2 l0 x3_1 0) = some r := by rw [if_neg (show ¬ (false = true) by decide)] at H; exact H
       clear H
       have H := H1
       clear H1
       have H' := Aa.mk H
       clear H
       go_wp2
       repeat (go_quiet (fail); try go_wp2)
       go_loopg [4] kj2 (fun kq v4 w' => ∃ (x4_3 : Int), v4 = .int .i64 x4_3 ∧ Aa (Af.l1 kq l0 x3_1 x4_3 = some r) ∧ Aa (kq ≤ kj2) ∧ Ch w w')
       case atStart => exact ⟨(0), zqD, H', ⟨Nat.le_refl _⟩, zqF⟩
       case round =>
        clear H'
        try clear c1
        try clear p1
        try clear q1
        try clear hx1
        try clear c2
        try clear c2b0
        try clear p2
        try clear c4
        try clear c4b0
        try clear c6
        try clear c8
        try clear hx129_0
        try clear hx129_1
        try clear hx131_0
        try clear hx131_1
        try clear p1
        try clear p129
        try clear p131
        try clear p2
        try clear q1
        try clear q129
        try clear q131
        obtain ⟨x4_3, rfl, HA, HK3, ⟨m3, rfl⟩⟩ := hrel
        cases gk with
        | zero => exact absurd HA.out (by simp [Af.l1])
        | succ k3 =>
         have H := HA.out
         clear HA
         simp only [Af.l1] at H
         by_cases c9 : x4_3 < x3_1
         ·rw [if_pos c9] at H
          have c9b0 : decide (x4_3 < x3_1) = true := decide_eq_true c9
          clear c9
          by_cases c10 : 0 ≤ x4_3
          ·rw [if_pos c10] at H
           have c10b0 : decide (0 ≤ x4_3) = true := decide_eq_true c10
           clear c10
           by_cases c11 : x4_3 < (l0.length : Int)
           ·rw [if_pos c11] at H
            have c11b0 : decide (x4_3 < (l0.length : Int)) = true := decide_eq_true c11
            clear c11
            by_cases c12 : 0 ≤ x3_1
            ·rw [if_pos c12] at H
             have c12b0 : decide (0 ≤ x3_1) = true := decide_eq_true c12
             clear c12
             by_cases c13 : x3_1 < (l0.length : Int)
             ·rw [if_pos c13] at H
              have c13b0 : decide (x3_1 < (l0.length : Int)) = true := decide_eq_true c13
              clear c13
              by_cases c14 : ((Bg l0 x4_3).f0).toList = ((Bg l0 x3_1).f0).toList
              ·rw [if_pos c14] at H
               have c14b0 : (((Bg l0 x4_3).f0).toList == ((Bg l0 x3_1).f0).toList) = true := beq_iff_eq.mpr c14
               have c14b1 : (((Bg l0 x4_3).f0).toList != ((Bg l0 x3_1).f0).toList) = false := bne_eq_false_iff_eq.mpr c14
               clear c14
               obtain rfl := Option.some.inj H
               have p133 : 0 ≤ (x4_3 : Int) := of_decide_eq_true zqA
               have q133 : x4_3 < (l0.length : Int) := of_decide_eq_true zqA
               obtain ⟨ad133, e133, hx133_0, hx133_1⟩ := Gb HR0.out x4_3 p133 q133
               cases e133
               replace p133 := eq_true p133
               replace q133 := eq_true q133
               have p134 : 0 ≤ (x3_1 : Int) := of_decide_eq_true zqA
               have q134 : x3_1 < (l0.length : Int) := of_decide_eq_true zqA
               obtain ⟨ad134, e134, hx134_0, hx134_1⟩ := Gb HR0.out x3_1 p134 q134
               obtain rfl : ad133 = ad134 := (by injection e134)
               replace p134 := eq_true p134
               replace q134 := eq_true q134
               go_wp2
               repeat (go_quiet (fail); try go_wp2)
               go_ret
               exact ⟨zqD, zqF⟩
              ·rw [if_neg c14] at H
               have c14b0 : (((Bg l0 x4_3).f0).toList == ((Bg l0 x3_1).f0).toList) = false := beq_eq_false_iff_ne.mpr c14
               have c14b1 : (((Bg l0 x4_3).f0).toList != ((Bg l0 x3_1).f0).toList) = true := bne_iff_ne.mpr c14
               have H' := Aa.mk H
               clear H
               have p133 : 0 ≤ (x4_3 : Int) := of_decide_eq_true zqA
               have q133 : x4_3 < (l0.length : Int) := of_decide_eq_true zqA
               obtain ⟨ad133, e133, hx133_0, hx133_1⟩ := Gb HR0.out x4_3 p133 q133
               cases e133
               replace p133 := eq_true p133
               replace q133 := eq_true q133
               have p134 : 0 ≤ (x3_1 : Int) := of_decide_eq_true zqA
               have q134 : x3_1 < (l0.length : Int) := of_decide_eq_true zqA
               obtain ⟨ad134, e134, hx134_0, hx134_1⟩ := Gb HR0.out x3_1 p134 q134
               obtain rfl : ad133 = ad134 := (by injection e134)
               replace p134 := eq_true p134
               replace q134 := eq_true q134
               go_wp2
               repeat (go_quiet (fail); try go_wp2)
               go_roundg k3
               case measure => have := HK1.out; have := HJ2.out; have := HK3.out; omega
               case rel => exact ⟨(wrap64 (x4_3 + 1)), zqD, H', ⟨by have := HK1.out; have := HJ2.out; have := HK3.out; omega⟩, zqF⟩
             ·rw [if_neg c13] at H
              exact absurd H (by simp)
            ·rw [if_neg c12] at H
             exact absurd H (by simp)
           ·rw [if_neg c11] at H
            exact absurd H (by simp)
          ·rw [if_neg c10] at H
           exact absurd H (by simp)
         ·rw [if_neg c9] at H
          have c9b0 : decide (x4_3 < x3_1) = false := decide_eq_false c9
          clear c9
          have H' := Aa.mk H
          clear H
          go_wp2
          repeat (go_quiet (fail); try go_wp2)
          go_roundg k3
          case measure => have := HK1.out; have := HJ2.out; have := HK3.out; omega
          case rel => exact ⟨(wrap64 (x3_1 + 1)), zqD, H', ⟨by have := HK1.out; have := HJ2.out; have := HK3.out; omega⟩, zqF⟩
   ·rw [if_neg c2] at H
    have c2b0 : decide (x3_1 < (l0.length : Int)) = false := decide_eq_false c2
    clear c2
    obtain rfl := Option.some.inj H
    go_wp2
    repeat (go_quiet (fail); try go_wp2)
    go_ret
    exact ⟨zqD, zqF⟩
mutual
def Aq.l0 : Nat → List (S174) → ByteArray → Int → Option (ByteArray)
 | 0, _, _, _ => none
 | k + 1, x0, x1, x5 => if x5 < (x0.length : Int) then ((Af.f k x0).bind fun t135 => (Aq.j1 k x0 x1 x5 t135)) else (Aq.j1 k x0 x1 x5 false)
def Aq.j1 : Nat → List (S174) → ByteArray → Int → Bool → Option (ByteArray)
 | 0, _, _, _, _ => none
 | k + 1, x0, x1, x5, x13 => if x13 = true then (if 0 ≤ x5 then (if x5 < (x0.length : Int) then (if ((Bg x0 x5).f0).toList = x1.toList then (some ((Bg x0 x5).f1)) else (Aq.l0 k x0 x1 (wrap64 (x5 + 1)))) else (none)) else (none)) else (some (⟨#[]⟩ : ByteArray))
end
def Aq.f (k : Nat) (l0 : List (S174)) (a1 : ByteArray) : Option (ByteArray) := Aq.l0 k l0 a1 0
theorem Aq.mono_l : ∀ k, (∀ y0 y1 y2, LeO (Aq.l0 k y0 y1 y2) (Aq.l0 (k + 1) y0 y1 y2)) ∧ (∀ y0 y1 y2 y3, LeO (Aq.j1 k y0 y1 y2 y3) (Aq.j1 (k + 1) y0 y1 y2 y3))
 | 0 => ⟨fun _ _ _ r h => by simp [Aq.l0] at h, fun _ _ _ _ r h => by simp [Aq.j1] at h⟩
 | k + 1 => by
  obtain ⟨ih0, ih1⟩ := Aq.mono_l k
  refine ⟨?_, ?_⟩
  ·intro y0 y1 y2
   unfold Aq.l0
   repeat' first
   | (with_reducible exact ih0 _ _ _)
   | (with_reducible exact ih1 _ _ _ _)
   | (with_reducible exact Af.mono _ _)
   | (with_reducible exact LeO.refl _)
   | (with_reducible exact LeO.none _)
   | (with_reducible refine LeO.ite ?_ ?_)
   | (with_reducible refine LeO.bind ?_ (fun _ => ?_))
   | exact ih0 _ _ _
   | exact ih1 _ _ _ _
   | exact Af.mono _ _
   | exact LeO.none _
   | refine LeO.ite ?_ ?_
   | refine LeO.bind ?_ (fun _ => ?_)
  ·intro y0 y1 y2 y3
   unfold Aq.j1
   repeat' first
   | (with_reducible exact ih0 _ _ _)
   | (with_reducible exact ih1 _ _ _ _)
   | (with_reducible exact Af.mono _ _)
   | (with_reducible exact LeO.refl _)
   | (with_reducible exact LeO.none _)
   | (with_reducible refine LeO.ite ?_ ?_)
   | (with_reducible refine LeO.bind ?_ (fun _ => ?_))
   | exact ih0 _ _ _
   | exact ih1 _ _ _ _
   | exact Af.mono _ _
   | exact LeO.none _
   | refine LeO.ite ?_ ?_
   | refine LeO.bind ?_ (fun _ => ?_)
theorem Aq.mono : ∀ a0 a1 k, LeO (Aq.f k a0 a1) (Aq.f (k + 1) a0 a1) := by
 intro a0 a1 k
 obtain ⟨ih0, ih1⟩ := Aq.mono_l k
 unfold Aq.f
 repeat' first
  | (with_reducible exact ih0 _ _ _)
  | (with_reducible exact ih1 _ _ _ _)
  | (with_reducible exact Af.mono _ _)
  | (with_reducible exact LeO.refl _)
  | (with_reducible exact LeO.none _)
  | (with_reducible refine LeO.ite ?_ ?_)
  | (with_reducible refine LeO.bind ?_ (fun _ => ?_))
  | exact ih0 _ _ _
  | exact ih1 _ _ _ _
  | exact Af.mono _ _
  | exact LeO.none _
  | refine LeO.ite ?_ ?_
  | refine LeO.bind ?_ (fun _ => ?_)
theorem Aq.calls (k : Nat) (A0 : Option Addr) (c0 : Nat) (l0 : List (S174)) (a1 : ByteArray) (r : ByteArray) (w : World) (hr0 : Kd.C k174 w A0 l0.length l0) (hc0 : l0.length ≤ c0) (h : Aq.f k l0 a1 = some r) :
 Calls Tryz.prog 131 #[.slice A0 l0.length c0, .string a1] w fun e w' => e = .returned (.string r) ∧ Ch w w' := by
 have HR0 := Aa.mk hr0
 have HC0 := Aa.mk hc0
 clear hr0 hc0
 have H : (Aq.l0 k l0 a1 0) = some r := h
 clear h
 have H' := Aa.mk H
 clear H
 go_enter Tryz.func131, Tryz.ntmps131
 go_wp2
 go_loopg [5] k (fun kq v5 w' => ∃ (x5_1 : Int), v5 = .int .i64 x5_1 ∧ Aa (Aq.l0 kq l0 a1 x5_1 = some r) ∧ Aa (kq ≤ k) ∧ Ch w w')
 case atStart => exact ⟨(0), zqD, H', ⟨Nat.le_refl _⟩, zqF⟩
 case round =>
  clear H'
  try clear c1
  try clear p2
  obtain ⟨x5_1, rfl, HA, HK1, ⟨m1, rfl⟩⟩ := hrel
  cases gk with
  | zero => exact absurd HA.out (by simp [Aq.l0])
  | succ k1 =>
   have H := HA.out
   clear HA
   simp only [Aq.l0] at H
   have HC3 := Aa.mk H
   clear H
   go_upto_region 2 with (fail)
   go_cut [13] (fun v13 wc => ∃ (kq : Nat) (x13_2 : Bool), v13 = .bool x13_2 ∧ Aa (Aq.j1 kq l0 a1 x5_1 x13_2 = some r) ∧ Aa (kq ≤ k1) ∧ Ch w wc)
   case first =>
    have H := HC3.out
    clear HC3
    by_cases c4 : x5_1 < (l0.length : Int)
    ·rw [if_pos c4] at H
     have c4b0 : decide (x5_1 < (l0.length : Int)) = true := decide_eq_true c4
     clear c4
     (first | rw [c4b0] | (simp only [G8, i32_w]; rw [c4b0]) | skip)
     replace H := Option.bind_eq_some_iff.mp H
     obtain ⟨t135, A50, H⟩ := H
     replace H : (Aq.j1 k1 l0 a1 x5_1 t135) = some r := H
     have A5 := Aa.mk A50
     clear A50
     have H' := Aa.mk H
     clear H
     go_wp2_with (first | (go_at_call 130; (with_reducible refine (Af.calls k1 _ _ l0 t135 _ ?side1 ?side2 A5.out).mono ?_); (case side1 => repeat (first | exact HR0.out | (with_reducible refine Kd.Gg ?_ _) | (with_reducible refine Kd.Ht ?_ _) | (with_reducible refine Kd.C_drew ?_))); (case side2 => exact HC0.out); rintro e w' ⟨rfl, ⟨nd, rfl⟩⟩))
     go_meet
     case rel => exact ⟨_, (t135), zqD, H', ⟨by have := HK1.out; first | omega | exact Nat.le_refl _⟩, zqF⟩
    ·rw [if_neg c4] at H
     have c4b0 : decide (x5_1 < (l0.length : Int)) = false := decide_eq_false c4
     clear c4
     (first | rw [c4b0] | (simp only [G8, i32_w]; rw [c4b0]) | skip)
     have H' := Aa.mk H
     clear H
     go_wp2
     go_meet
     case rel => exact ⟨_, (false), zqD, H', ⟨by have := HK1.out; first | omega | exact Nat.le_refl _⟩, zqF⟩
   case rest =>
    clear HC3
    try clear c1
    try clear p2
    try clear c4
    try clear c4b0
    try clear p2
    obtain ⟨kq, x13_2, rfl, HA, HJ2, ⟨mc2, rfl⟩⟩ := hcut
    cases kq with
    | zero => exact absurd HA.out (by simp [Aq.j1])
    | succ kj2 =>
     have H := HA.out
     clear HA
     simp only [Aq.j1] at H
     by_cases c6 : x13_2 = true
     ·subst c6
      have H1 : (if 0 ≤ x5_1 then (if x5_1 < (l0.length : Int) then (if ((Bg l0 x5_1).f0).toList = a1.toList then (some ((Bg l0 x5_1).f1)) else (Aq.l0 kj2 l0 a1 (wrap64 (x5_1 + 1)))) else (none)) else (none)) = some r := by rw [if_pos rfl] at H; exact H
      clear H
      have H := H1
      clear H1
      by_cases c7 : 0 ≤ x5_1
      ·rw [if_pos c7] at H
       have c7b0 : decide (0 ≤ x5_1) = true := decide_eq_true c7
       clear c7
       by_cases c8 : x5_1 < (l0.length : Int)
       ·rw [if_pos c8] at H
        have c8b0 : decide (x5_1 < (l0.length : Int)) = true := decide_eq_true c8
        clear c8
        by_cases c9 : ((Bg l0 x5_1).f0).toList = a1.toList
        ·rw [if_pos c9] at H
         have c9b0 : (((Bg l0 x5_1).f0).toList == a1.toList) = true := beq_iff_eq.mpr c9
         have c9b1 : (((Bg l0 x5_1).f0).toList != a1.toList) = false := bne_eq_false_iff_eq.mpr c9
         clear c9
         obtain rfl := Option.some.inj H
         have p136 : 0 ≤ (x5_1 : Int) := of_decide_eq_true zqA
         have q136 : x5_1 < (l0.length : Int) := of_decide_eq_true zqA
         obtain ⟨ad136, e136, hx136_0, hx136_1⟩ := Gb HR0.out x5_1 p136 q136
         cases e136
         replace p136 := eq_true p136
         replace q136 := eq_true q136
         have p137 : 0 ≤ (x5_1 : Int) := of_decide_eq_true zqA
         have q137 : x5_1 < (l0.length : Int) := of_decide_eq_true zqA
         obtain ⟨ad137, e137, hx137_0, hx137_1⟩ := Gb HR0.out x5_1 p137 q137
         obtain rfl : ad136 = ad137 := (by injection e137)
         replace p137 := eq_true p137
         replace q137 := eq_true q137
         go_wp2
         go_ret
         exact ⟨zqD, zqF⟩
        ·rw [if_neg c9] at H
         have c9b0 : (((Bg l0 x5_1).f0).toList == a1.toList) = false := beq_eq_false_iff_ne.mpr c9
         have c9b1 : (((Bg l0 x5_1).f0).toList != a1.toList) = true := bne_iff_ne.mpr c9
         have H' := Aa.mk H
         clear H
         have p136 : 0 ≤ (x5_1 : Int) := of_decide_eq_true zqA
         have q136 : x5_1 < (l0.length : Int) := of_decide_eq_true zqA
         obtain ⟨ad136, e136, hx136_0, hx136_1⟩ := Gb HR0.out x5_1 p136 q136
         cases e136
         replace p136 := eq_true p136
         replace q136 := eq_true q136
         go_wp2
         go_roundg kj2
         case measure => have := HK1.out; have := HJ2.out; omega
         case rel => exact ⟨(wrap64 (x5_1 + 1)), zqD, H', ⟨by have := HK1.out; have := HJ2.out; omega⟩, zqF⟩
       ·rw [if_neg c8] at H
        exact absurd H (by simp)
      ·rw [if_neg c7] at H
       exact absurd H (by simp)
     ·replace c6 := Bool.eq_false_iff.mpr c6
      subst c6
      have H1 : (some (⟨#[]⟩ : ByteArray)) = some r := by rw [if_neg (show ¬ (false = true) by decide)] at H; exact H
      clear H
      have H := H1
      clear H1
      obtain rfl := Option.some.inj H
      go_wp2
      go_ret
      exact ⟨zqD, zqF⟩
def Am.l0 : Nat → ByteArray → Int → List ByteArray → Int → Int → Option (List ByteArray)
 | 0, _, _, _, _, _ => none
 | k + 1, x0, x1, x5, x6, x7 => if x7 ≤ (x0.size : Int) then (if x7 = (x0.size : Int) then (if 0 ≤ x6 then (if x6 ≤ x7 then (if x5.length < 8796093022208 then (Am.l0 k x0 x1 (x5 ++ [x0.extract (x6 : Int).toNat (x7 : Int).toNat]) (wrap64 (x7 + 1)) (wrap64 (x7 + 1))) else (none)) else (none)) else (none)) else (if 0 ≤ x7 then (if x7 < (x0.size : Int) then (if (bt x0 x7) = x1 then (if 0 ≤ x6 then (if x6 ≤ x7 then (if x5.length < 8796093022208 then (Am.l0 k x0 x1 (x5 ++ [x0.extract (x6 : Int).toNat (x7 : Int).toNat]) (wrap64 (x7 + 1)) (wrap64 (x7 + 1))) else (none)) else (none)) else (none)) else (Am.l0 k x0 x1 x5 x6 (wrap64 (x7 + 1)))) else (none)) else (none))) else (some x5)
def Am.f (k : Nat) (a0 : ByteArray) (a1 : Int) : Option (List ByteArray) := Am.l0 k a0 a1 ([] : List ByteArray) 0 0
theorem Am.mono_l : ∀ k, (∀ y0 y1 y2 y3 y4, LeO (Am.l0 k y0 y1 y2 y3 y4) (Am.l0 (k + 1) y0 y1 y2 y3 y4))
 | 0 => fun _ _ _ _ _ r h => by simp [Am.l0] at h
 | k + 1 => by
  have ih0 := Am.mono_l k
  ·intro y0 y1 y2 y3 y4
   unfold Am.l0
   repeat' first
   | (with_reducible exact ih0 _ _ _ _ _)
   | (with_reducible exact LeO.refl _)
   | (with_reducible exact LeO.none _)
   | (with_reducible refine LeO.ite ?_ ?_)
   | (with_reducible refine LeO.bind ?_ (fun _ => ?_))
   | exact ih0 _ _ _ _ _
   | exact LeO.none _
   | refine LeO.ite ?_ ?_
   | refine LeO.bind ?_ (fun _ => ?_)
theorem Am.mono : ∀ a0 a1 k, LeO (Am.f k a0 a1) (Am.f (k + 1) a0 a1) := by
 intro a0 a1 k
 have ih0 := Am.mono_l k
 unfold Am.f
 repeat' first
  | (with_reducible exact ih0 _ _ _ _ _)
  | (with_reducible exact LeO.refl _)
  | (with_reducible exact LeO.none _)
  | (with_reducible refine LeO.ite ?_ ?_)
  | (with_reducible refine LeO.bind ?_ (fun _ => ?_))
  | exact ih0 _ _ _ _ _
  | exact LeO.none _
  | refine LeO.ite ?_ ?_
  | refine LeO.bind ?_ (fun _ => ?_)
theorem Am.calls (k : Nat) (a0 : ByteArray) (a1 : Int) (r : List ByteArray) (w : World) (h : Am.f k a0 a1 = some r) :
 Calls Tryz.prog 47 #[.string a0, .int .u8 a1] w fun e w' => ∃ v0_ : Value, e = .returned (v0_) ∧ Kd.R Kd.string 9 w' w.heap.size (fun _ => True) v0_ r ∧ Below w.heap.size w w' := by
 have HB := Aa.mk (Below.refl w.heap.size w)
 have H : (Am.l0 k a0 a1 ([] : List ByteArray) 0 0) = some r := h
 clear h
 have H' := Aa.mk H
 clear H
 go_enter Tryz.func47, Tryz.ntmps47
 go_wp2
 go_loopg [5, 6, 7] k (fun kq v5 v6 v7 w' => ∃ (x5_1 : List ByteArray) (x6_1 : Int) (x7_1 : Int), v6 = .int .i64 x6_1 ∧ v7 = .int .i64 x7_1 ∧ Aa (Am.l0 kq a0 a1 x5_1 x6_1 x7_1 = some r) ∧ Aa (kq ≤ k) ∧ Aa (Kd.R Kd.string 9 w' w.heap.size (fun _ => True) v5 x5_1) ∧ Aa (Below w.heap.size w w'))
 case atStart => exact ⟨(([] : List ByteArray)), (0), (0), zqD, zqD, H', ⟨Nat.le_refl _⟩, ⟨by first | exact Kd.Di _ _ _ _ _ | exact Kd.N_nil _ _ _ _ _ | exact Kd.V_nil _ _ _ _ _ | exact Kd.Q_nil _ _ _ _ _ | exact Kd.S_nil _ _ _ _ _⟩, ⟨zqB⟩⟩
 case round =>
  clear H'
  try clear p2
  obtain ⟨x5_1, x6_1, x7_1, rfl, rfl, HA, HK1, HO_5, HB⟩ := hrel
  cases gk with
  | zero => exact absurd HA.out (by simp [Am.l0])
  | succ k1 =>
   have H := HA.out
   clear HA
   simp only [Am.l0] at H
   by_cases c3 : x7_1 ≤ (a0.size : Int)
   ·rw [if_pos c3] at H
    have c3b0 : decide (x7_1 ≤ (a0.size : Int)) = true := decide_eq_true c3
    clear c3
    by_cases c4 : x7_1 = (a0.size : Int)
    ·rw [if_pos c4] at H
     have c4b0 : (x7_1 == (a0.size : Int)) = true := beq_iff_eq.mpr c4
     have c4b1 : (x7_1 != (a0.size : Int)) = false := bne_eq_false_iff_eq.mpr c4
     clear c4
     by_cases c5 : 0 ≤ x6_1
     ·rw [if_pos c5] at H
      have c5b0 := eq_true c5
      have c5b1 : decide (0 ≤ x6_1) = true := decide_eq_true c5
      clear c5
      by_cases c6 : x6_1 ≤ x7_1
      ·rw [if_pos c6] at H
       have c6b0 := eq_true c6
       have c6b1 : decide (x6_1 ≤ x7_1) = true := decide_eq_true c6
       clear c6
       have c7b0 := eq_true (of_decide_eq_true zqA : x7_1 ≤ (a0.size : Int))
       by_cases c8 : x5_1.length < 8796093022208
       ·rw [if_pos c8] at H
        have LMc8 := Aa.mk c8
        clear c8
        obtain ⟨y101, hy101⟩ : ∃ y_ : List ByteArray, y_ = (x5_1 ++ [a0.extract (x6_1 : Int).toNat (x7_1 : Int).toNat]) := ⟨_, rfl⟩
        replace H : (Am.l0 k1 a0 a1 y101 (wrap64 (x7_1 + 1)) (wrap64 (x7_1 + 1))) = some r := by first | (rw [hy101]; with_reducible exact H) | (have H2_ := (Option.bind_some _ _).symm.trans H; rw [hy101]; with_reducible exact H2_) | (have H2_ := (Option.bind_some _ _).symm.trans H; with_reducible exact H2_) | with_reducible exact H | (rw [hy101]; exact H) | exact H
        have Ny101 := Aa.mk hy101
        clear hy101
        have H' := Aa.mk H
        clear H
        go_wp2_with (first | ((with_reducible refine Cz (b := .append) (xs := #[.tmp 25, .tmp 30]) rfl ?_); at_builtin; refine Kd.Ep Kd.string (w0 := w) w.heap.size rfl (.tmp 25) (.tmp 30) 24 9 (.string ⟨#[]⟩) 16 rfl Tryz.underlying24 Hh rfl (by decide) (by omega) u5 x5_1 (a0.extract (x6_1 : Int).toNat (x7_1 : Int).toNat) [.string (a0.extract (x6_1 : Int).toNat (x7_1 : Int).toNat)] (fun _ => True) (fun _ => False) rfl rfl ?aP (fun _ hk => hk.elim) ?aF ?aO ?aB ?aS ?aL ?_; (case aP => exact rfl); (case aB => exact zqB); (case aF => exact (fun _ _ => trivial)); (case aO => exact (by (with_reducible repeat (first | apply Kd.Cg | apply Kd.Cc | apply Kd.Cs)); exact HO_5.out)); (case aS => exact (E6 zqB)); (case aL => have := LMc8.out; omega); intro v102 w9 ho hb hg hat; rw [← Ny101.out] at ho; have n0_ := Aa.mk (hb); have n1_ := Aa.mk (ho); clear HB; clear HO_5; have HB := n0_; have HO103 := n1_; clear n0_ n1_; clear ho hb hg hat))
        go_roundg k1
        case measure => have := HK1.out; omega
        case rel => exact ⟨(y101), (wrap64 (x7_1 + 1)), (wrap64 (x7_1 + 1)), zqD, zqD, H', ⟨by have := HK1.out; omega⟩, ⟨by (with_reducible repeat (first | apply Kd.Cg | apply Kd.Cc | apply Kd.Cs)); exact HO103.out⟩, ⟨zqB⟩⟩
       ·rw [if_neg c8] at H
        exact absurd H (by simp)
      ·rw [if_neg c6] at H
       exact absurd H (by simp)
     ·rw [if_neg c5] at H
      exact absurd H (by simp)
    ·rw [if_neg c4] at H
     have c4b0 : (x7_1 == (a0.size : Int)) = false := beq_eq_false_iff_ne.mpr c4
     have c4b1 : (x7_1 != (a0.size : Int)) = true := bne_iff_ne.mpr c4
     by_cases c10 : 0 ≤ x7_1
     ·rw [if_pos c10] at H
      have c10b0 : decide (0 ≤ x7_1) = true := decide_eq_true c10
      clear c10
      by_cases c11 : x7_1 < (a0.size : Int)
      ·rw [if_pos c11] at H
       have c11b0 : decide (x7_1 < (a0.size : Int)) = true := decide_eq_true c11
       clear c11
       by_cases c13 : (bt a0 x7_1) = a1
       ·rw [if_pos c13] at H
        have c13b0 : ((bt a0 x7_1) == a1) = true := beq_iff_eq.mpr c13
        have c13b1 : ((bt a0 x7_1) != a1) = false := bne_eq_false_iff_eq.mpr c13
        clear c13
        by_cases c14 : 0 ≤ x6_1
        ·rw [if_pos c14] at H
         have c14b0 := eq_true c14
         have c14b1 : decide (0 ≤ x6_1) = true := decide_eq_true c14
         clear c14
         by_cases c15 : x6_1 ≤ x7_1
         ·rw [if_pos c15] at H
          have c15b0 := eq_true c15
          have c15b1 : decide (x6_1 ≤ x7_1) = true := decide_eq_true c15
          clear c15
          have c16b0 := eq_true (of_decide_eq_true zqA : x7_1 ≤ (a0.size : Int))
          by_cases c17 : x5_1.length < 8796093022208
          ·rw [if_pos c17] at H
           have LMc17 := Aa.mk c17
           clear c17
           obtain ⟨y104, hy104⟩ : ∃ y_ : List ByteArray, y_ = (x5_1 ++ [a0.extract (x6_1 : Int).toNat (x7_1 : Int).toNat]) := ⟨_, rfl⟩
           replace H : (Am.l0 k1 a0 a1 y104 (wrap64 (x7_1 + 1)) (wrap64 (x7_1 + 1))) = some r := by first | (rw [hy104]; with_reducible exact H) | (have H2_ := (Option.bind_some _ _).symm.trans H; rw [hy104]; with_reducible exact H2_) | (have H2_ := (Option.bind_some _ _).symm.trans H; with_reducible exact H2_) | with_reducible exact H | (rw [hy104]; exact H) | exact H
           have Ny104 := Aa.mk hy104
           clear hy104
           have H' := Aa.mk H
           clear H
           have p12 : 0 ≤ (x7_1 : Int) := of_decide_eq_true zqA
           have q12 : x7_1 < (a0.size : Int) := of_decide_eq_true zqA
           have hx12 := Eb a0 x7_1
           replace p12 := eq_true p12
           replace q12 := eq_true q12
           go_wp2_with (first | ((with_reducible refine Cz (b := .append) (xs := #[.tmp 25, .tmp 30]) rfl ?_); at_builtin; refine Kd.Ep Kd.string (w0 := w) w.heap.size rfl (.tmp 25) (.tmp 30) 24 9 (.string ⟨#[]⟩) 16 rfl Tryz.underlying24 Hh rfl (by decide) (by omega) u5 x5_1 (a0.extract (x6_1 : Int).toNat (x7_1 : Int).toNat) [.string (a0.extract (x6_1 : Int).toNat (x7_1 : Int).toNat)] (fun _ => True) (fun _ => False) rfl rfl ?aP (fun _ hk => hk.elim) ?aF ?aO ?aB ?aS ?aL ?_; (case aP => exact rfl); (case aB => exact zqB); (case aF => exact (fun _ _ => trivial)); (case aO => exact (by (with_reducible repeat (first | apply Kd.Cg | apply Kd.Cc | apply Kd.Cs)); exact HO_5.out)); (case aS => exact (E6 zqB)); (case aL => have := LMc17.out; omega); intro v105 w18 ho hb hg hat; rw [← Ny104.out] at ho; have n0_ := Aa.mk (hb); have n1_ := Aa.mk (ho); clear HB; clear HO_5; have HB := n0_; have HO106 := n1_; clear n0_ n1_; clear ho hb hg hat))
           go_roundg k1
           case measure => have := HK1.out; omega
           case rel => exact ⟨(y104), (wrap64 (x7_1 + 1)), (wrap64 (x7_1 + 1)), zqD, zqD, H', ⟨by have := HK1.out; omega⟩, ⟨by (with_reducible repeat (first | apply Kd.Cg | apply Kd.Cc | apply Kd.Cs)); exact HO106.out⟩, ⟨zqB⟩⟩
          ·rw [if_neg c17] at H
           exact absurd H (by simp)
         ·rw [if_neg c15] at H
          exact absurd H (by simp)
        ·rw [if_neg c14] at H
         exact absurd H (by simp)
       ·rw [if_neg c13] at H
        have c13b0 : ((bt a0 x7_1) == a1) = false := beq_eq_false_iff_ne.mpr c13
        have c13b1 : ((bt a0 x7_1) != a1) = true := bne_iff_ne.mpr c13
        have H' := Aa.mk H
        clear H
        have p12 : 0 ≤ (x7_1 : Int) := of_decide_eq_true zqA
        have q12 : x7_1 < (a0.size : Int) := of_decide_eq_true zqA
        have hx12 := Eb a0 x7_1
        replace p12 := eq_true p12
        replace q12 := eq_true q12
        go_wp2
        go_roundg k1
        case measure => have := HK1.out; omega
        case rel => exact ⟨(x5_1), (x6_1), (wrap64 (x7_1 + 1)), zqD, zqD, H', ⟨by have := HK1.out; omega⟩, ⟨by (with_reducible repeat (first | apply Kd.Cg | apply Kd.Cc | apply Kd.Cs)); exact HO_5.out⟩, ⟨zqB⟩⟩
      ·rw [if_neg c11] at H
       exact absurd H (by simp)
     ·rw [if_neg c10] at H
      exact absurd H (by simp)
   ·rw [if_neg c3] at H
    have c3b0 : decide (x7_1 ≤ (a0.size : Int)) = false := decide_eq_false c3
    clear c3
    obtain rfl := Option.some.inj H
    go_wp2
    go_ret
    exact ⟨_, by first | rfl | (simp [Cp, Co] <;> rfl) | (simp [*, Cp, Co] <;> rfl), by (with_reducible repeat (first | apply Kd.Cg | apply Kd.Cc | apply Kd.Cs)); exact HO_5.out, zqB⟩
def Bh.l0 : Nat → List ByteArray → ByteArray → ByteArray → Int → Option (ByteArray)
 | 0, _, _, _, _ => none
 | k + 1, x0, x1, x5, x6 => if x6 < (x0.length : Int) then (if x6 > 0 then (if x5.size + x1.size ≤ 9223372036854775807 then (if 0 ≤ x6 then (if (x5 ++ x1).size + (rdOf ByteArray.empty x0 x6).size ≤ 9223372036854775807 then (Bh.l0 k x0 x1 ((x5 ++ x1) ++ (rdOf ByteArray.empty x0 x6)) (wrap64 (x6 + 1))) else (none)) else (none)) else (none)) else (if 0 ≤ x6 then (if x5.size + (rdOf ByteArray.empty x0 x6).size ≤ 9223372036854775807 then (Bh.l0 k x0 x1 (x5 ++ (rdOf ByteArray.empty x0 x6)) (wrap64 (x6 + 1))) else (none)) else (none))) else (some x5)
def Bh.f (k : Nat) (l0 : List ByteArray) (a1 : ByteArray) : Option (ByteArray) := Bh.l0 k l0 a1 (⟨#[]⟩ : ByteArray) 0
theorem Bh.mono_l : ∀ k, (∀ y0 y1 y2 y3, LeO (Bh.l0 k y0 y1 y2 y3) (Bh.l0 (k + 1) y0 y1 y2 y3))
 | 0 => fun _ _ _ _ r h => by simp [Bh.l0] at h
 | k + 1 => by
  have ih0 := Bh.mono_l k
  ·intro y0 y1 y2 y3
   unfold Bh.l0
   repeat' first
   | (with_reducible exact ih0 _ _ _ _)
   | (with_reducible exact LeO.refl _)
   | (with_reducible exact LeO.none _)
   | (with_reducible refine LeO.ite ?_ ?_)
   | (with_reducible refine LeO.bind ?_ (fun _ => ?_))
   | exact ih0 _ _ _ _
   | exact LeO.none _
   | refine LeO.ite ?_ ?_
   | refine LeO.bind ?_ (fun _ => ?_)
theorem Bh.mono : ∀ a0 a1 k, LeO (Bh.f k a0 a1) (Bh.f (k + 1) a0 a1) := by
 intro a0 a1 k
 have ih0 := Bh.mono_l k
 unfold Bh.f
 repeat' first
  | (with_reducible exact ih0 _ _ _ _)
  | (with_reducible exact LeO.refl _)
  | (with_reducible exact LeO.none _)
  | (with_reducible refine LeO.ite ?_ ?_)
  | (with_reducible refine LeO.bind ?_ (fun _ => ?_))
  | exact ih0 _ _ _ _
  | exact LeO.none _
  | refine LeO.ite ?_ ?_
  | refine LeO.bind ?_ (fun _ => ?_)
theorem Bh.calls (k : Nat) (A0 : Option Addr) (c0 : Nat) (l0 : List ByteArray) (a1 : ByteArray) (r : ByteArray) (w : World) (hr0 : Kd.C Kd.string w A0 l0.length l0) (hc0 : l0.length ≤ c0) (h : Bh.f k l0 a1 = some r) :
 Calls Tryz.prog 96 #[.slice A0 l0.length c0, .string a1] w fun e w' => e = .returned (.string r) ∧ Ch w w' := by
 have HR0 := Aa.mk hr0
 have HC0 := Aa.mk hc0
 clear hr0 hc0
 have H : (Bh.l0 k l0 a1 (⟨#[]⟩ : ByteArray) 0) = some r := h
 clear h
 have H' := Aa.mk H
 clear H
 go_enter Tryz.func96, Tryz.ntmps96
 go_wp2
 go_loopg [5, 6] k (fun kq v5 v6 w' => ∃ (x5_1 : ByteArray) (x6_1 : Int), v5 = .string x5_1 ∧ v6 = .int .i64 x6_1 ∧ Aa (Bh.l0 kq l0 a1 x5_1 x6_1 = some r) ∧ Aa (kq ≤ k) ∧ Ch w w')
 case atStart => exact ⟨((⟨#[]⟩ : ByteArray)), (0), zqD, zqD, H', ⟨Nat.le_refl _⟩, zqF⟩
 case round =>
  clear H'
  try clear p2
  obtain ⟨x5_1, x6_1, rfl, rfl, HA, HK1, ⟨m1, rfl⟩⟩ := hrel
  cases gk with
  | zero => exact absurd HA.out (by simp [Bh.l0])
  | succ k1 =>
   have H := HA.out
   clear HA
   simp only [Bh.l0] at H
   by_cases c3 : x6_1 < (l0.length : Int)
   ·rw [if_pos c3] at H
    have c3b0 : decide (x6_1 < (l0.length : Int)) = true := decide_eq_true c3
    clear c3
    by_cases c4 : x6_1 > 0
    ·rw [if_pos c4] at H
     have c4b0 : decide (0 < x6_1) = true := decide_eq_true c4
     clear c4
     by_cases c5 : x5_1.size + a1.size ≤ 9223372036854775807
     ·rw [if_pos c5] at H
      have c5b0 := eq_true c5
      have c5b1 : decide (x5_1.size + a1.size ≤ 9223372036854775807) = true := decide_eq_true c5
      try have c5b2 : (9223372036854775807 < x5_1.size + a1.size) = False := eq_false (Nat.not_lt.2 c5)
      by_cases c6 : 0 ≤ x6_1
      ·rw [if_pos c6] at H
       have c6b0 : decide (0 ≤ x6_1) = true := decide_eq_true c6
       clear c6
       by_cases c7 : (x5_1 ++ a1).size + (rdOf ByteArray.empty l0 x6_1).size ≤ 9223372036854775807
       ·rw [if_pos c7] at H
        have c7b0 := eq_true c7
        have c7b1 : decide ((x5_1 ++ a1).size + (rdOf ByteArray.empty l0 x6_1).size ≤ 9223372036854775807) = true := decide_eq_true c7
        try have c7b2 : (9223372036854775807 < (x5_1 ++ a1).size + (rdOf ByteArray.empty l0 x6_1).size) = False := eq_false (Nat.not_lt.2 c7)
        have H' := Aa.mk H
        clear H
        have p171 : 0 ≤ (x6_1 : Int) := of_decide_eq_true zqA
        have q171 : x6_1 < (l0.length : Int) := of_decide_eq_true zqA
        obtain ⟨ad171, e171, hx171_0⟩ := Kd.Ct HR0.out x6_1 p171 q171
        cases e171
        replace p171 := eq_true p171
        replace q171 := eq_true q171
        go_wp2
        go_roundg k1
        case measure => have := HK1.out; omega
        case rel => exact ⟨((x5_1 ++ a1) ++ (rdOf ByteArray.empty l0 x6_1)), (wrap64 (x6_1 + 1)), zqD, zqD, H', ⟨by have := HK1.out; omega⟩, zqF⟩
       ·rw [if_neg c7] at H
        exact absurd H (by simp)
      ·rw [if_neg c6] at H
       exact absurd H (by simp)
     ·rw [if_neg c5] at H
      exact absurd H (by simp)
    ·rw [if_neg c4] at H
     have c4b0 : decide (0 < x6_1) = false := decide_eq_false c4
     clear c4
     by_cases c8 : 0 ≤ x6_1
     ·rw [if_pos c8] at H
      have c8b0 : decide (0 ≤ x6_1) = true := decide_eq_true c8
      clear c8
      by_cases c9 : x5_1.size + (rdOf ByteArray.empty l0 x6_1).size ≤ 9223372036854775807
      ·rw [if_pos c9] at H
       have c9b0 := eq_true c9
       have c9b1 : decide (x5_1.size + (rdOf ByteArray.empty l0 x6_1).size ≤ 9223372036854775807) = true := decide_eq_true c9
       try have c9b2 : (9223372036854775807 < x5_1.size + (rdOf ByteArray.empty l0 x6_1).size) = False := eq_false (Nat.not_lt.2 c9)
       have H' := Aa.mk H
       clear H
       have p172 : 0 ≤ (x6_1 : Int) := of_decide_eq_true zqA
       have q172 : x6_1 < (l0.length : Int) := of_decide_eq_true zqA
       obtain ⟨ad172, e172, hx172_0⟩ := Kd.Ct HR0.out x6_1 p172 q172
       cases e172
       replace p172 := eq_true p172
       replace q172 := eq_true q172
       go_wp2
       go_roundg k1
       case measure => have := HK1.out; omega
       case rel => exact ⟨(x5_1 ++ (rdOf ByteArray.empty l0 x6_1)), (wrap64 (x6_1 + 1)), zqD, zqD, H', ⟨by have := HK1.out; omega⟩, zqF⟩
      ·rw [if_neg c9] at H
       exact absurd H (by simp)
     ·rw [if_neg c8] at H
      exact absurd H (by simp)
   ·rw [if_neg c3] at H
    have c3b0 : decide (x6_1 < (l0.length : Int)) = false := decide_eq_false c3
    clear c3
    obtain rfl := Option.some.inj H
    go_wp2
    go_ret
    exact ⟨zqD, zqF⟩
mutual
def Ak.j0 : Nat → ByteArray → Bool → Option (ByteArray × Int)
 | 0, _, _ => none
 | k + 1, x0, x14 => if x14 = true then (some ((⟨#[]⟩ : ByteArray), 200)) else ((Am.f k x0 47).bind fun t283 => (Ak.l0 k t283 ([] : List ByteArray) 0))
def Ak.l0 : Nat → List ByteArray → List ByteArray → Int → Option (ByteArray × Int)
 | 0, _, _, _ => none
 | k + 1, x4, x5, x6 => if x6 < (x4.length : Int) then (if 0 ≤ x6 then (if (rdOf ByteArray.empty x4 x6).toList = ([] : List UInt8) then (Ak.j2 k x4 x5 x6 (rdOf ByteArray.empty x4 x6) ((rdOf ByteArray.empty x4 x6).toList == ([] : List UInt8))) else (Ak.j2 k x4 x5 x6 (rdOf ByteArray.empty x4 x6) ((rdOf ByteArray.empty x4 x6).toList == ([46] : List UInt8)))) else (none)) else (if (x5.length : Int) = 0 then (some ((⟨#[]⟩ : ByteArray), 200)) else ((Bh.f k x5 (⟨#[47]⟩ : ByteArray)).bind fun t286 => (some (t286, 0))))
def Ak.j2 : Nat → List ByteArray → List ByteArray → Int → ByteArray → Bool → Option (ByteArray × Int)
 | 0, _, _, _, _, _ => none
 | k + 1, x4, x5, x6, x26, x34 => if x34 = true then (Ak.l0 k x4 x5 (wrap64 (x6 + 1))) else (if x26.toList = ([46, 46] : List UInt8) then (if (x5.length : Int) = 0 then (some ((⟨#[]⟩ : ByteArray), 200)) else (if 0 ≤ (wrap64 ((x5.length : Int) - 1)) then (if (wrap64 ((x5.length : Int) - 1)) ≤ (x5.length : Int) then (Ak.l0 k x4 (x5.take ((wrap64 ((x5.length : Int) - 1)) : Int).toNat) (wrap64 (x6 + 1))) else (none)) else (none))) else (if 0 ≤ x6 then (if x6 < (x4.length : Int) then (if x5.length < 8796093022208 then (Ak.l0 k x4 (x5 ++ [rdOf ByteArray.empty x4 x6]) (wrap64 (x6 + 1))) else (none)) else (none)) else (none)))
end
def Ak.f (k : Nat) (a0 : ByteArray) : Option (ByteArray × Int) := (Ag.f k a0).bind fun t282 => (if t282 = true then (if 0 < (a0.size : Int) then (Ak.j0 k a0 ((bt a0 0) == 47)) else (none)) else (Ak.j0 k a0 true))
theorem Ak.mono_l : ∀ k, (∀ y0 y1, LeO (Ak.j0 k y0 y1) (Ak.j0 (k + 1) y0 y1)) ∧ (∀ y0 y1 y2, LeO (Ak.l0 k y0 y1 y2) (Ak.l0 (k + 1) y0 y1 y2)) ∧ (∀ y0 y1 y2 y3 y4, LeO (Ak.j2 k y0 y1 y2 y3 y4) (Ak.j2 (k + 1) y0 y1 y2 y3 y4))
 | 0 => ⟨fun _ _ r h => by simp [Ak.j0] at h, fun _ _ _ r h => by simp [Ak.l0] at h, fun _ _ _ _ _ r h => by simp [Ak.j2] at h⟩
 | k + 1 => by
  obtain ⟨ih0, ih1, ih2⟩ := Ak.mono_l k
  refine ⟨?_, ?_, ?_⟩
  ·intro y0 y1
   unfold Ak.j0
   repeat' first
   | (with_reducible exact ih0 _ _)
   | (with_reducible exact ih1 _ _ _)
   | (with_reducible exact ih2 _ _ _ _ _)
   | (with_reducible exact Bh.mono _ _ _)
   | (with_reducible exact Ag.mono _ _)
   | (with_reducible exact Am.mono _ _ _)
   | (with_reducible exact LeO.refl _)
   | (with_reducible exact LeO.none _)
   | (with_reducible refine LeO.ite ?_ ?_)
   | (with_reducible refine LeO.bind ?_ (fun _ => ?_))
   | exact ih0 _ _
   | exact ih1 _ _ _
   | exact ih2 _ _ _ _ _
   | exact Bh.mono _ _ _
   | exact Ag.mono _ _
   | exact Am.mono _ _ _
   | exact LeO.none _
   | refine LeO.ite ?_ ?_
   | refine LeO.bind ?_ (fun _ => ?_)
  ·intro y0 y1 y2
   unfold Ak.l0
   repeat' first
   | (with_reducible exact ih0 _ _)
   | (with_reducible exact ih1 _ _ _)
   | (with_reducible exact ih2 _ _ _ _ _)
   | (with_reducible exact Bh.mono _ _ _)
   | (with_reducible exact Ag.mono _ _)
   | (with_reducible exact Am.mono _ _ _)
   | (with_reducible exact LeO.refl _)
   | (with_reducible exact LeO.none _)
   | (with_reducible refine LeO.ite ?_ ?_)
   | (with_reducible refine LeO.bind ?_ (fun _ => ?_))
   | exact ih0 _ _
   | exact ih1 _ _ _
   | exact ih2 _ _ _ _ _
   | exact Bh.mono _ _ _
   | exact Ag.mono _ _
   | exact Am.mono _ _ _
   | exact LeO.none _
   | refine LeO.ite ?_ ?_
   | refine LeO.bind ?_ (fun _ => ?_)
  ·intro y0 y1 y2 y3 y4
   unfold Ak.j2
   repeat' first
   | (with_reducible exact ih0 _ _)
   | (with_reducible exact ih1 _ _ _)
   | (with_reducible exact ih2 _ _ _ _ _)
   | (with_reducible exact Bh.mono _ _ _)
   | (with_reducible exact Ag.mono _ _)
   | (with_reducible exact Am.mono _ _ _)
   | (with_reducible exact LeO.refl _)
   | (with_reducible exact LeO.none _)
   | (with_reducible refine LeO.ite ?_ ?_)
   | (with_reducible refine LeO.bind ?_ (fun _ => ?_))
   | exact ih0 _ _
   | exact ih1 _ _ _
   | exact ih2 _ _ _ _ _
   | exact Bh.mono _ _ _
   | exact Ag.mono _ _
   | exact Am.mono _ _ _
   | exact LeO.none _
   | refine LeO.ite ?_ ?_
   | refine LeO.bind ?_ (fun _ => ?_)
theorem Ak.mono : ∀ a0 k, LeO (Ak.f k a0) (Ak.f (k + 1) a0) := by
 intro a0 k
 obtain ⟨ih0, ih1, ih2⟩ := Ak.mono_l k
 unfold Ak.f
 repeat' first
  | (with_reducible exact ih0 _ _)
  | (with_reducible exact ih1 _ _ _)
  | (with_reducible exact ih2 _ _ _ _ _)
  | (with_reducible exact Bh.mono _ _ _)
  | (with_reducible exact Ag.mono _ _)
  | (with_reducible exact Am.mono _ _ _)
  | (with_reducible exact LeO.refl _)
  | (with_reducible exact LeO.none _)
  | (with_reducible refine LeO.ite ?_ ?_)
  | (with_reducible refine LeO.bind ?_ (fun _ => ?_))
  | exact ih0 _ _
  | exact ih1 _ _ _
  | exact ih2 _ _ _ _ _
  | exact Bh.mono _ _ _
  | exact Ag.mono _ _
  | exact Am.mono _ _ _
  | exact LeO.none _
  | refine LeO.ite ?_ ?_
  | refine LeO.bind ?_ (fun _ => ?_)
theorem Ak.calls (k : Nat) (a0 : ByteArray) (r1 : ByteArray) (r2 : Int) (w : World) (h : Ak.f k a0 = some (r1, r2)) :
 Calls Tryz.prog 98 #[.string a0] w fun e w' => e = .returned (.tuple #[.string r1, .int .i64 r2]) ∧ Below w.heap.size w w' := by
 have HB := Aa.mk (Below.refl w.heap.size w)
 have H : ((Ag.f k a0).bind fun t282 => (if t282 = true then (if 0 < (a0.size : Int) then (Ak.j0 k a0 ((bt a0 0) == 47)) else (none)) else (Ak.j0 k a0 true))) = some (r1, r2) := h
 clear h
 have HC2 := Aa.mk H
 clear H
 go_enter Tryz.func98, Tryz.ntmps98
 go_upto_region 1 with (fail)
 go_cut [14] (fun v14 wc => ∃ (kq : Nat) (x14_1 : Bool), v14 = .bool x14_1 ∧ Aa (Ak.j0 kq a0 x14_1 = some (r1, r2)) ∧ Aa (kq ≤ k) ∧ Aa (Below w.heap.size w wc))
 case first =>
  have H := HC2.out
  clear HC2
  replace H := Option.bind_eq_some_iff.mp H
  obtain ⟨t282, A30, H⟩ := H
  replace H : (if t282 = true then (if 0 < (a0.size : Int) then (Ak.j0 k a0 ((bt a0 0) == 47)) else (none)) else (Ak.j0 k a0 true)) = some (r1, r2) := H
  have A3 := Aa.mk A30
  clear A30
  by_cases c4 : t282 = true
  ·subst c4
   have H1 : (if 0 < (a0.size : Int) then (Ak.j0 k a0 ((bt a0 0) == 47)) else (none)) = some (r1, r2) := by rw [if_pos rfl] at H; exact H
   clear H
   have H := H1
   clear H1
   by_cases c5 : 0 < (a0.size : Int)
   ·rw [if_pos c5] at H
    have c5b0 : decide (0 < (a0.size : Int)) = true := decide_eq_true c5
    have c5b1 : decide (0 < a0.size) = true := decide_eq_true (by omega)
    clear c5
    (first | rw [c5b0] | (simp only [G8, i32_w]; rw [c5b0]) | skip)
    have H' := Aa.mk H
    clear H
    go_wp2_with (first | ((with_reducible refine Ck (f := 31) rfl ?_); refine Dx (some 8) rfl rfl Tryz.func31 (by kernel_rfl) rfl #[.string a0] rfl zqC ?_; (with_reducible refine (Ag.calls k a0 true _ A3.out).mono ?_); rintro e w' ⟨rfl, ⟨nd, rfl⟩⟩; refine ⟨_, rfl, ?_⟩; have p6 : 0 ≤ (0 : Int) := (by omega); have q6 : 0 < a0.size := (by have : (0 : Int) < (a0.size : Int) := of_decide_eq_true zqA; omega); have hx6 : ∀ h : 0 < a0.size, ((a0[0]'h).toNat : Int) = bt a0 0 := Eb a0 0; clear p6; have qi6 : (0 < (a0.size : Int)) = True := eq_true (of_decide_eq_true zqA); replace q6 := eq_true q6))
    go_meet
    case rel => exact ⟨_, (((bt a0 0) == 47)), zqD, H', ⟨by first | omega | exact Nat.le_refl _⟩, ⟨zqB⟩⟩
   ·rw [if_neg c5] at H
    exact absurd H (by simp)
  ·replace c4 := Bool.eq_false_iff.mpr c4
   subst c4
   have H1 : (Ak.j0 k a0 true) = some (r1, r2) := by rw [if_neg (show ¬ (false = true) by decide)] at H; exact H
   clear H
   have H := H1
   clear H1
   have H' := Aa.mk H
   clear H
   go_wp2_with (first | ((with_reducible refine Ck (f := 31) rfl ?_); refine Dx (some 8) rfl rfl Tryz.func31 (by kernel_rfl) rfl #[.string a0] rfl zqC ?_; (with_reducible refine (Ag.calls k a0 false _ A3.out).mono ?_); rintro e w' ⟨rfl, ⟨nd, rfl⟩⟩; refine ⟨_, rfl, ?_⟩))
   go_meet
   case rel => exact ⟨_, (true), zqD, H', ⟨by first | omega | exact Nat.le_refl _⟩, ⟨zqB⟩⟩
 case rest =>
  clear HC2
  try clear p2
  try clear c3
  try clear c4
  try clear c5
  try clear c5b0
  try clear c5b1
  try clear p6
  try clear q6
  try clear hx6
  try clear qi6
  try clear p6
  try clear q6
  obtain ⟨kq, x14_1, rfl, HA, HJ1, HB⟩ := hcut
  cases kq with
  | zero => exact absurd HA.out (by simp [Ak.j0])
  | succ kj1 =>
   have H := HA.out
   clear HA
   simp only [Ak.j0] at H
   by_cases c7 : x14_1 = true
   ·subst c7
    have H1 : (some ((⟨#[]⟩ : ByteArray), 200)) = some (r1, r2) := by rw [if_pos rfl] at H; exact H
    clear H
    have H := H1
    clear H1
    simp only [Option.some.injEq, Prod.mk.injEq] at H
    obtain ⟨rfl, rfl⟩ := H
    go_wp2
    go_ret2
    exact ⟨by first | rfl | (simp [Cp, Co] <;> rfl) | (simp [*, Cp, Co] <;> rfl), zqB⟩
   ·replace c7 := Bool.eq_false_iff.mpr c7
    subst c7
    have H1 : ((Am.f kj1 a0 47).bind fun t283 => (Ak.l0 kj1 t283 ([] : List ByteArray) 0)) = some (r1, r2) := by rw [if_neg (show ¬ (false = true) by decide)] at H; exact H
    clear H
    have H := H1
    clear H1
    replace H := Option.bind_eq_some_iff.mp H
    obtain ⟨t283, A80, H⟩ := H
    replace H : (Ak.l0 kj1 t283 ([] : List ByteArray) 0) = some (r1, r2) := H
    have A8 := Aa.mk A80
    clear A80
    have H' := Aa.mk H
    clear H
    go_wp2_with (first | ((with_reducible refine Ck (f := 47) rfl ?_); refine Dx (some 16) rfl rfl Tryz.func47 (by kernel_rfl) rfl #[.string a0, .int .u8 47] rfl zqC ?_; (with_reducible refine (Am.calls kj1 a0 47 t283 _ A8.out).mono ?_); rintro e w9 ⟨v284, rfl, ho0, hb⟩; refine ⟨_, rfl, ?_⟩; have n0_ := Aa.mk (Kd.Dv ho0 (E6 zqB)); have n1_ := Aa.mk (Fu zqB hb); clear HB; have HO285 := n0_; have HB := n1_; clear n0_ n1_; (try clear hb); (try clear hb2); (try clear hk); (try clear hi); (try clear ho0)))
    go_loopg [5, 6] kj1 (fun kq v5 v6 w' => ∃ (x5_2 : List ByteArray) (x6_2 : Int), v6 = .int .i64 x6_2 ∧ Aa (Ak.l0 kq t283 x5_2 x6_2 = some (r1, r2)) ∧ Aa (kq ≤ kj1) ∧ Aa (Kd.R Kd.string 9 w' w.heap.size (fun k_ => some k_ ≠ (v5 : Value).ownBlock) v284 t283) ∧ Aa (Kd.R Kd.string 9 w' w.heap.size (fun k_ => some k_ ≠ (v284 : Value).ownBlock) v5 x5_2) ∧ Aa (Below w.heap.size w w'))
    case atStart => exact ⟨(([] : List ByteArray)), (0), zqD, H', ⟨Nat.le_refl _⟩, ⟨by (with_reducible repeat (first | apply Kd.Cg | apply Kd.Cc | apply Kd.Cs)); exact Kd.De HO285.out (fun _ hk => (by simp [Value.ownBlock]))⟩, ⟨by first | exact Kd.Di _ _ _ _ _ | exact Kd.N_nil _ _ _ _ _ | exact Kd.V_nil _ _ _ _ _ | exact Kd.Q_nil _ _ _ _ _ | exact Kd.S_nil _ _ _ _ _⟩, ⟨zqB⟩⟩
    case round =>
     clear H'
     try clear p2
     try clear c3
     try clear c4
     try clear c5
     try clear c5b0
     try clear c5b1
     try clear p6
     try clear q6
     try clear hx6
     try clear qi6
     try clear c7
     try clear c9
     try clear p2
     try clear p6
     try clear q6
     obtain ⟨x5_2, x6_2, rfl, HA, HK2, HO_4, HO_5, HB⟩ := hrel
     cases gk with
     | zero => exact absurd HA.out (by simp [Ak.l0])
     | succ k2 =>
      have H := HA.out
      clear HA
      simp only [Ak.l0] at H
      by_cases c10 : x6_2 < (t283.length : Int)
      ·rw [if_pos c10] at H
       have c10b0 : decide (x6_2 < (t283.length : Int)) = true := decide_eq_true c10
       clear c10
       by_cases c11 : 0 ≤ x6_2
       ·rw [if_pos c11] at H
        have c11b0 : decide (0 ≤ x6_2) = true := decide_eq_true c11
        clear c11
        have HC12 := Aa.mk H
        clear H
        obtain ⟨Ao13, co13, eo13⟩ := Kd.Bd HO_4.out
        subst eo13
        have p287 : 0 ≤ (x6_2 : Int) := of_decide_eq_true zqA
        have q287 : x6_2 < (t283.length : Int) := of_decide_eq_true zqA
        obtain ⟨ad287, e287, hx287_0⟩ := Kd.Ct (Kd.R_reads' HO_4.out).2.2 x6_2 p287 q287
        cases e287
        replace p287 := eq_true p287
        replace q287 := eq_true q287
        go_upto_if 34 with (fail)
        go_cut [34] (fun v34 wc => ∃ (kq : Nat) (x34_11 : Bool), v34 = .bool x34_11 ∧ Aa (Ak.j2 kq t283 x5_2 x6_2 (rdOf ByteArray.empty t283 x6_2) x34_11 = some (r1, r2)) ∧ Aa (kq ≤ k2) ∧ Aa (Kd.R Kd.string 9 wc w.heap.size (fun k_ => some k_ ≠ (u5 : Value).ownBlock) (.slice (some ad287) t283.length co13) t283) ∧ Aa (Kd.R Kd.string 9 wc w.heap.size (fun k_ => some k_ ≠ ((.slice (some ad287) t283.length co13) : Value).ownBlock) u5 x5_2) ∧ Aa (Below w.heap.size w wc))
        case first =>
         have H := HC12.out
         clear HC12
         by_cases c14 : (rdOf ByteArray.empty t283 x6_2).toList = ([] : List UInt8)
         ·rw [if_pos c14] at H
          have c14b0 : ((rdOf ByteArray.empty t283 x6_2).toList == ([] : List UInt8)) = true := beq_iff_eq.mpr c14
          have c14b1 : ((rdOf ByteArray.empty t283 x6_2).toList != ([] : List UInt8)) = false := bne_eq_false_iff_eq.mpr c14
          clear c14
          (first | rw [c14b0] | (simp only [G8, i32_w]; rw [c14b0]) | skip)
          have H' := Aa.mk H
          clear H
          go_wp2
          all_goals first | (rename_i hx; exact absurd (List.isEmpty_iff.mpr (beq_iff_eq.mp c14b0)) (by rw [hx]; decide)) | (go_meet; case rel => exact ⟨_, (((rdOf ByteArray.empty t283 x6_2).toList == ([] : List UInt8))), zqD, H', ⟨by have := HJ1.out; have := HK2.out; first | omega | exact Nat.le_refl _⟩, ⟨by (with_reducible repeat (first | apply Kd.Cg | apply Kd.Cc | apply Kd.Cs)); exact HO_4.out⟩, ⟨by (with_reducible repeat (first | apply Kd.Cg | apply Kd.Cc | apply Kd.Cs)); exact HO_5.out⟩, ⟨zqB⟩⟩)
         ·rw [if_neg c14] at H
          have c14b0 : ((rdOf ByteArray.empty t283 x6_2).toList == ([] : List UInt8)) = false := beq_eq_false_iff_ne.mpr c14
          have c14b1 : ((rdOf ByteArray.empty t283 x6_2).toList != ([] : List UInt8)) = true := bne_iff_ne.mpr c14
          (first | rw [c14b0] | (simp only [G8, i32_w]; rw [c14b0]) | skip)
          have H' := Aa.mk H
          clear H
          go_wp2
          all_goals first | (rename_i hx; exact absurd (List.isEmpty_iff.mp hx) c14) | (go_meet; case rel => exact ⟨_, (((rdOf ByteArray.empty t283 x6_2).toList == ([46] : List UInt8))), zqD, H', ⟨by have := HJ1.out; have := HK2.out; first | omega | exact Nat.le_refl _⟩, ⟨by (with_reducible repeat (first | apply Kd.Cg | apply Kd.Cc | apply Kd.Cs)); exact HO_4.out⟩, ⟨by (with_reducible repeat (first | apply Kd.Cg | apply Kd.Cc | apply Kd.Cs)); exact HO_5.out⟩, ⟨zqB⟩⟩)
        case rest =>
         clear HC12
         try clear c1
         try clear p2
         try clear q2
         try clear hx2
         try clear c3
         try clear c4
         try clear c5
         try clear c5b0
         try clear c5b1
         try clear p6
         try clear q6
         try clear hx6
         try clear qi6
         try clear c7
         try clear c9
         try clear c10
         try clear c10b0
         try clear c11
         try clear c11b0
         try clear c14
         try clear c14b0
         try clear c14b1
         try clear hx287_0
         try clear p2
         try clear p287
         try clear p6
         try clear q287
         try clear q6
         obtain ⟨kq, x34_11, rfl, HA, HJ11, HO_4, HO_5, HB⟩ := hcut
         cases kq with
         | zero => exact absurd HA.out (by simp [Ak.j2])
         | succ kj11 =>
          have H := HA.out
          clear HA
          simp only [Ak.j2] at H
          by_cases c15 : x34_11 = true
          ·subst c15
           have H1 : (Ak.l0 kj11 t283 x5_2 (wrap64 (x6_2 + 1))) = some (r1, r2) := by rw [if_pos rfl] at H; exact H
           clear H
           have H := H1
           clear H1
           have H' := Aa.mk H
           clear H
           go_wp2
           go_roundg kj11
           case measure => have := HJ1.out; have := HK2.out; have := HJ11.out; omega
           case rel => exact ⟨(x5_2), (wrap64 (x6_2 + 1)), zqD, H', ⟨by have := HJ1.out; have := HK2.out; have := HJ11.out; omega⟩, ⟨by (with_reducible repeat (first | apply Kd.Cg | apply Kd.Cc | apply Kd.Cs)); exact HO_4.out⟩, ⟨by (with_reducible repeat (first | apply Kd.Cg | apply Kd.Cc | apply Kd.Cs)); exact HO_5.out⟩, ⟨zqB⟩⟩
          ·replace c15 := Bool.eq_false_iff.mpr c15
           subst c15
           have H1 : (if (rdOf ByteArray.empty t283 x6_2).toList = ([46, 46] : List UInt8) then (if (x5_2.length : Int) = 0 then (some ((⟨#[]⟩ : ByteArray), 200)) else (if 0 ≤ (wrap64 ((x5_2.length : Int) - 1)) then (if (wrap64 ((x5_2.length : Int) - 1)) ≤ (x5_2.length : Int) then (Ak.l0 kj11 t283 (x5_2.take ((wrap64 ((x5_2.length : Int) - 1)) : Int).toNat) (wrap64 (x6_2 + 1))) else (none)) else (none))) else (if 0 ≤ x6_2 then (if x6_2 < (t283.length : Int) then (if x5_2.length < 8796093022208 then (Ak.l0 kj11 t283 (x5_2 ++ [rdOf ByteArray.empty t283 x6_2]) (wrap64 (x6_2 + 1))) else (none)) else (none)) else (none))) = some (r1, r2) := by rw [if_neg (show ¬ (false = true) by decide)] at H; exact H
           clear H
           have H := H1
           clear H1
           by_cases c16 : (rdOf ByteArray.empty t283 x6_2).toList = ([46, 46] : List UInt8)
           ·rw [if_pos c16] at H
            have c16b0 : ((rdOf ByteArray.empty t283 x6_2).toList == ([46, 46] : List UInt8)) = true := beq_iff_eq.mpr c16
            have c16b1 : ((rdOf ByteArray.empty t283 x6_2).toList != ([46, 46] : List UInt8)) = false := bne_eq_false_iff_eq.mpr c16
            clear c16
            by_cases c17 : (x5_2.length : Int) = 0
            ·rw [if_pos c17] at H
             have c17b0 : ((x5_2.length : Int) == 0) = true := beq_iff_eq.mpr c17
             have c17b1 : ((x5_2.length : Int) != 0) = false := bne_eq_false_iff_eq.mpr c17
             clear c17
             simp only [Option.some.injEq, Prod.mk.injEq] at H
             obtain ⟨rfl, rfl⟩ := H
             obtain ⟨Ao18, co18, eo18⟩ := Kd.Bd HO_5.out
             subst eo18
             go_wp2
             go_ret2
             exact ⟨by first | rfl | (simp [Cp, Co] <;> rfl) | (simp [*, Cp, Co] <;> rfl), zqB⟩
            ·rw [if_neg c17] at H
             have c17b0 : ((x5_2.length : Int) == 0) = false := beq_eq_false_iff_ne.mpr c17
             have c17b1 : ((x5_2.length : Int) != 0) = true := bne_iff_ne.mpr c17
             have c17b2 : ¬ (x5_2 = []) := fun h_ => c17 (by rw [h_]; rfl)
             obtain ⟨ji19, hji19⟩ : ∃ j_ : Int, (wrap64 ((x5_2.length : Int) - 1)) = j_ := ⟨_, rfl⟩
             replace H : (if 0 ≤ (ji19) then (if (ji19) ≤ (x5_2.length : Int) then (Ak.l0 kj11 t283 (x5_2.take ((ji19) : Int).toNat) (wrap64 (x6_2 + 1))) else (none)) else (none)) = some (r1, r2) := by first | (rw [hji19] at H; exact H) | (simp only [hji19] at H ⊢; exact H)
             have hji19w : (IntKind.i64.wrap ((x5_2.length : Int) - 1)) = ji19 := (G8 _).trans hji19
             by_cases c20 : 0 ≤ (ji19)
             ·rw [if_pos c20] at H
              have c20b0 := eq_true c20
              have c20b1 : decide (0 ≤ (ji19)) = true := decide_eq_true c20
              clear c20
              by_cases c21 : (ji19) ≤ (x5_2.length : Int)
              ·rw [if_pos c21] at H
               have c21b0 := eq_true c21
               have c21b1 : decide ((ji19) ≤ (x5_2.length : Int)) = true := decide_eq_true c21
               clear c21
               obtain ⟨y288, hy288⟩ : ∃ y_ : List ByteArray, y_ = (x5_2.take ((ji19) : Int).toNat) := ⟨_, rfl⟩
               replace H : (Ak.l0 kj11 t283 y288 (wrap64 (x6_2 + 1))) = some (r1, r2) := by first | (rw [hy288]; with_reducible exact H) | (have H2_ := (Option.bind_some _ _).symm.trans H; rw [hy288]; with_reducible exact H2_) | (have H2_ := (Option.bind_some _ _).symm.trans H; with_reducible exact H2_) | with_reducible exact H | (rw [hy288]; exact H) | exact H
               have Ny288 := Aa.mk hy288
               clear hy288
               have H' := Aa.mk H
               clear H
               obtain ⟨Ao22, co22, eo22⟩ := Kd.Bd HO_5.out
               subst eo22
               have q23 : ((ji19) : Int) ≤ ((x5_2.length : Int) : Int) := of_decide_eq_true zqA
               obtain ⟨i023, hi023, _, hsz23, _⟩ := info_parts Hh
               have hcut23 := cut_to (P := Tryz.prog) 24 9 .i64 Tryz.underlying24 hi023 Ao22 x5_2.length co22 (ji19) (of_decide_eq_true zqA) q23 (Kd.R_reads' HO_5.out).2.1
               have hr23 := Kd.R_take (m := ((ji19) : Int).toNat) HO_5.out (by omega)
               have hy23 : y288.length = ((ji19) : Int).toNat := (by rw [Ny288.out, List.length_take]; omega)
               rw [← Ny288.out] at hr23
               rw [← hy23] at hr23 hcut23
               clear hy23 hi023 hsz23 HO_5
               have HO290 := Aa.mk hr23
               clear hr23
               replace q23 := eq_true q23
               go_wp2
               go_roundg kj11
               case measure => have := HJ1.out; have := HK2.out; have := HJ11.out; omega
               case rel => exact ⟨(y288), (wrap64 (x6_2 + 1)), zqD, H', ⟨by have := HJ1.out; have := HK2.out; have := HJ11.out; omega⟩, ⟨by (with_reducible repeat (first | apply Kd.Cg | apply Kd.Cc | apply Kd.Cs)); (cases Ao22 <;> exact HO_4.out)⟩, ⟨by (with_reducible repeat (first | apply Kd.Cg | apply Kd.Cc | apply Kd.Cs)); exact HO290.out⟩, ⟨zqB⟩⟩
              ·rw [if_neg c21] at H
               exact absurd H (by simp)
             ·rw [if_neg c20] at H
              exact absurd H (by simp)
           ·rw [if_neg c16] at H
            have c16b0 : ((rdOf ByteArray.empty t283 x6_2).toList == ([46, 46] : List UInt8)) = false := beq_eq_false_iff_ne.mpr c16
            have c16b1 : ((rdOf ByteArray.empty t283 x6_2).toList != ([46, 46] : List UInt8)) = true := bne_iff_ne.mpr c16
            by_cases c24 : 0 ≤ x6_2
            ·rw [if_pos c24] at H
             have c24b0 : decide (0 ≤ x6_2) = true := decide_eq_true c24
             clear c24
             by_cases c25 : x6_2 < (t283.length : Int)
             ·rw [if_pos c25] at H
              have c25b0 : decide (x6_2 < (t283.length : Int)) = true := decide_eq_true c25
              clear c25
              by_cases c26 : x5_2.length < 8796093022208
              ·rw [if_pos c26] at H
               have LMc26 := Aa.mk c26
               clear c26
               obtain ⟨y292, hy292⟩ : ∃ y_ : List ByteArray, y_ = (x5_2 ++ [rdOf ByteArray.empty t283 x6_2]) := ⟨_, rfl⟩
               replace H : (Ak.l0 kj11 t283 y292 (wrap64 (x6_2 + 1))) = some (r1, r2) := by first | (rw [hy292]; with_reducible exact H) | (have H2_ := (Option.bind_some _ _).symm.trans H; rw [hy292]; with_reducible exact H2_) | (have H2_ := (Option.bind_some _ _).symm.trans H; with_reducible exact H2_) | with_reducible exact H | (rw [hy292]; exact H) | exact H
               have Ny292 := Aa.mk hy292
               clear hy292
               have H' := Aa.mk H
               clear H
               have p291 : 0 ≤ (x6_2 : Int) := of_decide_eq_true zqA
               have q291 : x6_2 < (t283.length : Int) := of_decide_eq_true zqA
               obtain ⟨ad291, e291, hx291_0⟩ := Kd.Ct (Kd.R_reads' HO_4.out).2.2 x6_2 p291 q291
               obtain rfl : ad287 = ad291 := (by injection e291)
               replace p291 := eq_true p291
               replace q291 := eq_true q291
               go_wp2_with (first | ((with_reducible refine Cz (b := .append) (xs := #[.tmp 27, .tmp 32]) rfl ?_); at_builtin; refine Kd.Ep Kd.string (w0 := w) w.heap.size rfl (.tmp 27) (.tmp 32) 24 9 (.string ⟨#[]⟩) 16 rfl Tryz.underlying24 Hh rfl (by decide) (by omega) u5 x5_2 (rdOf ByteArray.empty t283 x6_2) [.string (rdOf ByteArray.empty t283 x6_2)] (fun k_ => some k_ ≠ (.slice (some ad287) t283.length co13 : Value).ownBlock) (fun _ => False) rfl rfl ?aP (fun _ hk => hk.elim) ?aF ?aO ?aB ?aS ?aL ?_; (case aP => exact rfl); (case aB => exact zqB); (case aF => exact (fun k_ hk => Kd.fresh' (Kd.R_lt (by (with_reducible repeat (first | apply Kd.Cg | apply Kd.Cc | apply Kd.Cs)); exact HO_4.out)) k_ hk)); (case aO => exact (by (with_reducible repeat (first | apply Kd.Cg | apply Kd.Cc | apply Kd.Cs)); exact HO_5.out)); (case aS => exact (E6 zqB)); (case aL => have := LMc26.out; omega); intro v293 w27 ho hb hg hat; rw [← Ny292.out] at ho; have n0_ := Aa.mk (Kd.R_after (ok := (fun _ => True)) (by (with_reducible repeat (first | apply Kd.Cg | apply Kd.Cc | apply Kd.Cs)); exact Kd.De HO_4.out (fun _ hk => ⟨trivial, hk⟩)) hg hat); have n1_ := Aa.mk (hb); have n2_ := Aa.mk (ho); clear HO_4; clear HB; clear HO_5; have HO_4 := n0_; have HB := n1_; have HO294 := n2_; clear n0_ n1_ n2_; clear ho hb hg hat))
               go_roundg kj11
               case measure => have := HJ1.out; have := HK2.out; have := HJ11.out; omega
               case rel => exact ⟨(y292), (wrap64 (x6_2 + 1)), zqD, H', ⟨by have := HJ1.out; have := HK2.out; have := HJ11.out; omega⟩, ⟨by (with_reducible repeat (first | apply Kd.Cg | apply Kd.Cc | apply Kd.Cs)); exact Kd.De HO_4.out (fun _ hk => hk.2)⟩, ⟨by (with_reducible repeat (first | apply Kd.Cg | apply Kd.Cc | apply Kd.Cs)); exact HO294.out⟩, ⟨zqB⟩⟩
              ·rw [if_neg c26] at H
               exact absurd H (by simp)
             ·rw [if_neg c25] at H
              exact absurd H (by simp)
            ·rw [if_neg c24] at H
             exact absurd H (by simp)
       ·rw [if_neg c11] at H
        exact absurd H (by simp)
      ·rw [if_neg c10] at H
       have c10b0 : decide (x6_2 < (t283.length : Int)) = false := decide_eq_false c10
       clear c10
       by_cases c28 : (x5_2.length : Int) = 0
       ·rw [if_pos c28] at H
        have c28b0 : ((x5_2.length : Int) == 0) = true := beq_iff_eq.mpr c28
        have c28b1 : ((x5_2.length : Int) != 0) = false := bne_eq_false_iff_eq.mpr c28
        clear c28
        simp only [Option.some.injEq, Prod.mk.injEq] at H
        obtain ⟨rfl, rfl⟩ := H
        obtain ⟨Ao29, co29, eo29⟩ := Kd.Bd HO_4.out
        subst eo29
        obtain ⟨Ao30, co30, eo30⟩ := Kd.Bd HO_5.out
        subst eo30
        go_wp2
        go_ret2
        exact ⟨by first | rfl | (simp [Cp, Co] <;> rfl) | (simp [*, Cp, Co] <;> rfl), zqB⟩
       ·rw [if_neg c28] at H
        have c28b0 : ((x5_2.length : Int) == 0) = false := beq_eq_false_iff_ne.mpr c28
        have c28b1 : ((x5_2.length : Int) != 0) = true := bne_iff_ne.mpr c28
        have c28b2 : ¬ (x5_2 = []) := fun h_ => c28 (by rw [h_]; rfl)
        replace H := Option.bind_eq_some_iff.mp H
        obtain ⟨t286, A310, H⟩ := H
        replace H : (some (t286, 0)) = some (r1, r2) := H
        have A31 := Aa.mk A310
        clear A310
        simp only [Option.some.injEq, Prod.mk.injEq] at H
        obtain ⟨rfl, rfl⟩ := H
        obtain ⟨Ao32, co32, eo32⟩ := Kd.Bd HO_4.out
        subst eo32
        obtain ⟨Ao33, co33, eo33⟩ := Kd.Bd HO_5.out
        subst eo33
        go_wp2_with (first | ((with_reducible refine Ck (f := 96) rfl ?_); refine Dx (some 51) rfl rfl Tryz.func96 (by kernel_rfl) rfl #[.slice Ao33 x5_2.length co33, .string (⟨#[47]⟩ : ByteArray)] rfl zqC ?_; (with_reducible refine (Bh.calls k2 _ _ x5_2 (⟨#[47]⟩ : ByteArray) t286 _ ?side1 ?side2 A31.out).mono ?_); (case side1 => repeat (first | exact (Kd.R_reads' HO_5.out).2.2 | (with_reducible refine Kd.Gg ?_ _) | (with_reducible refine Kd.Ht ?_ _) | (with_reducible refine Kd.C_drew ?_))); (case side2 => exact (Kd.R_reads' HO_5.out).2.1); rintro e w' ⟨rfl, ⟨nd, rfl⟩⟩; refine ⟨_, rfl, ?_⟩))
        go_ret2
        exact ⟨by first | rfl | (simp [Cp, Co] <;> rfl) | (simp [*, Cp, Co] <;> rfl), zqB⟩
def Ba.l0 : Nat → ByteArray → Int → Option (Bool)
 | 0, _, _ => none
 | k + 1, x0, x3 => if x3 < (x0.size : Int) then (if 0 ≤ (wrap64 ((wrap64 ((x0.size : Int) - 1)) - x3)) then (if (wrap64 ((wrap64 ((x0.size : Int) - 1)) - x3)) < (x0.size : Int) then (if (bt x0 (wrap64 ((wrap64 ((x0.size : Int) - 1)) - x3))) = 36 then (Ba.l0 k x0 (wrap64 (x3 + 1))) else (some ((Int.tmod x3 2) == 1))) else (none)) else (none)) else (some ((Int.tmod x3 2) == 1))
def Ba.f (k : Nat) (a0 : ByteArray) : Option (Bool) := Ba.l0 k a0 0
theorem Ba.mono_l : ∀ k, (∀ y0 y1, LeO (Ba.l0 k y0 y1) (Ba.l0 (k + 1) y0 y1))
 | 0 => fun _ _ r h => by simp [Ba.l0] at h
 | k + 1 => by
  have ih0 := Ba.mono_l k
  ·intro y0 y1
   unfold Ba.l0
   repeat' first
   | (with_reducible exact ih0 _ _)
   | (with_reducible exact LeO.refl _)
   | (with_reducible exact LeO.none _)
   | (with_reducible refine LeO.ite ?_ ?_)
   | (with_reducible refine LeO.bind ?_ (fun _ => ?_))
   | exact ih0 _ _
   | exact LeO.none _
   | refine LeO.ite ?_ ?_
   | refine LeO.bind ?_ (fun _ => ?_)
theorem Ba.mono : ∀ a0 k, LeO (Ba.f k a0) (Ba.f (k + 1) a0) := by
 intro a0 k
 have ih0 := Ba.mono_l k
 unfold Ba.f
 repeat' first
  | (with_reducible exact ih0 _ _)
  | (with_reducible exact LeO.refl _)
  | (with_reducible exact LeO.none _)
  | (with_reducible refine LeO.ite ?_ ?_)
  | (with_reducible refine LeO.bind ?_ (fun _ => ?_))
  | exact ih0 _ _
  | exact LeO.none _
  | refine LeO.ite ?_ ?_
  | refine LeO.bind ?_ (fun _ => ?_)
theorem Ba.calls (k : Nat) (a0 : ByteArray) (r : Bool) (w : World) (h : Ba.f k a0 = some r) :
 Calls Tryz.prog 49 #[.string a0] w fun e w' => e = .returned (.bool r) ∧ Ch w w' := by
 have H : (Ba.l0 k a0 0) = some r := h
 clear h
 have H' := Aa.mk H
 clear H
 go_enter Tryz.func49, Tryz.ntmps49
 go_wp2
 go_loopg [3] k (fun kq v3 w' => ∃ (x3_1 : Int), v3 = .int .i64 x3_1 ∧ Aa (Ba.l0 kq a0 x3_1 = some r) ∧ Aa (kq ≤ k) ∧ Ch w w')
 case atStart => exact ⟨(0), zqD, H', ⟨Nat.le_refl _⟩, zqF⟩
 case round =>
  clear H'
  obtain ⟨x3_1, rfl, HA, HK1, ⟨m1, rfl⟩⟩ := hrel
  cases gk with
  | zero => exact absurd HA.out (by simp [Ba.l0])
  | succ k1 =>
   have H := HA.out
   clear HA
   simp only [Ba.l0] at H
   by_cases c2 : x3_1 < (a0.size : Int)
   ·rw [if_pos c2] at H
    have c2b0 : decide (x3_1 < (a0.size : Int)) = true := decide_eq_true c2
    clear c2
    obtain ⟨ji3, hji3⟩ : ∃ j_ : Int, (wrap64 ((wrap64 ((a0.size : Int) - 1)) - x3_1)) = j_ := ⟨_, rfl⟩
    replace H : (if 0 ≤ (ji3) then (if (ji3) < (a0.size : Int) then (if (bt a0 (ji3)) = 36 then (Ba.l0 k1 a0 (wrap64 (x3_1 + 1))) else (some ((Int.tmod x3_1 2) == 1))) else (none)) else (none)) = some r := by first | (rw [hji3] at H; exact H) | (simp only [hji3] at H ⊢; exact H)
    have hji3w : (IntKind.i64.wrap ((wrap64 ((a0.size : Int) - 1)) - x3_1)) = ji3 := (G8 _).trans hji3
    by_cases c4 : 0 ≤ (ji3)
    ·rw [if_pos c4] at H
     have c4b0 : decide (0 ≤ (ji3)) = true := decide_eq_true c4
     clear c4
     by_cases c5 : (ji3) < (a0.size : Int)
     ·rw [if_pos c5] at H
      have c5b0 : decide ((ji3) < (a0.size : Int)) = true := decide_eq_true c5
      clear c5
      by_cases c7 : (bt a0 (ji3)) = 36
      ·rw [if_pos c7] at H
       have c7b0 : ((bt a0 (ji3)) == 36) = true := beq_iff_eq.mpr c7
       have c7b1 : ((bt a0 (ji3)) != 36) = false := bne_eq_false_iff_eq.mpr c7
       clear c7
       have H' := Aa.mk H
       clear H
       have p6 : 0 ≤ ((ji3) : Int) := of_decide_eq_true zqA
       have q6 : (ji3) < (a0.size : Int) := of_decide_eq_true zqA
       have hx6 := Eb a0 (ji3)
       replace p6 := eq_true p6
       replace q6 := eq_true q6
       go_wp2
       go_roundg k1
       case measure => have := HK1.out; omega
       case rel => exact ⟨(wrap64 (x3_1 + 1)), zqD, H', ⟨by have := HK1.out; omega⟩, zqF⟩
      ·rw [if_neg c7] at H
       have c7b0 : ((bt a0 (ji3)) == 36) = false := beq_eq_false_iff_ne.mpr c7
       have c7b1 : ((bt a0 (ji3)) != 36) = true := bne_iff_ne.mpr c7
       obtain rfl := Option.some.inj H
       have p6 : 0 ≤ ((ji3) : Int) := of_decide_eq_true zqA
       have q6 : (ji3) < (a0.size : Int) := of_decide_eq_true zqA
       have hx6 := Eb a0 (ji3)
       replace p6 := eq_true p6
       replace q6 := eq_true q6
       go_wp2
       go_ret
       exact ⟨by first | rfl | (simp; done) | (simp only [← hji3] <;> (first | rfl | simp)) | (simp [*]; done), zqF⟩
     ·rw [if_neg c5] at H
      exact absurd H (by simp)
    ·rw [if_neg c4] at H
     exact absurd H (by simp)
   ·rw [if_neg c2] at H
    have c2b0 : decide (x3_1 < (a0.size : Int)) = false := decide_eq_false c2
    clear c2
    obtain rfl := Option.some.inj H
    go_wp2
    go_ret
    exact ⟨zqD, zqF⟩
def Ay.l0 : Nat → ByteArray → Option (ByteArray)
 | 0, _ => none
 | k + 1, x0 => if (x0.size : Int) > 0 then (if 0 < (x0.size : Int) then (if (bt x0 0) = 32 then (if 1 ≤ (x0.size : Int) then (Ay.l0 k (x0.extract 1 x0.size)) else (none)) else (some x0)) else (none)) else (some x0)
def Ay.f (k : Nat) (a0 : ByteArray) : Option (ByteArray) := Ay.l0 k a0
theorem Ay.mono_l : ∀ k, (∀ y0, LeO (Ay.l0 k y0) (Ay.l0 (k + 1) y0))
 | 0 => fun _ r h => by simp [Ay.l0] at h
 | k + 1 => by
  have ih0 := Ay.mono_l k
  ·intro y0
   unfold Ay.l0
   repeat' first
   | (with_reducible exact ih0 _)
   | (with_reducible exact LeO.refl _)
   | (with_reducible exact LeO.none _)
   | (with_reducible refine LeO.ite ?_ ?_)
   | (with_reducible refine LeO.bind ?_ (fun _ => ?_))
   | exact ih0 _
   | exact LeO.none _
   | refine LeO.ite ?_ ?_
   | refine LeO.bind ?_ (fun _ => ?_)
theorem Ay.mono : ∀ a0 k, LeO (Ay.f k a0) (Ay.f (k + 1) a0) := by
 intro a0 k
 have ih0 := Ay.mono_l k
 unfold Ay.f
 repeat' first
  | (with_reducible exact ih0 _)
  | (with_reducible exact LeO.refl _)
  | (with_reducible exact LeO.none _)
  | (with_reducible refine LeO.ite ?_ ?_)
  | (with_reducible refine LeO.bind ?_ (fun _ => ?_))
  | exact ih0 _
  | exact LeO.none _
  | refine LeO.ite ?_ ?_
  | refine LeO.bind ?_ (fun _ => ?_)
theorem Ay.calls (k : Nat) (a0 : ByteArray) (r : ByteArray) (w : World) (h : Ay.f k a0 = some r) :
 Calls Tryz.prog 50 #[.string a0] w fun e w' => e = .returned (.string r) ∧ Ch w w' := by
 have H : (Ay.l0 k a0) = some r := h
 clear h
 have H' := Aa.mk H
 clear H
 go_enter Tryz.func50, Tryz.ntmps50
 go_wp2
 go_loopg [0] k (fun kq v0 w' => ∃ (x0_1 : ByteArray), v0 = .string x0_1 ∧ Aa (Ay.l0 kq x0_1 = some r) ∧ Aa (kq ≤ k) ∧ Ch w w')
 case atStart => exact ⟨(a0), zqD, H', ⟨Nat.le_refl _⟩, zqF⟩
 case round =>
  clear H'
  obtain ⟨x0_1, rfl, HA, HK1, ⟨m1, rfl⟩⟩ := hrel
  cases gk with
  | zero => exact absurd HA.out (by simp [Ay.l0])
  | succ k1 =>
   have H := HA.out
   clear HA
   simp only [Ay.l0] at H
   by_cases c2 : (x0_1.size : Int) > 0
   ·rw [if_pos c2] at H
    have c2b0 : decide (0 < (x0_1.size : Int)) = true := decide_eq_true c2
    have c2b1 : decide (0 < x0_1.size) = true := decide_eq_true (by omega)
    clear c2
    by_cases c3 : 0 < (x0_1.size : Int)
    ·rw [if_pos c3] at H
     have c3b0 : decide (0 < (x0_1.size : Int)) = true := decide_eq_true c3
     have c3b1 : decide (0 < x0_1.size) = true := decide_eq_true (by omega)
     clear c3
     by_cases c5 : (bt x0_1 0) = 32
     ·rw [if_pos c5] at H
      have c5b0 : ((bt x0_1 0) == 32) = true := beq_iff_eq.mpr c5
      have c5b1 : ((bt x0_1 0) != 32) = false := bne_eq_false_iff_eq.mpr c5
      clear c5
      by_cases c6 : 1 ≤ (x0_1.size : Int)
      ·rw [if_pos c6] at H
       have c6b0 := eq_true c6
       have c6b1 : decide (1 ≤ (x0_1.size : Int)) = true := decide_eq_true c6
       clear c6
       have H' := Aa.mk H
       clear H
       have p4 : 0 ≤ (0 : Int) := (by omega)
       have q4 : 0 < x0_1.size := (by have : (0 : Int) < (x0_1.size : Int) := of_decide_eq_true zqA; omega)
       have hx4 : ∀ h : 0 < x0_1.size, ((x0_1[0]'h).toNat : Int) = bt x0_1 0 := Eb x0_1 0
       clear p4
       have qi4 : (0 < (x0_1.size : Int)) = True := eq_true (of_decide_eq_true zqA)
       replace q4 := eq_true q4
       go_wp2
       go_roundg k1
       case measure => have := HK1.out; omega
       case rel => exact ⟨(x0_1.extract 1 x0_1.size), zqD, H', ⟨by have := HK1.out; omega⟩, zqF⟩
      ·rw [if_neg c6] at H
       exact absurd H (by simp)
     ·rw [if_neg c5] at H
      have c5b0 : ((bt x0_1 0) == 32) = false := beq_eq_false_iff_ne.mpr c5
      have c5b1 : ((bt x0_1 0) != 32) = true := bne_iff_ne.mpr c5
      obtain rfl := Option.some.inj H
      have p4 : 0 ≤ (0 : Int) := (by omega)
      have q4 : 0 < x0_1.size := (by have : (0 : Int) < (x0_1.size : Int) := of_decide_eq_true zqA; omega)
      have hx4 : ∀ h : 0 < x0_1.size, ((x0_1[0]'h).toNat : Int) = bt x0_1 0 := Eb x0_1 0
      clear p4
      have qi4 : (0 < (x0_1.size : Int)) = True := eq_true (of_decide_eq_true zqA)
      replace q4 := eq_true q4
      go_wp2
      go_ret
      exact ⟨zqD, zqF⟩
    ·rw [if_neg c3] at H
     exact absurd H (by simp)
   ·rw [if_neg c2] at H
    have c2b0 : decide (0 < (x0_1.size : Int)) = false := decide_eq_false c2
    have c2b1 : decide (0 < x0_1.size) = false := decide_eq_false (by omega)
    clear c2
    obtain rfl := Option.some.inj H
    go_wp2
    go_ret
    exact ⟨zqD, zqF⟩
def Au.l0 : Nat → ByteArray → Option (ByteArray)
 | 0, _ => none
 | k + 1, x0 => if (x0.size : Int) > 0 then (if 0 ≤ (wrap64 ((x0.size : Int) - 1)) then (if (wrap64 ((x0.size : Int) - 1)) < (x0.size : Int) then (if (bt x0 (wrap64 ((x0.size : Int) - 1))) = 32 then (if (wrap64 ((x0.size : Int) - 1)) ≤ (x0.size : Int) then (Au.l0 k (x0.extract 0 ((wrap64 ((x0.size : Int) - 1)) : Int).toNat)) else (none)) else (some x0)) else (none)) else (none)) else (some x0)
def Au.f (k : Nat) (a0 : ByteArray) : Option (ByteArray) := (Ay.f k a0).bind fun t107 => (Au.l0 k t107)
theorem Au.mono_l : ∀ k, (∀ y0, LeO (Au.l0 k y0) (Au.l0 (k + 1) y0))
 | 0 => fun _ r h => by simp [Au.l0] at h
 | k + 1 => by
  have ih0 := Au.mono_l k
  ·intro y0
   unfold Au.l0
   repeat' first
   | (with_reducible exact ih0 _)
   | (with_reducible exact Ay.mono _ _)
   | (with_reducible exact LeO.refl _)
   | (with_reducible exact LeO.none _)
   | (with_reducible refine LeO.ite ?_ ?_)
   | (with_reducible refine LeO.bind ?_ (fun _ => ?_))
   | exact ih0 _
   | exact Ay.mono _ _
   | exact LeO.none _
   | refine LeO.ite ?_ ?_
   | refine LeO.bind ?_ (fun _ => ?_)
theorem Au.mono : ∀ a0 k, LeO (Au.f k a0) (Au.f (k + 1) a0) := by
 intro a0 k
 have ih0 := Au.mono_l k
 unfold Au.f
 repeat' first
  | (with_reducible exact ih0 _)
  | (with_reducible exact Ay.mono _ _)
  | (with_reducible exact LeO.refl _)
  | (with_reducible exact LeO.none _)
  | (with_reducible refine LeO.ite ?_ ?_)
  | (with_reducible refine LeO.bind ?_ (fun _ => ?_))
  | exact ih0 _
  | exact Ay.mono _ _
  | exact LeO.none _
  | refine LeO.ite ?_ ?_
  | refine LeO.bind ?_ (fun _ => ?_)
theorem Au.calls (k : Nat) (a0 : ByteArray) (r : ByteArray) (w : World) (h : Au.f k a0 = some r) :
 Calls Tryz.prog 51 #[.string a0] w fun e w' => e = .returned (.string r) ∧ Ch w w' := by
 have H : ((Ay.f k a0).bind fun t107 => (Au.l0 k t107)) = some r := h
 clear h
 replace H := Option.bind_eq_some_iff.mp H
 obtain ⟨t107, A20, H⟩ := H
 replace H : (Au.l0 k t107) = some r := H
 have A2 := Aa.mk A20
 clear A20
 have H' := Aa.mk H
 clear H
 go_enter Tryz.func51, Tryz.ntmps51
 go_wp2_with (first | ((with_reducible refine Ck (f := 50) rfl ?_); refine Dx (some 4) rfl rfl Tryz.func50 (by kernel_rfl) rfl #[.string a0] rfl zqC ?_; (with_reducible refine (Ay.calls k a0 t107 _ A2.out).mono ?_); rintro e w' ⟨rfl, ⟨nd, rfl⟩⟩; refine ⟨_, rfl, ?_⟩))
 go_loopg [0] k (fun kq v0 w' => ∃ (x0_1 : ByteArray), v0 = .string x0_1 ∧ Aa (Au.l0 kq x0_1 = some r) ∧ Aa (kq ≤ k) ∧ Ch w w')
 case atStart => exact ⟨(t107), zqD, H', ⟨Nat.le_refl _⟩, zqF⟩
 case round =>
  clear H'
  try clear p2
  obtain ⟨x0_1, rfl, HA, HK1, ⟨m1, rfl⟩⟩ := hrel
  cases gk with
  | zero => exact absurd HA.out (by simp [Au.l0])
  | succ k1 =>
   have H := HA.out
   clear HA
   simp only [Au.l0] at H
   by_cases c3 : (x0_1.size : Int) > 0
   ·rw [if_pos c3] at H
    have c3b0 : decide (0 < (x0_1.size : Int)) = true := decide_eq_true c3
    have c3b1 : decide (0 < x0_1.size) = true := decide_eq_true (by omega)
    clear c3
    obtain ⟨ji4, hji4⟩ : ∃ j_ : Int, (wrap64 ((x0_1.size : Int) - 1)) = j_ := ⟨_, rfl⟩
    replace H : (if 0 ≤ (ji4) then (if (ji4) < (x0_1.size : Int) then (if (bt x0_1 (ji4)) = 32 then (if (ji4) ≤ (x0_1.size : Int) then (Au.l0 k1 (x0_1.extract 0 ((ji4) : Int).toNat)) else (none)) else (some x0_1)) else (none)) else (none)) = some r := by first | (rw [hji4] at H; exact H) | (simp only [hji4] at H ⊢; exact H)
    have hji4w : (IntKind.i64.wrap ((x0_1.size : Int) - 1)) = ji4 := (G8 _).trans hji4
    by_cases c5 : 0 ≤ (ji4)
    ·rw [if_pos c5] at H
     have c5b0 : decide (0 ≤ (ji4)) = true := decide_eq_true c5
     clear c5
     by_cases c6 : (ji4) < (x0_1.size : Int)
     ·rw [if_pos c6] at H
      have c6b0 : decide ((ji4) < (x0_1.size : Int)) = true := decide_eq_true c6
      clear c6
      by_cases c8 : (bt x0_1 (ji4)) = 32
      ·rw [if_pos c8] at H
       have c8b0 : ((bt x0_1 (ji4)) == 32) = true := beq_iff_eq.mpr c8
       have c8b1 : ((bt x0_1 (ji4)) != 32) = false := bne_eq_false_iff_eq.mpr c8
       clear c8
       have c9b0 := eq_true (of_decide_eq_true zqA : 0 ≤ (ji4))
       by_cases c10 : (ji4) ≤ (x0_1.size : Int)
       ·rw [if_pos c10] at H
        have c10b0 := eq_true c10
        have c10b1 : decide ((ji4) ≤ (x0_1.size : Int)) = true := decide_eq_true c10
        clear c10
        have H' := Aa.mk H
        clear H
        have p7 : 0 ≤ ((ji4) : Int) := of_decide_eq_true zqA
        have q7 : (ji4) < (x0_1.size : Int) := of_decide_eq_true zqA
        have hx7 := Eb x0_1 (ji4)
        replace p7 := eq_true p7
        replace q7 := eq_true q7
        go_wp2
        go_roundg k1
        case measure => have := HK1.out; omega
        case rel => exact ⟨(x0_1.extract 0 ((ji4) : Int).toNat), (by first | rfl | (simp; done) | (simp only [← hji4] <;> (first | rfl | simp)) | (simp [*]; done)), H', ⟨by have := HK1.out; omega⟩, zqF⟩
       ·rw [if_neg c10] at H
        exact absurd H (by simp)
      ·rw [if_neg c8] at H
       have c8b0 : ((bt x0_1 (ji4)) == 32) = false := beq_eq_false_iff_ne.mpr c8
       have c8b1 : ((bt x0_1 (ji4)) != 32) = true := bne_iff_ne.mpr c8
       obtain rfl := Option.some.inj H
       have p7 : 0 ≤ ((ji4) : Int) := of_decide_eq_true zqA
       have q7 : (ji4) < (x0_1.size : Int) := of_decide_eq_true zqA
       have hx7 := Eb x0_1 (ji4)
       replace p7 := eq_true p7
       replace q7 := eq_true q7
       go_wp2
       go_ret
       exact ⟨by first | rfl | (simp; done) | (simp only [← hji4] <;> (first | rfl | simp)) | (simp [*]; done), zqF⟩
     ·rw [if_neg c6] at H
      exact absurd H (by simp)
    ·rw [if_neg c5] at H
     exact absurd H (by simp)
   ·rw [if_neg c3] at H
    have c3b0 : decide (0 < (x0_1.size : Int)) = false := decide_eq_false c3
    have c3b1 : decide (0 < x0_1.size) = false := decide_eq_false (by omega)
    clear c3
    obtain rfl := Option.some.inj H
    go_wp2
    go_ret
    exact ⟨zqD, zqF⟩
mutual
def Ah.j0 : Nat → ByteArray → Bool → Option ((List (S59)) × Int)
 | 0, _, _ => none
 | k + 1, x0, x26 => if x26 = true then (some (([] : List (S59)), 600)) else ((Am.f k x0 10).bind fun t108 => (if 0 ≤ (wrap64 ((t108.length : Int) - 1)) then (if (wrap64 ((t108.length : Int) - 1)) ≤ (t108.length : Int) then (Ah.l0 k (t108.take ((wrap64 ((t108.length : Int) - 1)) : Int).toNat) 0) else (none)) else (none)))
def Ah.l0 : Nat → List ByteArray → Int → Option ((List (S59)) × Int)
 | 0, _, _ => none
 | k + 1, x4, x5 => if x5 < (x4.length : Int) then (if 0 ≤ x5 then ((An.f k (rdOf ByteArray.empty x4 x5) 0 2048).bind fun t115 => (if t115 = true then (Ah.l0 k x4 (wrap64 (x5 + 1))) else (some (([] : List (S59)), 600)))) else (none)) else (Ah.l1 k x4 ([] : List (S59)) 0)
def Ah.l1 : Nat → List ByteArray → List (S59) → Int → Option ((List (S59)) × Int)
 | 0, _, _, _ => none
 | k + 1, x4, x6, x7 => if x7 < (x4.length : Int) then (if 0 ≤ x7 then (Ah.l2 k x4 x6 x7 (rdOf ByteArray.empty x4 x7) (rdOf ByteArray.empty x4 x7)) else (none)) else (some (x6, 0))
def Ah.l2 : Nat → List ByteArray → List (S59) → Int → ByteArray → ByteArray → Option ((List (S59)) × Int)
 | 0, _, _, _, _, _ => none
 | k + 1, x4, x6, x7, x8, x9 => (Ba.f k x9).bind fun t117 => (if t117 = true then (if (wrap64 (x7 + 1)) = (x4.length : Int) then (some (([] : List (S59)), 600)) else (if 0 ≤ (wrap64 (x7 + 1)) then (if (wrap64 (x7 + 1)) < (x4.length : Int) then ((Ay.f k (rdOf ByteArray.empty x4 (wrap64 (x7 + 1)))).bind fun t119 => (if 0 ≤ (wrap64 ((x8.size : Int) - 1)) then (if (wrap64 ((x8.size : Int) - 1)) ≤ (x8.size : Int) then (if (x8.extract 0 ((wrap64 ((x8.size : Int) - 1)) : Int).toNat).size + t119.size ≤ 9223372036854775807 then (Ah.l2 k x4 x6 (wrap64 (x7 + 1)) ((x8.extract 0 ((wrap64 ((x8.size : Int) - 1)) : Int).toNat) ++ t119) t119) else (none)) else (none)) else (none))) else (none)) else (none))) else ((Au.f k x8).bind fun t120 => (if t120.toList = ([] : List UInt8) then (Ah.l1 k x4 x6 (wrap64 (x7 + 1))) else (if 0 < (t120.size : Int) then (if (bt t120 0) = 35 then (Ah.l1 k x4 x6 (wrap64 (x7 + 1))) else (if 0 < (x8.size : Int) then (if x6.length < 5864062014805 then (Ah.l1 k x4 (x6 ++ [(⟨((bt x8 0) == 32), t120⟩ : S59)]) (wrap64 (x7 + 1))) else (none)) else (none))) else (none)))))
end
def Ah.f (k : Nat) (a0 : ByteArray) : Option ((List (S59)) × Int) := if (a0.size : Int) > 2048 then (Ah.j0 k a0 true) else (if (a0.size : Int) > 0 then (if 0 ≤ (wrap64 ((a0.size : Int) - 1)) then (if (wrap64 ((a0.size : Int) - 1)) < (a0.size : Int) then (Ah.j0 k a0 ((bt a0 (wrap64 ((a0.size : Int) - 1))) != 10)) else (none)) else (none)) else (Ah.j0 k a0 false))
theorem Ah.mono_l : ∀ k, (∀ y0 y1, LeO (Ah.j0 k y0 y1) (Ah.j0 (k + 1) y0 y1)) ∧ (∀ y0 y1, LeO (Ah.l0 k y0 y1) (Ah.l0 (k + 1) y0 y1)) ∧ (∀ y0 y1 y2, LeO (Ah.l1 k y0 y1 y2) (Ah.l1 (k + 1) y0 y1 y2)) ∧ (∀ y0 y1 y2 y3 y4, LeO (Ah.l2 k y0 y1 y2 y3 y4) (Ah.l2 (k + 1) y0 y1 y2 y3 y4))
 | 0 => ⟨fun _ _ r h => by simp [Ah.j0] at h, fun _ _ r h => by simp [Ah.l0] at h, fun _ _ _ r h => by simp [Ah.l1] at h, fun _ _ _ _ _ r h => by simp [Ah.l2] at h⟩
 | k + 1 => by
  obtain ⟨ih0, ih1, ih2, ih3⟩ := Ah.mono_l k
  refine ⟨?_, ?_, ?_, ?_⟩
  ·intro y0 y1
   unfold Ah.j0
   repeat' first
   | (with_reducible exact ih0 _ _)
   | (with_reducible exact ih1 _ _)
   | (with_reducible exact ih2 _ _ _)
   | (with_reducible exact ih3 _ _ _ _ _)
   | (with_reducible exact An.mono _ _ _ _)
   | (with_reducible exact Ay.mono _ _)
   | (with_reducible exact Ba.mono _ _)
   | (with_reducible exact Am.mono _ _ _)
   | (with_reducible exact Au.mono _ _)
   | (with_reducible exact LeO.refl _)
   | (with_reducible exact LeO.none _)
   | (with_reducible refine LeO.ite ?_ ?_)
   | (with_reducible refine LeO.bind ?_ (fun _ => ?_))
   | exact ih0 _ _
   | exact ih1 _ _
   | exact ih2 _ _ _
   | exact ih3 _ _ _ _ _
   | exact An.mono _ _ _ _
   | exact Ay.mono _ _
   | exact Ba.mono _ _
   | exact Am.mono _ _ _
   | exact Au.mono _ _
   | exact LeO.none _
   | refine LeO.ite ?_ ?_
   | refine LeO.bind ?_ (fun _ => ?_)
  ·intro y0 y1
   unfold Ah.l0
   repeat' first
   | (with_reducible exact ih0 _ _)
   | (with_reducible exact ih1 _ _)
   | (with_reducible exact ih2 _ _ _)
   | (with_reducible exact ih3 _ _ _ _ _)
   | (with_reducible exact An.mono _ _ _ _)
   | (with_reducible exact Ay.mono _ _)
   | (with_reducible exact Ba.mono _ _)
   | (with_reducible exact Am.mono _ _ _)
   | (with_reducible exact Au.mono _ _)
   | (with_reducible exact LeO.refl _)
   | (with_reducible exact LeO.none _)
   | (with_reducible refine LeO.ite ?_ ?_)
   | (with_reducible refine LeO.bind ?_ (fun _ => ?_))
   | exact ih0 _ _
   | exact ih1 _ _
   | exact ih2 _ _ _
   | exact ih3 _ _ _ _ _
   | exact An.mono _ _ _ _
   | exact Ay.mono _ _
   | exact Ba.mono _ _
   | exact Am.mono _ _ _
   | exact Au.mono _ _
   | exact LeO.none _
   | refine LeO.ite ?_ ?_
   | refine LeO.bind ?_ (fun _ => ?_)
  ·intro y0 y1 y2
   unfold Ah.l1
   repeat' first
   | (with_reducible exact ih0 _ _)
   | (with_reducible exact ih1 _ _)
   | (with_reducible exact ih2 _ _ _)
   | (with_reducible exact ih3 _ _ _ _ _)
   | (with_reducible exact An.mono _ _ _ _)
   | (with_reducible exact Ay.mono _ _)
   | (with_reducible exact Ba.mono _ _)
   | (with_reducible exact Am.mono _ _ _)
   | (with_reducible exact Au.mono _ _)
   | (with_reducible exact LeO.refl _)
   | (with_reducible exact LeO.none _)
   | (with_reducible refine LeO.ite ?_ ?_)
   | (with_reducible refine LeO.bind ?_ (fun _ => ?_))
   | exact ih0 _ _
   | exact ih1 _ _
   | exact ih2 _ _ _
   | exact ih3 _ _ _ _ _
   | exact An.mono _ _ _ _
   | exact Ay.mono _ _
   | exact Ba.mono _ _
   | exact Am.mono _ _ _
   | exact Au.mono _ _
   | exact LeO.none _
   | refine LeO.ite ?_ ?_
   | refine LeO.bind ?_ (fun _ => ?_)
  ·intro y0 y1 y2 y3 y4
   unfold Ah.l2
   repeat' first
   | (with_reducible exact ih0 _ _)
   | (with_reducible exact ih1 _ _)
   | (with_reducible exact ih2 _ _ _)
   | (with_reducible exact ih3 _ _ _ _ _)
   | (with_reducible exact An.mono _ _ _ _)
   | (with_reducible exact Ay.mono _ _)
   | (with_reducible exact Ba.mono _ _)
   | (with_reducible exact Am.mono _ _ _)
   | (with_reducible exact Au.mono _ _)
   | (with_reducible exact LeO.refl _)
   | (with_reducible exact LeO.none _)
   | (with_reducible refine LeO.ite ?_ ?_)
   | (with_reducible refine LeO.bind ?_ (fun _ => ?_))
   | exact ih0 _ _
   | exact ih1 _ _
   | exact ih2 _ _ _
   | exact ih3 _ _ _ _ _
   | exact An.mono _ _ _ _
   | exact Ay.mono _ _
   | exact Ba.mono _ _
   | exact Am.mono _ _ _
   | exact Au.mono _ _
   | exact LeO.none _
   | refine LeO.ite ?_ ?_
   | refine LeO.bind ?_ (fun _ => ?_)
theorem Ah.mono : ∀ a0 k, LeO (Ah.f k a0) (Ah.f (k + 1) a0) := by
 intro a0 k
 obtain ⟨ih0, ih1, ih2, ih3⟩ := Ah.mono_l k
 unfold Ah.f
 repeat' first
  | (with_reducible exact ih0 _ _)
  | (with_reducible exact ih1 _ _)
  | (with_reducible exact ih2 _ _ _)
  | (with_reducible exact ih3 _ _ _ _ _)
  | (with_reducible exact An.mono _ _ _ _)
  | (with_reducible exact Ay.mono _ _)
  | (with_reducible exact Ba.mono _ _)
  | (with_reducible exact Am.mono _ _ _)
  | (with_reducible exact Au.mono _ _)
  | (with_reducible exact LeO.refl _)
  | (with_reducible exact LeO.none _)
  | (with_reducible refine LeO.ite ?_ ?_)
  | (with_reducible refine LeO.bind ?_ (fun _ => ?_))
  | exact ih0 _ _
  | exact ih1 _ _
  | exact ih2 _ _ _
  | exact ih3 _ _ _ _ _
  | exact An.mono _ _ _ _
  | exact Ay.mono _ _
  | exact Ba.mono _ _
  | exact Am.mono _ _ _
  | exact Au.mono _ _
  | exact LeO.none _
  | refine LeO.ite ?_ ?_
  | refine LeO.bind ?_ (fun _ => ?_)
theorem Ah.calls (k : Nat) (a0 : ByteArray) (r1 : List (S59)) (r2 : Int) (w : World) (h : Ah.f k a0 = some (r1, r2)) :
 Calls Tryz.prog 21 #[.string a0] w fun e w' => ∃ v0_ : Value, e = .returned (.tuple #[v0_, .int .i64 r2]) ∧ Kd.R k59 59 w' w.heap.size (fun _ => True) v0_ r1 ∧ Below w.heap.size w w' := by
 have hu59 := Tryz.underlying59
 have HB := Aa.mk (Below.refl w.heap.size w)
 have H : (if (a0.size : Int) > 2048 then (Ah.j0 k a0 true) else (if (a0.size : Int) > 0 then (if 0 ≤ (wrap64 ((a0.size : Int) - 1)) then (if (wrap64 ((a0.size : Int) - 1)) < (a0.size : Int) then (Ah.j0 k a0 ((bt a0 (wrap64 ((a0.size : Int) - 1))) != 10)) else (none)) else (none)) else (Ah.j0 k a0 false))) = some (r1, r2) := h
 clear h
 have HC2 := Aa.mk H
 clear H
 go_enter Tryz.func21, Tryz.ntmps21
 go_upto_region 1 with (fail)
 go_cut [26] (fun v26 wc => ∃ (kq : Nat) (x26_1 : Bool), v26 = .bool x26_1 ∧ Aa (Ah.j0 kq a0 x26_1 = some (r1, r2)) ∧ Aa (kq ≤ k) ∧ Aa (Below w.heap.size w wc))
 case first =>
  have H := HC2.out
  clear HC2
  by_cases c3 : (a0.size : Int) > 2048
  ·rw [if_pos c3] at H
   have c3b0 : decide (2048 < (a0.size : Int)) = true := decide_eq_true c3
   have c3b1 : decide (2048 < a0.size) = true := decide_eq_true (by omega)
   clear c3
   (first | rw [c3b0] | (simp only [G8, i32_w]; rw [c3b0]) | skip)
   have H' := Aa.mk H
   clear H
   go_wp2
   go_meet
   case rel => exact ⟨_, (true), zqD, H', ⟨by first | omega | exact Nat.le_refl _⟩, ⟨zqB⟩⟩
  ·rw [if_neg c3] at H
   have c3b0 : decide (2048 < (a0.size : Int)) = false := decide_eq_false c3
   have c3b1 : decide (2048 < a0.size) = false := decide_eq_false (by omega)
   clear c3
   (first | rw [c3b0] | (simp only [G8, i32_w]; rw [c3b0]) | skip)
   by_cases c4 : (a0.size : Int) > 0
   ·rw [if_pos c4] at H
    have c4b0 : decide (0 < (a0.size : Int)) = true := decide_eq_true c4
    have c4b1 : decide (0 < a0.size) = true := decide_eq_true (by omega)
    clear c4
    obtain ⟨ji5, hji5⟩ : ∃ j_ : Int, (wrap64 ((a0.size : Int) - 1)) = j_ := ⟨_, rfl⟩
    replace H : (if 0 ≤ (ji5) then (if (ji5) < (a0.size : Int) then (Ah.j0 k a0 ((bt a0 (ji5)) != 10)) else (none)) else (none)) = some (r1, r2) := by first | (rw [hji5] at H; exact H) | (simp only [hji5] at H ⊢; exact H)
    have hji5w : (IntKind.i64.wrap ((a0.size : Int) - 1)) = ji5 := (G8 _).trans hji5
    by_cases c6 : 0 ≤ (ji5)
    ·rw [if_pos c6] at H
     have c6b0 : decide (0 ≤ (ji5)) = true := decide_eq_true c6
     clear c6
     by_cases c7 : (ji5) < (a0.size : Int)
     ·rw [if_pos c7] at H
      have c7b0 : decide ((ji5) < (a0.size : Int)) = true := decide_eq_true c7
      clear c7
      have H' := Aa.mk H
      clear H
      have p8 : 0 ≤ ((ji5) : Int) := of_decide_eq_true zqA
      have q8 : (ji5) < (a0.size : Int) := of_decide_eq_true zqA
      have hx8 := Eb a0 (ji5)
      replace p8 := eq_true p8
      replace q8 := eq_true q8
      go_wp2
      go_meet
      case rel => exact ⟨_, (((bt a0 (ji5)) != 10)), (by first | rfl | (simp; done) | (simp only [← hji5] <;> (first | rfl | simp)) | (simp [*]; done)), H', ⟨by first | omega | exact Nat.le_refl _⟩, ⟨zqB⟩⟩
     ·rw [if_neg c7] at H
      exact absurd H (by simp)
    ·rw [if_neg c6] at H
     exact absurd H (by simp)
   ·rw [if_neg c4] at H
    have c4b0 : decide (0 < (a0.size : Int)) = false := decide_eq_false c4
    have c4b1 : decide (0 < a0.size) = false := decide_eq_false (by omega)
    clear c4
    have H' := Aa.mk H
    clear H
    go_wp2
    go_meet
    case rel => exact ⟨_, (false), zqD, H', ⟨by first | omega | exact Nat.le_refl _⟩, ⟨zqB⟩⟩
 case rest =>
  clear HC2
  try clear c2
  try clear p2
  try clear c3
  try clear c3b0
  try clear c3b1
  try clear c4
  try clear c4b0
  try clear c4b1
  try clear c6
  try clear c6b0
  try clear p6
  try clear c7
  try clear c7b0
  try clear p8
  try clear q8
  try clear hx8
  try clear p8
  try clear q8
  obtain ⟨kq, x26_1, rfl, HA, HJ1, HB⟩ := hcut
  cases kq with
  | zero => exact absurd HA.out (by simp [Ah.j0])
  | succ kj1 =>
   have H := HA.out
   clear HA
   simp only [Ah.j0] at H
   by_cases c9 : x26_1 = true
   ·subst c9
    have H1 : (some (([] : List (S59)), 600)) = some (r1, r2) := by rw [if_pos rfl] at H; exact H
    clear H
    have H := H1
    clear H1
    simp only [Option.some.injEq, Prod.mk.injEq] at H
    obtain ⟨rfl, rfl⟩ := H
    go_wp2
    go_ret2
    exact ⟨_, by first | rfl | (simp [Cp, Co] <;> rfl) | (simp [*, Cp, Co] <;> rfl), by first | exact Kd.Di _ _ _ _ _ | exact Kd.N_nil _ _ _ _ _ | exact Kd.V_nil _ _ _ _ _ | exact Kd.Q_nil _ _ _ _ _ | exact Kd.S_nil _ _ _ _ _, zqB⟩
   ·replace c9 := Bool.eq_false_iff.mpr c9
    subst c9
    have H1 : ((Am.f kj1 a0 10).bind fun t108 => (if 0 ≤ (wrap64 ((t108.length : Int) - 1)) then (if (wrap64 ((t108.length : Int) - 1)) ≤ (t108.length : Int) then (Ah.l0 kj1 (t108.take ((wrap64 ((t108.length : Int) - 1)) : Int).toNat) 0) else (none)) else (none))) = some (r1, r2) := by rw [if_neg (show ¬ (false = true) by decide)] at H; exact H
    clear H
    have H := H1
    clear H1
    replace H := Option.bind_eq_some_iff.mp H
    obtain ⟨t108, A100, H⟩ := H
    replace H : (if 0 ≤ (wrap64 ((t108.length : Int) - 1)) then (if (wrap64 ((t108.length : Int) - 1)) ≤ (t108.length : Int) then (Ah.l0 kj1 (t108.take ((wrap64 ((t108.length : Int) - 1)) : Int).toNat) 0) else (none)) else (none)) = some (r1, r2) := H
    have A10 := Aa.mk A100
    clear A100
    obtain ⟨ji11, hji11⟩ : ∃ j_ : Int, (wrap64 ((t108.length : Int) - 1)) = j_ := ⟨_, rfl⟩
    replace H : (if 0 ≤ (ji11) then (if (ji11) ≤ (t108.length : Int) then (Ah.l0 kj1 (t108.take ((ji11) : Int).toNat) 0) else (none)) else (none)) = some (r1, r2) := by first | (rw [hji11] at H; exact H) | (simp only [hji11] at H ⊢; exact H)
    (try rw [hji11] at A10)
    have hji11w : (IntKind.i64.wrap ((t108.length : Int) - 1)) = ji11 := (G8 _).trans hji11
    by_cases c12 : 0 ≤ (ji11)
    ·rw [if_pos c12] at H
     have c12b0 := eq_true c12
     have c12b1 : decide (0 ≤ (ji11)) = true := decide_eq_true c12
     clear c12
     by_cases c13 : (ji11) ≤ (t108.length : Int)
     ·rw [if_pos c13] at H
      have c13b0 := eq_true c13
      have c13b1 : decide ((ji11) ≤ (t108.length : Int)) = true := decide_eq_true c13
      clear c13
      obtain ⟨y111, hy111⟩ : ∃ y_ : List ByteArray, y_ = (t108.take ((ji11) : Int).toNat) := ⟨_, rfl⟩
      replace H : (Ah.l0 kj1 y111 0) = some (r1, r2) := by first | (rw [hy111]; with_reducible exact H) | (have H2_ := (Option.bind_some _ _).symm.trans H; rw [hy111]; with_reducible exact H2_) | (have H2_ := (Option.bind_some _ _).symm.trans H; with_reducible exact H2_) | with_reducible exact H | (rw [hy111]; exact H) | exact H
      have Ny111 := Aa.mk hy111
      clear hy111
      have H' := Aa.mk H
      clear H
      go_wp2_with (first | ((with_reducible refine Ck (f := 47) rfl ?_); refine Dx (some 28) rfl rfl Tryz.func47 (by kernel_rfl) rfl #[.string a0, .int .u8 10] rfl zqC ?_; (with_reducible refine (Am.calls kj1 a0 10 t108 _ A10.out).mono ?_); rintro e w14 ⟨v109, rfl, ho0, hb⟩; refine ⟨_, rfl, ?_⟩; have n0_ := Aa.mk (Kd.Dv ho0 (E6 zqB)); have n1_ := Aa.mk (Fu zqB hb); clear HB; have HO110 := n0_; have HB := n1_; clear n0_ n1_; (try clear hb); (try clear hb2); (try clear hk); (try clear hi); (try clear ho0); obtain ⟨Ao15, co15, eo15⟩ := Kd.Bd HO110.out; subst eo15; have q16 : ((ji11) : Int) ≤ ((t108.length : Int) : Int) := of_decide_eq_true zqA; obtain ⟨i016, hi016, _, hsz16, _⟩ := info_parts Hh; have hcut16 := cut_to (P := Tryz.prog) 24 9 .i64 Tryz.underlying24 hi016 Ao15 t108.length co15 (ji11) (of_decide_eq_true zqA) q16 (Kd.R_reads' HO110.out).2.1; have hr16 := Kd.R_take (m := ((ji11) : Int).toNat) HO110.out (by omega); have hy16 : y111.length = ((ji11) : Int).toNat := (by rw [Ny111.out, List.length_take]; omega); rw [← Ny111.out] at hr16; rw [← hy16] at hr16 hcut16; clear hy16 hi016 hsz16 HO110; have HO113 := Aa.mk hr16; clear hr16; replace q16 := eq_true q16))
      go_loopg [5] kj1 (fun kq v5 w' => ∃ (x5_2 : Int), v5 = .int .i64 x5_2 ∧ Aa (Ah.l0 kq y111 x5_2 = some (r1, r2)) ∧ Aa (kq ≤ kj1) ∧ Aa (Kd.R Kd.string 9 w' w.heap.size (fun _ => True) (.slice Ao15 y111.length co15) y111) ∧ Aa (Below w.heap.size w w'))
      case atStart => exact ⟨(0), zqD, H', ⟨Nat.le_refl _⟩, ⟨by (with_reducible repeat (first | apply Kd.Cg | apply Kd.Cc | apply Kd.Cs)); exact HO113.out⟩, ⟨zqB⟩⟩
      case round =>
       clear H'
       try clear c1
       try clear q1
       try clear c2
       try clear p2
       try clear c3
       try clear c3b0
       try clear c3b1
       try clear c4
       try clear c4b0
       try clear c4b1
       try clear c6
       try clear c6b0
       try clear p6
       try clear c7
       try clear c7b0
       try clear p8
       try clear q8
       try clear hx8
       try clear c9
       try clear c12
       try clear c12b0
       try clear c12b1
       try clear c13
       try clear c13b0
       try clear c13b1
       try clear q16
       try clear p2
       try clear p6
       try clear p8
       try clear q16
       try clear q8
       obtain ⟨x5_2, rfl, HA, HK2, HO_4, HB⟩ := hrel
       cases gk with
       | zero => exact absurd HA.out (by simp [Ah.l0])
       | succ k2 =>
        have H := HA.out
        clear HA
        simp only [Ah.l0] at H
        by_cases c17 : x5_2 < (y111.length : Int)
        ·rw [if_pos c17] at H
         have c17b0 : decide (x5_2 < (y111.length : Int)) = true := decide_eq_true c17
         clear c17
         by_cases c18 : 0 ≤ x5_2
         ·rw [if_pos c18] at H
          have c18b0 : decide (0 ≤ x5_2) = true := decide_eq_true c18
          clear c18
          replace H := Option.bind_eq_some_iff.mp H
          obtain ⟨t115, A190, H⟩ := H
          replace H : (if t115 = true then (Ah.l0 k2 y111 (wrap64 (x5_2 + 1))) else (some (([] : List (S59)), 600))) = some (r1, r2) := H
          have A19 := Aa.mk A190
          clear A190
          by_cases c20 : t115 = true
          ·subst c20
           have H1 : (Ah.l0 k2 y111 (wrap64 (x5_2 + 1))) = some (r1, r2) := by rw [if_pos rfl] at H; exact H
           clear H
           have H := H1
           clear H1
           have H' := Aa.mk H
           clear H
           have p114 : 0 ≤ (x5_2 : Int) := of_decide_eq_true zqA
           have q114 : x5_2 < (y111.length : Int) := of_decide_eq_true zqA
           obtain ⟨ad114, e114, hx114_0⟩ := Kd.Ct (Kd.R_reads' HO_4.out).2.2 x5_2 p114 q114
           cases e114
           replace p114 := eq_true p114
           replace q114 := eq_true q114
           go_wp2_with (first | ((with_reducible refine Ck (f := 48) rfl ?_); refine Dx (some 44) rfl rfl Tryz.func48 (by kernel_rfl) rfl #[.string (rdOf ByteArray.empty y111 x5_2), .int .i64 0, .int .i64 2048] rfl zqC ?_; (with_reducible refine (An.calls k2 (rdOf ByteArray.empty y111 x5_2) 0 2048 true _ A19.out).mono ?_); rintro e w' ⟨rfl, ⟨nd, rfl⟩⟩; refine ⟨_, rfl, ?_⟩))
           go_roundg k2
           case measure => have := HJ1.out; have := HK2.out; omega
           case rel => exact ⟨(wrap64 (x5_2 + 1)), zqD, H', ⟨by have := HJ1.out; have := HK2.out; omega⟩, ⟨by (with_reducible repeat (first | apply Kd.Cg | apply Kd.Cc | apply Kd.Cs)); exact HO_4.out⟩, ⟨zqB⟩⟩
          ·replace c20 := Bool.eq_false_iff.mpr c20
           subst c20
           have H1 : (some (([] : List (S59)), 600)) = some (r1, r2) := by rw [if_neg (show ¬ (false = true) by decide)] at H; exact H
           clear H
           have H := H1
           clear H1
           simp only [Option.some.injEq, Prod.mk.injEq] at H
           obtain ⟨rfl, rfl⟩ := H
           have p114 : 0 ≤ (x5_2 : Int) := of_decide_eq_true zqA
           have q114 : x5_2 < (y111.length : Int) := of_decide_eq_true zqA
           obtain ⟨ad114, e114, hx114_0⟩ := Kd.Ct (Kd.R_reads' HO_4.out).2.2 x5_2 p114 q114
           cases e114
           replace p114 := eq_true p114
           replace q114 := eq_true q114
           go_wp2_with (first | ((with_reducible refine Ck (f := 48) rfl ?_); refine Dx (some 44) rfl rfl Tryz.func48 (by kernel_rfl) rfl #[.string (rdOf ByteArray.empty y111 x5_2), .int .i64 0, .int .i64 2048] rfl zqC ?_; (with_reducible refine (An.calls k2 (rdOf ByteArray.empty y111 x5_2) 0 2048 false _ A19.out).mono ?_); rintro e w' ⟨rfl, ⟨nd, rfl⟩⟩; refine ⟨_, rfl, ?_⟩))
           go_ret2
           exact ⟨_, by first | rfl | (simp [Cp, Co] <;> rfl) | (simp only [← hji11]; first | rfl | (simp [Cp, Co] <;> rfl)) | (simp [*, Cp, Co] <;> rfl), by first | exact Kd.Di _ _ _ _ _ | exact Kd.N_nil _ _ _ _ _ | exact Kd.V_nil _ _ _ _ _ | exact Kd.Q_nil _ _ _ _ _ | exact Kd.S_nil _ _ _ _ _, zqB⟩
         ·rw [if_neg c18] at H
          exact absurd H (by simp)
        ·rw [if_neg c17] at H
         have c17b0 : decide (x5_2 < (y111.length : Int)) = false := decide_eq_false c17
         clear c17
         have H' := Aa.mk H
         clear H
         go_wp2
         go_loopg [6, 7] k2 (fun kq v6 v7 w' => ∃ (x6_3 : List (S59)) (x7_3 : Int), v7 = .int .i64 x7_3 ∧ Aa (Ah.l1 kq y111 x6_3 x7_3 = some (r1, r2)) ∧ Aa (kq ≤ k2) ∧ Aa (Kd.R Kd.string 9 w' w.heap.size (fun _ => True) (.slice Ao15 y111.length co15) y111) ∧ Aa (Kd.R k59 59 w' w.heap.size (fun _ => True) v6 x6_3) ∧ Aa (Below w.heap.size w w'))
         case atStart => exact ⟨(([] : List (S59))), (0), zqD, H', ⟨Nat.le_refl _⟩, ⟨by (with_reducible repeat (first | apply Kd.Cg | apply Kd.Cc | apply Kd.Cs)); exact HO_4.out⟩, ⟨by first | exact Kd.Di _ _ _ _ _ | exact Kd.N_nil _ _ _ _ _ | exact Kd.V_nil _ _ _ _ _ | exact Kd.Q_nil _ _ _ _ _ | exact Kd.S_nil _ _ _ _ _⟩, ⟨zqB⟩⟩
         case round =>
          clear H'
          try clear c1
          try clear p1
          try clear q1
          try clear hx1
          try clear c2
          try clear p2
          try clear c3
          try clear c3b0
          try clear c3b1
          try clear c4
          try clear c4b0
          try clear c4b1
          try clear c6
          try clear c6b0
          try clear p6
          try clear c7
          try clear c7b0
          try clear p8
          try clear q8
          try clear hx8
          try clear c9
          try clear p11
          try clear q11
          try clear hx11
          try clear c12
          try clear c12b0
          try clear c12b1
          try clear c13
          try clear c13b0
          try clear c13b1
          try clear q16
          try clear c17
          try clear c17b0
          try clear c18
          try clear c18b0
          try clear c20
          try clear hx114_0
          try clear p114
          try clear p2
          try clear p6
          try clear p8
          try clear q1
          try clear q114
          try clear q16
          try clear q8
          obtain ⟨x6_3, x7_3, rfl, HA, HK3, HO_4, HO_6, HB⟩ := hrel
          cases gk with
          | zero => exact absurd HA.out (by simp [Ah.l1])
          | succ k3 =>
           have H := HA.out
           clear HA
           simp only [Ah.l1] at H
           by_cases c21 : x7_3 < (y111.length : Int)
           ·rw [if_pos c21] at H
            have c21b0 : decide (x7_3 < (y111.length : Int)) = true := decide_eq_true c21
            clear c21
            by_cases c22 : 0 ≤ x7_3
            ·rw [if_pos c22] at H
             have c22b0 : decide (0 ≤ x7_3) = true := decide_eq_true c22
             clear c22
             have H' := Aa.mk H
             clear H
             have p116 : 0 ≤ (x7_3 : Int) := of_decide_eq_true zqA
             have q116 : x7_3 < (y111.length : Int) := of_decide_eq_true zqA
             obtain ⟨ad116, e116, hx116_0⟩ := Kd.Ct (Kd.R_reads' HO_4.out).2.2 x7_3 p116 q116
             cases e116
             replace p116 := eq_true p116
             replace q116 := eq_true q116
             go_wp2
             go_loopg [7, 8, 9] k3 (fun kq v7 v8 v9 w' => ∃ (x7_4 : Int) (x8_4 : ByteArray) (x9_4 : ByteArray), v7 = .int .i64 x7_4 ∧ v8 = .string x8_4 ∧ v9 = .string x9_4 ∧ Aa (Ah.l2 kq y111 x6_3 x7_4 x8_4 x9_4 = some (r1, r2)) ∧ Aa (kq ≤ k3) ∧ Aa (Kd.R Kd.string 9 w' w.heap.size (fun _ => True) (.slice (some ad116) y111.length co15) y111) ∧ Aa (Kd.R k59 59 w' w.heap.size (fun _ => True) u6 x6_3) ∧ Aa (Below w.heap.size w w'))
             case atStart => exact ⟨(x7_3), (rdOf ByteArray.empty y111 x7_3), (rdOf ByteArray.empty y111 x7_3), zqD, zqD, zqD, H', ⟨Nat.le_refl _⟩, ⟨by (with_reducible repeat (first | apply Kd.Cg | apply Kd.Cc | apply Kd.Cs)); exact HO_4.out⟩, ⟨by (with_reducible repeat (first | apply Kd.Cg | apply Kd.Cc | apply Kd.Cs)); exact HO_6.out⟩, ⟨zqB⟩⟩
             case round =>
              clear H'
              try clear c1
              try clear p1
              try clear q1
              try clear hx1
              try clear c2
              try clear p2
              try clear c3
              try clear c3b0
              try clear c3b1
              try clear c4
              try clear c4b0
              try clear c4b1
              try clear c6
              try clear c6b0
              try clear p6
              try clear c7
              try clear c7b0
              try clear p8
              try clear q8
              try clear hx8
              try clear c9
              try clear p11
              try clear q11
              try clear hx11
              try clear c12
              try clear c12b0
              try clear c12b1
              try clear c13
              try clear c13b0
              try clear c13b1
              try clear q16
              try clear c17
              try clear c17b0
              try clear c18
              try clear c18b0
              try clear c20
              try clear c21
              try clear c21b0
              try clear c22
              try clear c22b0
              try clear hx114_0
              try clear hx116_0
              try clear p1
              try clear p11
              try clear p114
              try clear p116
              try clear p2
              try clear p6
              try clear p8
              try clear q1
              try clear q11
              try clear q114
              try clear q116
              try clear q16
              try clear q8
              obtain ⟨x7_4, x8_4, x9_4, rfl, rfl, rfl, HA, HK4, HO_4, HO_6, HB⟩ := hrel
              cases gk with
              | zero => exact absurd HA.out (by simp [Ah.l2])
              | succ k4 =>
               have H := HA.out
               clear HA
               simp only [Ah.l2] at H
               replace H := Option.bind_eq_some_iff.mp H
               obtain ⟨t117, A230, H⟩ := H
               replace H : (if t117 = true then (if (wrap64 (x7_4 + 1)) = (y111.length : Int) then (some (([] : List (S59)), 600)) else (if 0 ≤ (wrap64 (x7_4 + 1)) then (if (wrap64 (x7_4 + 1)) < (y111.length : Int) then ((Ay.f k4 (rdOf ByteArray.empty y111 (wrap64 (x7_4 + 1)))).bind fun t119 => (if 0 ≤ (wrap64 ((x8_4.size : Int) - 1)) then (if (wrap64 ((x8_4.size : Int) - 1)) ≤ (x8_4.size : Int) then (if (x8_4.extract 0 ((wrap64 ((x8_4.size : Int) - 1)) : Int).toNat).size + t119.size ≤ 9223372036854775807 then (Ah.l2 k4 y111 x6_3 (wrap64 (x7_4 + 1)) ((x8_4.extract 0 ((wrap64 ((x8_4.size : Int) - 1)) : Int).toNat) ++ t119) t119) else (none)) else (none)) else (none))) else (none)) else (none))) else ((Au.f k4 x8_4).bind fun t120 => (if t120.toList = ([] : List UInt8) then (Ah.l1 k4 y111 x6_3 (wrap64 (x7_4 + 1))) else (if 0 < (t120.size : Int) then (if (bt t120 0) = 35 then (Ah.l1 k4 y111 x6_3 (wrap64 (x7_4 + 1))) else (if 0 < (x8_4.size : Int) then (if x6_3.length < 5864062014805 then (Ah.l1 k4 y111 (x6_3 ++ [(⟨((bt x8_4 0) == 32), t120⟩ : S59)]) (wrap64 (x7_4 + 1))) else (none)) else (none))) else (none))))) = some (r1, r2) := H
               have A23 := Aa.mk A230
               clear A230
               by_cases c24 : t117 = true
               ·subst c24
                have H1 : (if (wrap64 (x7_4 + 1)) = (y111.length : Int) then (some (([] : List (S59)), 600)) else (if 0 ≤ (wrap64 (x7_4 + 1)) then (if (wrap64 (x7_4 + 1)) < (y111.length : Int) then ((Ay.f k4 (rdOf ByteArray.empty y111 (wrap64 (x7_4 + 1)))).bind fun t119 => (if 0 ≤ (wrap64 ((x8_4.size : Int) - 1)) then (if (wrap64 ((x8_4.size : Int) - 1)) ≤ (x8_4.size : Int) then (if (x8_4.extract 0 ((wrap64 ((x8_4.size : Int) - 1)) : Int).toNat).size + t119.size ≤ 9223372036854775807 then (Ah.l2 k4 y111 x6_3 (wrap64 (x7_4 + 1)) ((x8_4.extract 0 ((wrap64 ((x8_4.size : Int) - 1)) : Int).toNat) ++ t119) t119) else (none)) else (none)) else (none))) else (none)) else (none))) = some (r1, r2) := by rw [if_pos rfl] at H; exact H
                clear H
                have H := H1
                clear H1
                by_cases c25 : (wrap64 (x7_4 + 1)) = (y111.length : Int)
                ·rw [if_pos c25] at H
                 have c25b0 : ((wrap64 (x7_4 + 1)) == (y111.length : Int)) = true := beq_iff_eq.mpr c25
                 have c25b1 : ((wrap64 (x7_4 + 1)) != (y111.length : Int)) = false := bne_eq_false_iff_eq.mpr c25
                 clear c25
                 simp only [Option.some.injEq, Prod.mk.injEq] at H
                 obtain ⟨rfl, rfl⟩ := H
                 go_wp2_with (first | ((with_reducible refine Ck (f := 49) rfl ?_); refine Dx (some 58) rfl rfl Tryz.func49 (by kernel_rfl) rfl #[.string x9_4] rfl zqC ?_; (with_reducible refine (Ba.calls k4 x9_4 true _ A23.out).mono ?_); rintro e w' ⟨rfl, ⟨nd, rfl⟩⟩; refine ⟨_, rfl, ?_⟩))
                 go_ret2
                 exact ⟨_, by first | rfl | (simp [Cp, Co] <;> rfl) | (simp only [← hji11]; first | rfl | (simp [Cp, Co] <;> rfl)) | (simp [*, Cp, Co] <;> rfl), by first | exact Kd.Di _ _ _ _ _ | exact Kd.N_nil _ _ _ _ _ | exact Kd.V_nil _ _ _ _ _ | exact Kd.Q_nil _ _ _ _ _ | exact Kd.S_nil _ _ _ _ _, zqB⟩
                ·rw [if_neg c25] at H
                 have c25b0 : ((wrap64 (x7_4 + 1)) == (y111.length : Int)) = false := beq_eq_false_iff_ne.mpr c25
                 have c25b1 : ((wrap64 (x7_4 + 1)) != (y111.length : Int)) = true := bne_iff_ne.mpr c25
                 obtain ⟨ji26, hji26⟩ : ∃ j_ : Int, (wrap64 (x7_4 + 1)) = j_ := ⟨_, rfl⟩
                 replace H : (if 0 ≤ (ji26) then (if (ji26) < (y111.length : Int) then ((Ay.f k4 (rdOf ByteArray.empty y111 (ji26))).bind fun t119 => (if 0 ≤ (wrap64 ((x8_4.size : Int) - 1)) then (if (wrap64 ((x8_4.size : Int) - 1)) ≤ (x8_4.size : Int) then (if (x8_4.extract 0 ((wrap64 ((x8_4.size : Int) - 1)) : Int).toNat).size + t119.size ≤ 9223372036854775807 then (Ah.l2 k4 y111 x6_3 ji26 ((x8_4.extract 0 ((wrap64 ((x8_4.size : Int) - 1)) : Int).toNat) ++ t119) t119) else (none)) else (none)) else (none))) else (none)) else (none)) = some (r1, r2) := by first | (rw [hji26] at H; exact H) | (simp only [hji26] at H ⊢; exact H)
                 (try rw [hji26] at c25b0)
                 (try rw [hji26] at c25b1)
                 (try rw [hji26] at A23)
                 have hji26w : (IntKind.i64.wrap (x7_4 + 1)) = ji26 := (G8 _).trans hji26
                 by_cases c27 : 0 ≤ (ji26)
                 ·rw [if_pos c27] at H
                  have c27b0 : decide (0 ≤ (ji26)) = true := decide_eq_true c27
                  clear c27
                  by_cases c28 : (ji26) < (y111.length : Int)
                  ·rw [if_pos c28] at H
                   have c28b0 : decide ((ji26) < (y111.length : Int)) = true := decide_eq_true c28
                   clear c28
                   replace H := Option.bind_eq_some_iff.mp H
                   obtain ⟨t119, A290, H⟩ := H
                   replace H : (if 0 ≤ (wrap64 ((x8_4.size : Int) - 1)) then (if (wrap64 ((x8_4.size : Int) - 1)) ≤ (x8_4.size : Int) then (if (x8_4.extract 0 ((wrap64 ((x8_4.size : Int) - 1)) : Int).toNat).size + t119.size ≤ 9223372036854775807 then (Ah.l2 k4 y111 x6_3 ji26 ((x8_4.extract 0 ((wrap64 ((x8_4.size : Int) - 1)) : Int).toNat) ++ t119) t119) else (none)) else (none)) else (none)) = some (r1, r2) := H
                   have A29 := Aa.mk A290
                   clear A290
                   obtain ⟨ji30, hji30⟩ : ∃ j_ : Int, (wrap64 ((x8_4.size : Int) - 1)) = j_ := ⟨_, rfl⟩
                   replace H : (if 0 ≤ (ji30) then (if (ji30) ≤ (x8_4.size : Int) then (if (x8_4.extract 0 ((ji30) : Int).toNat).size + t119.size ≤ 9223372036854775807 then (Ah.l2 k4 y111 x6_3 ji26 ((x8_4.extract 0 ((ji30) : Int).toNat) ++ t119) t119) else (none)) else (none)) else (none)) = some (r1, r2) := by first | (rw [hji30] at H; exact H) | (simp only [hji30] at H ⊢; exact H)
                   (try rw [hji30] at A23)
                   (try rw [hji30] at A29)
                   have hji30w : (IntKind.i64.wrap ((x8_4.size : Int) - 1)) = ji30 := (G8 _).trans hji30
                   by_cases c31 : 0 ≤ (ji30)
                   ·rw [if_pos c31] at H
                    have c31b0 := eq_true c31
                    have c31b1 : decide (0 ≤ (ji30)) = true := decide_eq_true c31
                    clear c31
                    by_cases c32 : (ji30) ≤ (x8_4.size : Int)
                    ·rw [if_pos c32] at H
                     have c32b0 := eq_true c32
                     have c32b1 : decide ((ji30) ≤ (x8_4.size : Int)) = true := decide_eq_true c32
                     clear c32
                     by_cases c33 : (x8_4.extract 0 ((ji30) : Int).toNat).size + t119.size ≤ 9223372036854775807
                     ·rw [if_pos c33] at H
                      have c33b0 := eq_true c33
                      have c33b1 : decide ((x8_4.extract 0 ((ji30) : Int).toNat).size + t119.size ≤ 9223372036854775807) = true := decide_eq_true c33
                      try have c33b2 : (9223372036854775807 < (x8_4.extract 0 ((ji30) : Int).toNat).size + t119.size) = False := eq_false (Nat.not_lt.2 c33)
                      have H' := Aa.mk H
                      clear H
                      go_wp2_with (first | ((with_reducible refine Ck (f := 49) rfl ?_); refine Dx (some 58) rfl rfl Tryz.func49 (by kernel_rfl) rfl #[.string x9_4] rfl zqC ?_; (with_reducible refine (Ba.calls k4 x9_4 true _ A23.out).mono ?_); rintro e w' ⟨rfl, ⟨nd, rfl⟩⟩; refine ⟨_, rfl, ?_⟩; have p118 : 0 ≤ ((ji26) : Int) := of_decide_eq_true zqA; have q118 : (ji26) < (y111.length : Int) := of_decide_eq_true zqA; obtain ⟨ad118, e118, hx118_0⟩ := Kd.Ct (Kd.R_reads' HO_4.out).2.2 (ji26) p118 q118; obtain rfl : ad116 = ad118 := (by injection e118); replace p118 := eq_true p118; replace q118 := eq_true q118) | ((with_reducible refine Ck (f := 50) rfl ?_); refine Dx (some 70) rfl rfl Tryz.func50 (by kernel_rfl) rfl #[.string (rdOf ByteArray.empty y111 (ji26))] rfl (by (try simp only [List.map_toArray, List.map_cons, List.map_nil]); first | done | (simp only [hji26]; rfl) | rfl | (simp only [List.length_drop, List.length_take]; rfl)) ?_; (with_reducible refine (Ay.calls k4 (rdOf ByteArray.empty y111 (ji26)) t119 _ A29.out).mono ?_); rintro e w' ⟨rfl, ⟨nd, rfl⟩⟩; refine ⟨_, rfl, ?_⟩))
                      go_roundg k4
                      case measure => have := HJ1.out; have := HK2.out; have := HK3.out; have := HK4.out; omega
                      case rel => exact ⟨(ji26), ((x8_4.extract 0 ((ji30) : Int).toNat) ++ t119), (t119), (by first | rfl | (simp; done) | (simp only [← hji26] <;> (first | rfl | simp)) | (simp [*]; done)), (by first | rfl | (simp; done) | (simp only [← hji30] <;> (first | rfl | simp)) | (simp [*]; done)), zqD, H', ⟨by have := HJ1.out; have := HK2.out; have := HK3.out; have := HK4.out; omega⟩, ⟨by (with_reducible repeat (first | apply Kd.Cg | apply Kd.Cc | apply Kd.Cs)); exact HO_4.out⟩, ⟨by (with_reducible repeat (first | apply Kd.Cg | apply Kd.Cc | apply Kd.Cs)); exact HO_6.out⟩, ⟨zqB⟩⟩
                     ·rw [if_neg c33] at H
                      exact absurd H (by simp)
                    ·rw [if_neg c32] at H
                     exact absurd H (by simp)
                   ·rw [if_neg c31] at H
                    exact absurd H (by simp)
                  ·rw [if_neg c28] at H
                   exact absurd H (by simp)
                 ·rw [if_neg c27] at H
                  exact absurd H (by simp)
               ·replace c24 := Bool.eq_false_iff.mpr c24
                subst c24
                have H1 : ((Au.f k4 x8_4).bind fun t120 => (if t120.toList = ([] : List UInt8) then (Ah.l1 k4 y111 x6_3 (wrap64 (x7_4 + 1))) else (if 0 < (t120.size : Int) then (if (bt t120 0) = 35 then (Ah.l1 k4 y111 x6_3 (wrap64 (x7_4 + 1))) else (if 0 < (x8_4.size : Int) then (if x6_3.length < 5864062014805 then (Ah.l1 k4 y111 (x6_3 ++ [(⟨((bt x8_4 0) == 32), t120⟩ : S59)]) (wrap64 (x7_4 + 1))) else (none)) else (none))) else (none)))) = some (r1, r2) := by rw [if_neg (show ¬ (false = true) by decide)] at H; exact H
                clear H
                have H := H1
                clear H1
                replace H := Option.bind_eq_some_iff.mp H
                obtain ⟨t120, A340, H⟩ := H
                replace H : (if t120.toList = ([] : List UInt8) then (Ah.l1 k4 y111 x6_3 (wrap64 (x7_4 + 1))) else (if 0 < (t120.size : Int) then (if (bt t120 0) = 35 then (Ah.l1 k4 y111 x6_3 (wrap64 (x7_4 + 1))) else (if 0 < (x8_4.size : Int) then (if x6_3.length < 5864062014805 then (Ah.l1 k4 y111 (x6_3 ++ [(⟨((bt x8_4 0) == 32), t120⟩ : S59)]) (wrap64 (x7_4 + 1))) else (none)) else (none))) else (none))) = some (r1, r2) := H
                have A34 := Aa.mk A340
                clear A340
                by_cases c35 : t120.toList = ([] : List UInt8)
                ·rw [if_pos c35] at H
                 have c35b0 : (t120.toList == ([] : List UInt8)) = true := beq_iff_eq.mpr c35
                 have c35b1 : (t120.toList != ([] : List UInt8)) = false := bne_eq_false_iff_eq.mpr c35
                 clear c35
                 have H' := Aa.mk H
                 clear H
                 go_wp2_with (first | ((with_reducible refine Ck (f := 49) rfl ?_); refine Dx (some 58) rfl rfl Tryz.func49 (by kernel_rfl) rfl #[.string x9_4] rfl zqC ?_; (with_reducible refine (Ba.calls k4 x9_4 false _ A23.out).mono ?_); rintro e w' ⟨rfl, ⟨nd, rfl⟩⟩; refine ⟨_, rfl, ?_⟩) | ((with_reducible refine Ck (f := 51) rfl ?_); refine Dx (some 79) rfl rfl Tryz.func51 (by kernel_rfl) rfl #[.string x8_4] rfl zqC ?_; (with_reducible refine (Au.calls k4 x8_4 t120 _ A34.out).mono ?_); rintro e w' ⟨rfl, ⟨nd, rfl⟩⟩; refine ⟨_, rfl, ?_⟩))
                 go_roundg k4
                 case measure => have := HJ1.out; have := HK2.out; have := HK3.out; have := HK4.out; omega
                 case rel => exact ⟨(x6_3), (wrap64 (x7_4 + 1)), zqD, H', ⟨by have := HJ1.out; have := HK2.out; have := HK3.out; have := HK4.out; omega⟩, ⟨by (with_reducible repeat (first | apply Kd.Cg | apply Kd.Cc | apply Kd.Cs)); exact HO_4.out⟩, ⟨by (with_reducible repeat (first | apply Kd.Cg | apply Kd.Cc | apply Kd.Cs)); exact HO_6.out⟩, ⟨zqB⟩⟩
                ·rw [if_neg c35] at H
                 have c35b0 : (t120.toList == ([] : List UInt8)) = false := beq_eq_false_iff_ne.mpr c35
                 have c35b1 : (t120.toList != ([] : List UInt8)) = true := bne_iff_ne.mpr c35
                 by_cases c36 : 0 < (t120.size : Int)
                 ·rw [if_pos c36] at H
                  have c36b0 : decide (0 < (t120.size : Int)) = true := decide_eq_true c36
                  have c36b1 : decide (0 < t120.size) = true := decide_eq_true (by omega)
                  clear c36
                  by_cases c38 : (bt t120 0) = 35
                  ·rw [if_pos c38] at H
                   have c38b0 : ((bt t120 0) == 35) = true := beq_iff_eq.mpr c38
                   have c38b1 : ((bt t120 0) != 35) = false := bne_eq_false_iff_eq.mpr c38
                   clear c38
                   have H' := Aa.mk H
                   clear H
                   go_wp2_with (first | ((with_reducible refine Ck (f := 49) rfl ?_); refine Dx (some 58) rfl rfl Tryz.func49 (by kernel_rfl) rfl #[.string x9_4] rfl zqC ?_; (with_reducible refine (Ba.calls k4 x9_4 false _ A23.out).mono ?_); rintro e w' ⟨rfl, ⟨nd, rfl⟩⟩; refine ⟨_, rfl, ?_⟩) | ((with_reducible refine Ck (f := 51) rfl ?_); refine Dx (some 79) rfl rfl Tryz.func51 (by kernel_rfl) rfl #[.string x8_4] rfl zqC ?_; (with_reducible refine (Au.calls k4 x8_4 t120 _ A34.out).mono ?_); rintro e w' ⟨rfl, ⟨nd, rfl⟩⟩; refine ⟨_, rfl, ?_⟩; have p37 : 0 ≤ (0 : Int) := (by omega); have q37 : 0 < t120.size := (by have : (0 : Int) < (t120.size : Int) := of_decide_eq_true zqA; omega); have hx37 : ∀ h : 0 < t120.size, ((t120[0]'h).toNat : Int) = bt t120 0 := Eb t120 0; clear p37; have qi37 : (0 < (t120.size : Int)) = True := eq_true (of_decide_eq_true zqA); replace q37 := eq_true q37))
                   go_roundg k4
                   case measure => have := HJ1.out; have := HK2.out; have := HK3.out; have := HK4.out; omega
                   case rel => exact ⟨(x6_3), (wrap64 (x7_4 + 1)), zqD, H', ⟨by have := HJ1.out; have := HK2.out; have := HK3.out; have := HK4.out; omega⟩, ⟨by (with_reducible repeat (first | apply Kd.Cg | apply Kd.Cc | apply Kd.Cs)); exact HO_4.out⟩, ⟨by (with_reducible repeat (first | apply Kd.Cg | apply Kd.Cc | apply Kd.Cs)); exact HO_6.out⟩, ⟨zqB⟩⟩
                  ·rw [if_neg c38] at H
                   have c38b0 : ((bt t120 0) == 35) = false := beq_eq_false_iff_ne.mpr c38
                   have c38b1 : ((bt t120 0) != 35) = true := bne_iff_ne.mpr c38
                   by_cases c39 : 0 < (x8_4.size : Int)
                   ·rw [if_pos c39] at H
                    have c39b0 : decide (0 < (x8_4.size : Int)) = true := decide_eq_true c39
                    have c39b1 : decide (0 < x8_4.size) = true := decide_eq_true (by omega)
                    clear c39
                    by_cases c41 : x6_3.length < 5864062014805
                    ·rw [if_pos c41] at H
                     have LMc41 := Aa.mk c41
                     clear c41
                     obtain ⟨y121, hy121⟩ : ∃ y_ : List (S59), y_ = (x6_3 ++ [(⟨((bt x8_4 0) == 32), t120⟩ : S59)]) := ⟨_, rfl⟩
                     replace H : (Ah.l1 k4 y111 y121 (wrap64 (x7_4 + 1))) = some (r1, r2) := by first | (rw [hy121]; with_reducible exact H) | (have H2_ := (Option.bind_some _ _).symm.trans H; rw [hy121]; with_reducible exact H2_) | (have H2_ := (Option.bind_some _ _).symm.trans H; with_reducible exact H2_) | with_reducible exact H | (rw [hy121]; exact H) | exact H
                     have Ny121 := Aa.mk hy121
                     clear hy121
                     have H' := Aa.mk H
                     clear H
                     go_wp2_with (first | ((with_reducible refine Ck (f := 49) rfl ?_); refine Dx (some 58) rfl rfl Tryz.func49 (by kernel_rfl) rfl #[.string x9_4] rfl zqC ?_; (with_reducible refine (Ba.calls k4 x9_4 false _ A23.out).mono ?_); rintro e w' ⟨rfl, ⟨nd, rfl⟩⟩; refine ⟨_, rfl, ?_⟩) | ((with_reducible refine Ck (f := 51) rfl ?_); refine Dx (some 79) rfl rfl Tryz.func51 (by kernel_rfl) rfl #[.string x8_4] rfl zqC ?_; (with_reducible refine (Au.calls k4 x8_4 t120 _ A34.out).mono ?_); rintro e w' ⟨rfl, ⟨nd, rfl⟩⟩; refine ⟨_, rfl, ?_⟩; have p37 : 0 ≤ (0 : Int) := (by omega); have q37 : 0 < t120.size := (by have : (0 : Int) < (t120.size : Int) := of_decide_eq_true zqA; omega); have hx37 : ∀ h : 0 < t120.size, ((t120[0]'h).toNat : Int) = bt t120 0 := Eb t120 0; clear p37; have qi37 : (0 < (t120.size : Int)) = True := eq_true (of_decide_eq_true zqA); replace q37 := eq_true q37; have p40 : 0 ≤ (0 : Int) := (by omega); have q40 : 0 < x8_4.size := (by have : (0 : Int) < (x8_4.size : Int) := of_decide_eq_true zqA; omega); have hx40 : ∀ h : 0 < x8_4.size, ((x8_4[0]'h).toNat : Int) = bt x8_4 0 := Eb x8_4 0; clear p40; have qi40 : (0 < (x8_4.size : Int)) = True := eq_true (of_decide_eq_true zqA); replace q40 := eq_true q40) | ((with_reducible refine Cz (b := .append) (xs := #[.tmp 87, .tmp 93]) rfl ?_); (try (refine gate_guard (by rfl) ?_; dsimp only)); at_builtin; refine Kd.Ep k59 (w0 := w) w.heap.size rfl (.tmp 87) (.tmp 93) 49 59 (.agg #[(.bool false), (.string ⟨#[]⟩)]) 24 rfl Tryz.underlying49 info59 rfl (by decide) (by omega) u6 x6_3 (⟨((bt x8_4 0) == 32), t120⟩ : S59) [.bool ((bt x8_4 0) == 32), .string t120] (fun _ => True) (fun _ => False) rfl rfl ?aP (fun _ hk => hk.elim) ?aF ?aO ?aB ?aS ?aL ?_; (case aP => exact k59_mkM _ _ _ (⟨((bt x8_4 0) == 32), t120⟩ : S59)); (case aB => exact zqB); (case aF => exact (fun _ _ => trivial)); (case aO => exact (by (with_reducible repeat (first | apply Kd.Cg | apply Kd.Cc | apply Kd.Cs)); exact HO_6.out)); (case aS => exact (E6 zqB)); (case aL => have := LMc41.out; omega); intro v122 w42 ho hb hg hat; rw [← Ny121.out] at ho; have n0_ := Aa.mk (Kd.R_over' (by (with_reducible repeat (first | apply Kd.Cg | apply Kd.Cc | apply Kd.Cs)); exact HO_4.out) (Kd.R_typed (by (with_reducible repeat (first | apply Kd.Cg | apply Kd.Cc | apply Kd.Cs)); exact HO_6.out)) (by decide) hg); have n1_ := Aa.mk (hb); have n2_ := Aa.mk (ho); clear HO_4; clear HB; clear HO_6; have HO_4 := n0_; have HB := n1_; have HO123 := n2_; clear n0_ n1_ n2_; clear ho hb hg hat))
                     go_roundg k4
                     case measure => have := HJ1.out; have := HK2.out; have := HK3.out; have := HK4.out; omega
                     case rel => exact ⟨(y121), (wrap64 (x7_4 + 1)), zqD, H', ⟨by have := HJ1.out; have := HK2.out; have := HK3.out; have := HK4.out; omega⟩, ⟨by (with_reducible repeat (first | apply Kd.Cg | apply Kd.Cc | apply Kd.Cs)); exact HO_4.out⟩, ⟨by (with_reducible repeat (first | apply Kd.Cg | apply Kd.Cc | apply Kd.Cs)); exact HO123.out⟩, ⟨zqB⟩⟩
                    ·rw [if_neg c41] at H
                     exact absurd H (by simp)
                   ·rw [if_neg c39] at H
                    exact absurd H (by simp)
                 ·rw [if_neg c36] at H
                  exact absurd H (by simp)
            ·rw [if_neg c22] at H
             exact absurd H (by simp)
           ·rw [if_neg c21] at H
            have c21b0 : decide (x7_3 < (y111.length : Int)) = false := decide_eq_false c21
            clear c21
            simp only [Option.some.injEq, Prod.mk.injEq] at H
            obtain ⟨rfl, rfl⟩ := H
            go_wp2
            go_ret2
            exact ⟨_, by first | rfl | (simp [Cp, Co] <;> rfl) | (simp only [← hji11]; first | rfl | (simp [Cp, Co] <;> rfl)) | (simp [*, Cp, Co] <;> rfl), by (with_reducible repeat (first | apply Kd.Cg | apply Kd.Cc | apply Kd.Cs)); exact HO_6.out, zqB⟩
     ·rw [if_neg c13] at H
      exact absurd H (by simp)
    ·rw [if_neg c12] at H
     exact absurd H (by simp)
def Bv.l0 : Nat → List ByteArray → List ByteArray → Int → Option (List ByteArray)
 | 0, _, _, _ => none
 | k + 1, x3, x4, x5 => if x5 < (x3.length : Int) then (if 0 ≤ x5 then (if (rdOf ByteArray.empty x3 x5).toList = ([] : List UInt8) then (Bv.l0 k x3 x4 (wrap64 (x5 + 1))) else (if x4.length < 8796093022208 then (Bv.l0 k x3 (x4 ++ [rdOf ByteArray.empty x3 x5]) (wrap64 (x5 + 1))) else (none))) else (none)) else (some x4)
def Bv.f (k : Nat) (a0 : ByteArray) : Option (List ByteArray) := (Am.f k a0 32).bind fun t193 => (Bv.l0 k t193 ([] : List ByteArray) 0)
theorem Bv.mono_l : ∀ k, (∀ y0 y1 y2, LeO (Bv.l0 k y0 y1 y2) (Bv.l0 (k + 1) y0 y1 y2))
 | 0 => fun _ _ _ r h => by simp [Bv.l0] at h
 | k + 1 => by
  have ih0 := Bv.mono_l k
  ·intro y0 y1 y2
   unfold Bv.l0
   repeat' first
   | (with_reducible exact ih0 _ _ _)
   | (with_reducible exact Am.mono _ _ _)
   | (with_reducible exact LeO.refl _)
   | (with_reducible exact LeO.none _)
   | (with_reducible refine LeO.ite ?_ ?_)
   | (with_reducible refine LeO.bind ?_ (fun _ => ?_))
   | exact ih0 _ _ _
   | exact Am.mono _ _ _
   | exact LeO.none _
   | refine LeO.ite ?_ ?_
   | refine LeO.bind ?_ (fun _ => ?_)
theorem Bv.mono : ∀ a0 k, LeO (Bv.f k a0) (Bv.f (k + 1) a0) := by
 intro a0 k
 have ih0 := Bv.mono_l k
 unfold Bv.f
 repeat' first
  | (with_reducible exact ih0 _ _ _)
  | (with_reducible exact Am.mono _ _ _)
  | (with_reducible exact LeO.refl _)
  | (with_reducible exact LeO.none _)
  | (with_reducible refine LeO.ite ?_ ?_)
  | (with_reducible refine LeO.bind ?_ (fun _ => ?_))
  | exact ih0 _ _ _
  | exact Am.mono _ _ _
  | exact LeO.none _
  | refine LeO.ite ?_ ?_
  | refine LeO.bind ?_ (fun _ => ?_)
theorem Bv.calls (k : Nat) (a0 : ByteArray) (r : List ByteArray) (w : World) (h : Bv.f k a0 = some r) :
 Calls Tryz.prog 57 #[.string a0] w fun e w' => ∃ v0_ : Value, e = .returned (v0_) ∧ Kd.R Kd.string 9 w' w.heap.size (fun _ => True) v0_ r ∧ Below w.heap.size w w' := by
 have HB := Aa.mk (Below.refl w.heap.size w)
 have H : ((Am.f k a0 32).bind fun t193 => (Bv.l0 k t193 ([] : List ByteArray) 0)) = some r := h
 clear h
 replace H := Option.bind_eq_some_iff.mp H
 obtain ⟨t193, A20, H⟩ := H
 replace H : (Bv.l0 k t193 ([] : List ByteArray) 0) = some r := H
 have A2 := Aa.mk A20
 clear A20
 have H' := Aa.mk H
 clear H
 go_enter Tryz.func57, Tryz.ntmps57
 go_wp2_with (first | ((with_reducible refine Ck (f := 47) rfl ?_); refine Dx (some 7) rfl rfl Tryz.func47 (by kernel_rfl) rfl #[.string a0, .int .u8 32] rfl zqC ?_; (with_reducible refine (Am.calls k a0 32 t193 _ A2.out).mono ?_); rintro e w3 ⟨v194, rfl, ho0, hb⟩; refine ⟨_, rfl, ?_⟩; have n0_ := Aa.mk (Kd.Dv ho0 (E6 zqB)); have n1_ := Aa.mk (Fu zqB hb); clear HB; have HO195 := n0_; have HB := n1_; clear n0_ n1_; (try clear hb); (try clear hb2); (try clear hk); (try clear hi); (try clear ho0)))
 go_loopg [4, 5] k (fun kq v4 v5 w' => ∃ (x4_1 : List ByteArray) (x5_1 : Int), v5 = .int .i64 x5_1 ∧ Aa (Bv.l0 kq t193 x4_1 x5_1 = some r) ∧ Aa (kq ≤ k) ∧ Aa (Kd.R Kd.string 9 w' w.heap.size (fun k_ => some k_ ≠ (v4 : Value).ownBlock) v194 t193) ∧ Aa (Kd.R Kd.string 9 w' w.heap.size (fun k_ => some k_ ≠ (v194 : Value).ownBlock) v4 x4_1) ∧ Aa (Below w.heap.size w w'))
 case atStart => exact ⟨(([] : List ByteArray)), (0), zqD, H', ⟨Nat.le_refl _⟩, ⟨by (with_reducible repeat (first | apply Kd.Cg | apply Kd.Cc | apply Kd.Cs)); exact Kd.De HO195.out (fun _ hk => (by simp [Value.ownBlock]))⟩, ⟨by first | exact Kd.Di _ _ _ _ _ | exact Kd.N_nil _ _ _ _ _ | exact Kd.V_nil _ _ _ _ _ | exact Kd.Q_nil _ _ _ _ _ | exact Kd.S_nil _ _ _ _ _⟩, ⟨zqB⟩⟩
 case round =>
  clear H'
  try clear p2
  obtain ⟨x4_1, x5_1, rfl, HA, HK1, HO_3, HO_4, HB⟩ := hrel
  cases gk with
  | zero => exact absurd HA.out (by simp [Bv.l0])
  | succ k1 =>
   have H := HA.out
   clear HA
   simp only [Bv.l0] at H
   by_cases c4 : x5_1 < (t193.length : Int)
   ·rw [if_pos c4] at H
    have c4b0 : decide (x5_1 < (t193.length : Int)) = true := decide_eq_true c4
    clear c4
    by_cases c5 : 0 ≤ x5_1
    ·rw [if_pos c5] at H
     have c5b0 : decide (0 ≤ x5_1) = true := decide_eq_true c5
     clear c5
     by_cases c6 : (rdOf ByteArray.empty t193 x5_1).toList = ([] : List UInt8)
     ·rw [if_pos c6] at H
      have c6b0 : ((rdOf ByteArray.empty t193 x5_1).toList == ([] : List UInt8)) = true := beq_iff_eq.mpr c6
      have c6b1 : ((rdOf ByteArray.empty t193 x5_1).toList != ([] : List UInt8)) = false := bne_eq_false_iff_eq.mpr c6
      clear c6
      have H' := Aa.mk H
      clear H
      obtain ⟨Ao7, co7, eo7⟩ := Kd.Bd HO_3.out
      subst eo7
      have p196 : 0 ≤ (x5_1 : Int) := of_decide_eq_true zqA
      have q196 : x5_1 < (t193.length : Int) := of_decide_eq_true zqA
      obtain ⟨ad196, e196, hx196_0⟩ := Kd.Ct (Kd.R_reads' HO_3.out).2.2 x5_1 p196 q196
      cases e196
      replace p196 := eq_true p196
      replace q196 := eq_true q196
      go_wp2
      go_roundg k1
      case measure => have := HK1.out; omega
      case rel => exact ⟨(x4_1), (wrap64 (x5_1 + 1)), zqD, H', ⟨by have := HK1.out; omega⟩, ⟨by (with_reducible repeat (first | apply Kd.Cg | apply Kd.Cc | apply Kd.Cs)); exact HO_3.out⟩, ⟨by (with_reducible repeat (first | apply Kd.Cg | apply Kd.Cc | apply Kd.Cs)); exact HO_4.out⟩, ⟨zqB⟩⟩
     ·rw [if_neg c6] at H
      have c6b0 : ((rdOf ByteArray.empty t193 x5_1).toList == ([] : List UInt8)) = false := beq_eq_false_iff_ne.mpr c6
      have c6b1 : ((rdOf ByteArray.empty t193 x5_1).toList != ([] : List UInt8)) = true := bne_iff_ne.mpr c6
      by_cases c8 : x4_1.length < 8796093022208
      ·rw [if_pos c8] at H
       have LMc8 := Aa.mk c8
       clear c8
       obtain ⟨y198, hy198⟩ : ∃ y_ : List ByteArray, y_ = (x4_1 ++ [rdOf ByteArray.empty t193 x5_1]) := ⟨_, rfl⟩
       replace H : (Bv.l0 k1 t193 y198 (wrap64 (x5_1 + 1))) = some r := by first | (rw [hy198]; with_reducible exact H) | (have H2_ := (Option.bind_some _ _).symm.trans H; rw [hy198]; with_reducible exact H2_) | (have H2_ := (Option.bind_some _ _).symm.trans H; with_reducible exact H2_) | with_reducible exact H | (rw [hy198]; exact H) | exact H
       have Ny198 := Aa.mk hy198
       clear hy198
       have H' := Aa.mk H
       clear H
       obtain ⟨Ao9, co9, eo9⟩ := Kd.Bd HO_3.out
       subst eo9
       have p196 : 0 ≤ (x5_1 : Int) := of_decide_eq_true zqA
       have q196 : x5_1 < (t193.length : Int) := of_decide_eq_true zqA
       obtain ⟨ad196, e196, hx196_0⟩ := Kd.Ct (Kd.R_reads' HO_3.out).2.2 x5_1 p196 q196
       cases e196
       replace p196 := eq_true p196
       replace q196 := eq_true q196
       have p197 : 0 ≤ (x5_1 : Int) := of_decide_eq_true zqA
       have q197 : x5_1 < (t193.length : Int) := of_decide_eq_true zqA
       obtain ⟨ad197, e197, hx197_0⟩ := Kd.Ct (Kd.R_reads' HO_3.out).2.2 x5_1 p197 q197
       obtain rfl : ad196 = ad197 := (by injection e197)
       replace p197 := eq_true p197
       replace q197 := eq_true q197
       go_wp2_with (first | ((with_reducible refine Cz (b := .append) (xs := #[.tmp 19, .tmp 24]) rfl ?_); at_builtin; refine Kd.Ep Kd.string (w0 := w) w.heap.size rfl (.tmp 19) (.tmp 24) 24 9 (.string ⟨#[]⟩) 16 rfl Tryz.underlying24 Hh rfl (by decide) (by omega) u4 x4_1 (rdOf ByteArray.empty t193 x5_1) [.string (rdOf ByteArray.empty t193 x5_1)] (fun k_ => some k_ ≠ (.slice (some ad196) t193.length co9 : Value).ownBlock) (fun _ => False) rfl rfl ?aP (fun _ hk => hk.elim) ?aF ?aO ?aB ?aS ?aL ?_; (case aP => exact rfl); (case aB => exact zqB); (case aF => exact (fun k_ hk => Kd.fresh' (Kd.R_lt (by (with_reducible repeat (first | apply Kd.Cg | apply Kd.Cc | apply Kd.Cs)); exact HO_3.out)) k_ hk)); (case aO => exact (by (with_reducible repeat (first | apply Kd.Cg | apply Kd.Cc | apply Kd.Cs)); exact HO_4.out)); (case aS => exact (E6 zqB)); (case aL => have := LMc8.out; omega); intro v199 w10 ho hb hg hat; rw [← Ny198.out] at ho; have n0_ := Aa.mk (Kd.R_after (ok := (fun _ => True)) (by (with_reducible repeat (first | apply Kd.Cg | apply Kd.Cc | apply Kd.Cs)); exact Kd.De HO_3.out (fun _ hk => ⟨trivial, hk⟩)) hg hat); have n1_ := Aa.mk (hb); have n2_ := Aa.mk (ho); clear HO_3; clear HB; clear HO_4; have HO_3 := n0_; have HB := n1_; have HO200 := n2_; clear n0_ n1_ n2_; clear ho hb hg hat))
       go_roundg k1
       case measure => have := HK1.out; omega
       case rel => exact ⟨(y198), (wrap64 (x5_1 + 1)), zqD, H', ⟨by have := HK1.out; omega⟩, ⟨by (with_reducible repeat (first | apply Kd.Cg | apply Kd.Cc | apply Kd.Cs)); exact Kd.De HO_3.out (fun _ hk => hk.2)⟩, ⟨by (with_reducible repeat (first | apply Kd.Cg | apply Kd.Cc | apply Kd.Cs)); exact HO200.out⟩, ⟨zqB⟩⟩
      ·rw [if_neg c8] at H
       exact absurd H (by simp)
    ·rw [if_neg c5] at H
     exact absurd H (by simp)
   ·rw [if_neg c4] at H
    have c4b0 : decide (x5_1 < (t193.length : Int)) = false := decide_eq_false c4
    clear c4
    obtain rfl := Option.some.inj H
    obtain ⟨Ao11, co11, eo11⟩ := Kd.Bd HO_3.out
    subst eo11
    go_wp2
    go_ret
    exact ⟨_, by first | rfl | (simp [Cp, Co] <;> rfl) | (simp [*, Cp, Co] <;> rfl), by (with_reducible repeat (first | apply Kd.Cg | apply Kd.Cc | apply Kd.Cs)); exact Kd.De HO_4.out (fun _ hk => trivial), zqB⟩
def By.l0 : Nat → List ByteArray → Int → Option (Int)
 | 0, _, _ => none
 | k + 1, x0, x3 => if x3 < (x0.length : Int) then (if 0 ≤ x3 then ((Ag.f k (rdOf ByteArray.empty x0 x3)).bind fun t202 => (if t202 = true then (By.l0 k x0 (wrap64 (x3 + 1))) else (some x3))) else (none)) else (some x3)
def By.f (k : Nat) (l0 : List ByteArray) : Option (Int) := By.l0 k l0 0
theorem By.mono_l : ∀ k, (∀ y0 y1, LeO (By.l0 k y0 y1) (By.l0 (k + 1) y0 y1))
 | 0 => fun _ _ r h => by simp [By.l0] at h
 | k + 1 => by
  have ih0 := By.mono_l k
  ·intro y0 y1
   unfold By.l0
   repeat' first
   | (with_reducible exact ih0 _ _)
   | (with_reducible exact Ag.mono _ _)
   | (with_reducible exact LeO.refl _)
   | (with_reducible exact LeO.none _)
   | (with_reducible refine LeO.ite ?_ ?_)
   | (with_reducible refine LeO.bind ?_ (fun _ => ?_))
   | exact ih0 _ _
   | exact Ag.mono _ _
   | exact LeO.none _
   | refine LeO.ite ?_ ?_
   | refine LeO.bind ?_ (fun _ => ?_)
theorem By.mono : ∀ a0 k, LeO (By.f k a0) (By.f (k + 1) a0) := by
 intro a0 k
 have ih0 := By.mono_l k
 unfold By.f
 repeat' first
  | (with_reducible exact ih0 _ _)
  | (with_reducible exact Ag.mono _ _)
  | (with_reducible exact LeO.refl _)
  | (with_reducible exact LeO.none _)
  | (with_reducible refine LeO.ite ?_ ?_)
  | (with_reducible refine LeO.bind ?_ (fun _ => ?_))
  | exact ih0 _ _
  | exact Ag.mono _ _
  | exact LeO.none _
  | refine LeO.ite ?_ ?_
  | refine LeO.bind ?_ (fun _ => ?_)
theorem By.calls (k : Nat) (A0 : Option Addr) (c0 : Nat) (l0 : List ByteArray) (r : Int) (w : World) (hr0 : Kd.C Kd.string w A0 l0.length l0) (hc0 : l0.length ≤ c0) (h : By.f k l0 = some r) :
 Calls Tryz.prog 97 #[.slice A0 l0.length c0] w fun e w' => e = .returned (.int .i64 r) ∧ Ch w w' := by
 have HR0 := Aa.mk hr0
 have HC0 := Aa.mk hc0
 clear hr0 hc0
 have H : (By.l0 k l0 0) = some r := h
 clear h
 have H' := Aa.mk H
 clear H
 go_enter Tryz.func97, Tryz.ntmps97
 go_wp2
 go_loopg [3] k (fun kq v3 w' => ∃ (x3_1 : Int), v3 = .int .i64 x3_1 ∧ Aa (By.l0 kq l0 x3_1 = some r) ∧ Aa (kq ≤ k) ∧ Ch w w')
 case atStart => exact ⟨(0), zqD, H', ⟨Nat.le_refl _⟩, zqF⟩
 case round =>
  clear H'
  obtain ⟨x3_1, rfl, HA, HK1, ⟨m1, rfl⟩⟩ := hrel
  cases gk with
  | zero => exact absurd HA.out (by simp [By.l0])
  | succ k1 =>
   have H := HA.out
   clear HA
   simp only [By.l0] at H
   by_cases c2 : x3_1 < (l0.length : Int)
   ·rw [if_pos c2] at H
    have c2b0 : decide (x3_1 < (l0.length : Int)) = true := decide_eq_true c2
    clear c2
    by_cases c3 : 0 ≤ x3_1
    ·rw [if_pos c3] at H
     have c3b0 : decide (0 ≤ x3_1) = true := decide_eq_true c3
     clear c3
     replace H := Option.bind_eq_some_iff.mp H
     obtain ⟨t202, A40, H⟩ := H
     replace H : (if t202 = true then (By.l0 k1 l0 (wrap64 (x3_1 + 1))) else (some x3_1)) = some r := H
     have A4 := Aa.mk A40
     clear A40
     by_cases c5 : t202 = true
     ·subst c5
      have H1 : (By.l0 k1 l0 (wrap64 (x3_1 + 1))) = some r := by rw [if_pos rfl] at H; exact H
      clear H
      have H := H1
      clear H1
      have H' := Aa.mk H
      clear H
      have p201 : 0 ≤ (x3_1 : Int) := of_decide_eq_true zqA
      have q201 : x3_1 < (l0.length : Int) := of_decide_eq_true zqA
      obtain ⟨ad201, e201, hx201_0⟩ := Kd.Ct HR0.out x3_1 p201 q201
      cases e201
      replace p201 := eq_true p201
      replace q201 := eq_true q201
      go_wp2_with (first | (go_at_call 31; (with_reducible refine (Ag.calls k1 (rdOf ByteArray.empty l0 x3_1) true _ A4.out).mono ?_); rintro e w' ⟨rfl, ⟨nd, rfl⟩⟩))
      go_roundg k1
      case measure => have := HK1.out; omega
      case rel => exact ⟨(wrap64 (x3_1 + 1)), zqD, H', ⟨by have := HK1.out; omega⟩, zqF⟩
     ·replace c5 := Bool.eq_false_iff.mpr c5
      subst c5
      have H1 : (some x3_1) = some r := by rw [if_neg (show ¬ (false = true) by decide)] at H; exact H
      clear H
      have H := H1
      clear H1
      obtain rfl := Option.some.inj H
      have p201 : 0 ≤ (x3_1 : Int) := of_decide_eq_true zqA
      have q201 : x3_1 < (l0.length : Int) := of_decide_eq_true zqA
      obtain ⟨ad201, e201, hx201_0⟩ := Kd.Ct HR0.out x3_1 p201 q201
      cases e201
      replace p201 := eq_true p201
      replace q201 := eq_true q201
      go_wp2_with (first | (go_at_call 31; (with_reducible refine (Ag.calls k1 (rdOf ByteArray.empty l0 x3_1) false _ A4.out).mono ?_); rintro e w' ⟨rfl, ⟨nd, rfl⟩⟩))
      go_ret
      exact ⟨zqD, zqF⟩
    ·rw [if_neg c3] at H
     exact absurd H (by simp)
   ·rw [if_neg c2] at H
    have c2b0 : decide (x3_1 < (l0.length : Int)) = false := decide_eq_false c2
    clear c2
    obtain rfl := Option.some.inj H
    go_wp2
    go_ret
    exact ⟨zqD, zqF⟩
def B8.l0 : Nat → ByteArray → Int → Option (ByteArray × ByteArray)
 | 0, _, _ => none
 | k + 1, x0, x4 => if x4 < (x0.size : Int) then (if 0 ≤ x4 then (if (bt x0 x4) = 32 then (if x4 ≤ (x0.size : Int) then (if 0 ≤ (wrap64 (x4 + 1)) then (if (wrap64 (x4 + 1)) ≤ (x0.size : Int) then (some (x0.extract 0 (x4 : Int).toNat, x0.extract ((wrap64 (x4 + 1)) : Int).toNat x0.size)) else (none)) else (none)) else (none)) else (B8.l0 k x0 (wrap64 (x4 + 1)))) else (none)) else (some (x0, (⟨#[]⟩ : ByteArray)))
def B8.f (k : Nat) (a0 : ByteArray) : Option (ByteArray × ByteArray) := B8.l0 k a0 0
theorem B8.mono_l : ∀ k, (∀ y0 y1, LeO (B8.l0 k y0 y1) (B8.l0 (k + 1) y0 y1))
 | 0 => fun _ _ r h => by simp [B8.l0] at h
 | k + 1 => by
  have ih0 := B8.mono_l k
  ·intro y0 y1
   unfold B8.l0
   repeat' first
   | (with_reducible exact ih0 _ _)
   | (with_reducible exact LeO.refl _)
   | (with_reducible exact LeO.none _)
   | (with_reducible refine LeO.ite ?_ ?_)
   | (with_reducible refine LeO.bind ?_ (fun _ => ?_))
   | exact ih0 _ _
   | exact LeO.none _
   | refine LeO.ite ?_ ?_
   | refine LeO.bind ?_ (fun _ => ?_)
theorem B8.mono : ∀ a0 k, LeO (B8.f k a0) (B8.f (k + 1) a0) := by
 intro a0 k
 have ih0 := B8.mono_l k
 unfold B8.f
 repeat' first
  | (with_reducible exact ih0 _ _)
  | (with_reducible exact LeO.refl _)
  | (with_reducible exact LeO.none _)
  | (with_reducible refine LeO.ite ?_ ?_)
  | (with_reducible refine LeO.bind ?_ (fun _ => ?_))
  | exact ih0 _ _
  | exact LeO.none _
  | refine LeO.ite ?_ ?_
  | refine LeO.bind ?_ (fun _ => ?_)
theorem B8.calls (k : Nat) (a0 : ByteArray) (r1 : ByteArray) (r2 : ByteArray) (w : World) (h : B8.f k a0 = some (r1, r2)) :
 Calls Tryz.prog 56 #[.string a0] w fun e w' => e = .returned (.tuple #[.string r1, .string r2]) ∧ Ch w w' := by
 have H : (B8.l0 k a0 0) = some (r1, r2) := h
 clear h
 have H' := Aa.mk H
 clear H
 go_enter Tryz.func56, Tryz.ntmps56
 go_wp2
 repeat (go_quiet (fail); try go_wp2)
 go_loopg [4] k (fun kq v4 w' => ∃ (x4_1 : Int), v4 = .int .i64 x4_1 ∧ Aa (B8.l0 kq a0 x4_1 = some (r1, r2)) ∧ Aa (kq ≤ k) ∧ Ch w w')
 case atStart => exact ⟨(0), zqD, H', ⟨Nat.le_refl _⟩, zqF⟩
 case round =>
  clear H'
  obtain ⟨x4_1, rfl, HA, HK1, ⟨m1, rfl⟩⟩ := hrel
  cases gk with
  | zero => exact absurd HA.out (by simp [B8.l0])
  | succ k1 =>
   have H := HA.out
   clear HA
   simp only [B8.l0] at H
   by_cases c2 : x4_1 < (a0.size : Int)
   ·rw [if_pos c2] at H
    have c2b0 : decide (x4_1 < (a0.size : Int)) = true := decide_eq_true c2
    clear c2
    by_cases c3 : 0 ≤ x4_1
    ·rw [if_pos c3] at H
     have c3b0 : decide (0 ≤ x4_1) = true := decide_eq_true c3
     clear c3
     by_cases c5 : (bt a0 x4_1) = 32
     ·rw [if_pos c5] at H
      have c5b0 : ((bt a0 x4_1) == 32) = true := beq_iff_eq.mpr c5
      have c5b1 : ((bt a0 x4_1) != 32) = false := bne_eq_false_iff_eq.mpr c5
      clear c5
      have c6b0 := eq_true (of_decide_eq_true zqA : 0 ≤ x4_1)
      by_cases c7 : x4_1 ≤ (a0.size : Int)
      ·rw [if_pos c7] at H
       have c7b0 := eq_true c7
       have c7b1 : decide (x4_1 ≤ (a0.size : Int)) = true := decide_eq_true c7
       clear c7
       obtain ⟨ji8, hji8⟩ : ∃ j_ : Int, (wrap64 (x4_1 + 1)) = j_ := ⟨_, rfl⟩
       replace H : (if 0 ≤ (ji8) then (if (ji8) ≤ (a0.size : Int) then (some (a0.extract 0 (x4_1 : Int).toNat, a0.extract ((ji8) : Int).toNat a0.size)) else (none)) else (none)) = some (r1, r2) := by first | (rw [hji8] at H; exact H) | (simp only [hji8] at H ⊢; exact H)
       have hji8w : (IntKind.i64.wrap (x4_1 + 1)) = ji8 := (G8 _).trans hji8
       by_cases c9 : 0 ≤ (ji8)
       ·rw [if_pos c9] at H
        have c9b0 := eq_true c9
        have c9b1 : decide (0 ≤ (ji8)) = true := decide_eq_true c9
        clear c9
        by_cases c10 : (ji8) ≤ (a0.size : Int)
        ·rw [if_pos c10] at H
         have c10b0 := eq_true c10
         have c10b1 : decide ((ji8) ≤ (a0.size : Int)) = true := decide_eq_true c10
         clear c10
         simp only [Option.some.injEq, Prod.mk.injEq] at H
         obtain ⟨rfl, rfl⟩ := H
         have p4 : 0 ≤ (x4_1 : Int) := of_decide_eq_true zqA
         have q4 : x4_1 < (a0.size : Int) := of_decide_eq_true zqA
         have hx4 := Eb a0 x4_1
         replace p4 := eq_true p4
         replace q4 := eq_true q4
         go_wp2
         repeat (go_quiet (fail); try go_wp2)
         go_ret2
         exact ⟨by first | rfl | (simp; done) | (simp only [← hji8] <;> (first | rfl | simp)) | (simp [*]; done), zqF⟩
        ·rw [if_neg c10] at H
         exact absurd H (by simp)
       ·rw [if_neg c9] at H
        exact absurd H (by simp)
      ·rw [if_neg c7] at H
       exact absurd H (by simp)
     ·rw [if_neg c5] at H
      have c5b0 : ((bt a0 x4_1) == 32) = false := beq_eq_false_iff_ne.mpr c5
      have c5b1 : ((bt a0 x4_1) != 32) = true := bne_iff_ne.mpr c5
      have H' := Aa.mk H
      clear H
      have p4 : 0 ≤ (x4_1 : Int) := of_decide_eq_true zqA
      have q4 : x4_1 < (a0.size : Int) := of_decide_eq_true zqA
      have hx4 := Eb a0 x4_1
      replace p4 := eq_true p4
      replace q4 := eq_true q4
      go_wp2
      repeat (go_quiet (fail); try go_wp2)
      go_roundg k1
      case measure => have := HK1.out; omega
      case rel => exact ⟨(wrap64 (x4_1 + 1)), zqD, H', ⟨by have := HK1.out; omega⟩, zqF⟩
    ·rw [if_neg c3] at H
     exact absurd H (by simp)
   ·rw [if_neg c2] at H
    have c2b0 : decide (x4_1 < (a0.size : Int)) = false := decide_eq_false c2
    clear c2
    simp only [Option.some.injEq, Prod.mk.injEq] at H
    obtain ⟨rfl, rfl⟩ := H
    go_wp2
    repeat (go_quiet (fail); try go_wp2)
    go_ret2
    exact ⟨zqD, zqF⟩
def Bu.l0 : Nat → ByteArray → Int → Option (ByteArray × ByteArray × Bool)
 | 0, _, _ => none
 | k + 1, x0, x5 => if x5 < (x0.size : Int) then (if 0 ≤ x5 then (if (bt x0 x5) = 61 then (if x5 ≤ (x0.size : Int) then ((Au.f k (x0.extract 0 (x5 : Int).toNat)).bind fun t126 => (if 0 ≤ (wrap64 (x5 + 1)) then (if (wrap64 (x5 + 1)) ≤ (x0.size : Int) then ((Au.f k (x0.extract ((wrap64 (x5 + 1)) : Int).toNat x0.size)).bind fun t127 => ((Ag.f k t126).bind fun t128 => (some (t126, t127, t128)))) else (none)) else (none))) else (none)) else (Bu.l0 k x0 (wrap64 (x5 + 1)))) else (none)) else (some ((⟨#[]⟩ : ByteArray), (⟨#[]⟩ : ByteArray), false))
def Bu.f (k : Nat) (a0 : ByteArray) : Option (ByteArray × ByteArray × Bool) := Bu.l0 k a0 0
theorem Bu.mono_l : ∀ k, (∀ y0 y1, LeO (Bu.l0 k y0 y1) (Bu.l0 (k + 1) y0 y1))
 | 0 => fun _ _ r h => by simp [Bu.l0] at h
 | k + 1 => by
  have ih0 := Bu.mono_l k
  ·intro y0 y1
   unfold Bu.l0
   repeat' first
   | (with_reducible exact ih0 _ _)
   | (with_reducible exact Ag.mono _ _)
   | (with_reducible exact Au.mono _ _)
   | (with_reducible exact LeO.refl _)
   | (with_reducible exact LeO.none _)
   | (with_reducible refine LeO.ite ?_ ?_)
   | (with_reducible refine LeO.bind ?_ (fun _ => ?_))
   | exact ih0 _ _
   | exact Ag.mono _ _
   | exact Au.mono _ _
   | exact LeO.none _
   | refine LeO.ite ?_ ?_
   | refine LeO.bind ?_ (fun _ => ?_)
theorem Bu.mono : ∀ a0 k, LeO (Bu.f k a0) (Bu.f (k + 1) a0) := by
 intro a0 k
 have ih0 := Bu.mono_l k
 unfold Bu.f
 repeat' first
  | (with_reducible exact ih0 _ _)
  | (with_reducible exact Ag.mono _ _)
  | (with_reducible exact Au.mono _ _)
  | (with_reducible exact LeO.refl _)
  | (with_reducible exact LeO.none _)
  | (with_reducible refine LeO.ite ?_ ?_)
  | (with_reducible refine LeO.bind ?_ (fun _ => ?_))
  | exact ih0 _ _
  | exact Ag.mono _ _
  | exact Au.mono _ _
  | exact LeO.none _
  | refine LeO.ite ?_ ?_
  | refine LeO.bind ?_ (fun _ => ?_)
theorem Bu.calls (k : Nat) (a0 : ByteArray) (r1 : ByteArray) (r2 : ByteArray) (r3 : Bool) (w : World) (h : Bu.f k a0 = some (r1, r2, r3)) :
 Calls Tryz.prog 53 #[.string a0] w fun e w' => e = .returned (.tuple #[.string r1, .string r2, .bool r3]) ∧ Ch w w' := by
 have H : (Bu.l0 k a0 0) = some (r1, r2, r3) := h
 clear h
 have H' := Aa.mk H
 clear H
 go_enter Tryz.func53, Tryz.ntmps53
 go_wp2
 go_loopg [5] k (fun kq v5 w' => ∃ (x5_1 : Int), v5 = .int .i64 x5_1 ∧ Aa (Bu.l0 kq a0 x5_1 = some (r1, r2, r3)) ∧ Aa (kq ≤ k) ∧ Ch w w')
 case atStart => exact ⟨(0), zqD, H', ⟨Nat.le_refl _⟩, zqF⟩
 case round =>
  clear H'
  obtain ⟨x5_1, rfl, HA, HK1, ⟨m1, rfl⟩⟩ := hrel
  cases gk with
  | zero => exact absurd HA.out (by simp [Bu.l0])
  | succ k1 =>
   have H := HA.out
   clear HA
   simp only [Bu.l0] at H
   by_cases c2 : x5_1 < (a0.size : Int)
   ·rw [if_pos c2] at H
    have c2b0 : decide (x5_1 < (a0.size : Int)) = true := decide_eq_true c2
    clear c2
    by_cases c3 : 0 ≤ x5_1
    ·rw [if_pos c3] at H
     have c3b0 : decide (0 ≤ x5_1) = true := decide_eq_true c3
     clear c3
     by_cases c5 : (bt a0 x5_1) = 61
     ·rw [if_pos c5] at H
      have c5b0 : ((bt a0 x5_1) == 61) = true := beq_iff_eq.mpr c5
      have c5b1 : ((bt a0 x5_1) != 61) = false := bne_eq_false_iff_eq.mpr c5
      clear c5
      have c6b0 := eq_true (of_decide_eq_true zqA : 0 ≤ x5_1)
      by_cases c7 : x5_1 ≤ (a0.size : Int)
      ·rw [if_pos c7] at H
       have c7b0 := eq_true c7
       have c7b1 : decide (x5_1 ≤ (a0.size : Int)) = true := decide_eq_true c7
       clear c7
       replace H := Option.bind_eq_some_iff.mp H
       obtain ⟨t126, A80, H⟩ := H
       replace H : (if 0 ≤ (wrap64 (x5_1 + 1)) then (if (wrap64 (x5_1 + 1)) ≤ (a0.size : Int) then ((Au.f k1 (a0.extract ((wrap64 (x5_1 + 1)) : Int).toNat a0.size)).bind fun t127 => ((Ag.f k1 t126).bind fun t128 => (some (t126, t127, t128)))) else (none)) else (none)) = some (r1, r2, r3) := H
       have A8 := Aa.mk A80
       clear A80
       obtain ⟨ji9, hji9⟩ : ∃ j_ : Int, (wrap64 (x5_1 + 1)) = j_ := ⟨_, rfl⟩
       replace H : (if 0 ≤ (ji9) then (if (ji9) ≤ (a0.size : Int) then ((Au.f k1 (a0.extract ((ji9) : Int).toNat a0.size)).bind fun t127 => ((Ag.f k1 t126).bind fun t128 => (some (t126, t127, t128)))) else (none)) else (none)) = some (r1, r2, r3) := by first | (rw [hji9] at H; exact H) | (simp only [hji9] at H ⊢; exact H)
       (try rw [hji9] at A8)
       have hji9w : (IntKind.i64.wrap (x5_1 + 1)) = ji9 := (G8 _).trans hji9
       by_cases c10 : 0 ≤ (ji9)
       ·rw [if_pos c10] at H
        have c10b0 := eq_true c10
        have c10b1 : decide (0 ≤ (ji9)) = true := decide_eq_true c10
        clear c10
        by_cases c11 : (ji9) ≤ (a0.size : Int)
        ·rw [if_pos c11] at H
         have c11b0 := eq_true c11
         have c11b1 : decide ((ji9) ≤ (a0.size : Int)) = true := decide_eq_true c11
         clear c11
         replace H := Option.bind_eq_some_iff.mp H
         obtain ⟨t127, A120, H⟩ := H
         replace H : ((Ag.f k1 t126).bind fun t128 => (some (t126, t127, t128))) = some (r1, r2, r3) := H
         have A12 := Aa.mk A120
         clear A120
         replace H := Option.bind_eq_some_iff.mp H
         obtain ⟨t128, A130, H⟩ := H
         replace H : (some (t126, t127, t128)) = some (r1, r2, r3) := H
         have A13 := Aa.mk A130
         clear A130
         simp only [Option.some.injEq, Prod.mk.injEq] at H
         obtain ⟨rfl, rfl, rfl⟩ := H
         have p4 : 0 ≤ (x5_1 : Int) := of_decide_eq_true zqA
         have q4 : x5_1 < (a0.size : Int) := of_decide_eq_true zqA
         have hx4 := Eb a0 x5_1
         replace p4 := eq_true p4
         replace q4 := eq_true q4
         go_wp2_with (first | ((with_reducible refine Ck (f := 51) rfl ?_); refine Dx (some 20) rfl rfl Tryz.func51 (by kernel_rfl) rfl #[.string (a0.extract 0 (x5_1 : Int).toNat)] rfl zqC ?_; (with_reducible refine (Au.calls k1 (a0.extract 0 (x5_1 : Int).toNat) t126 _ A8.out).mono ?_); rintro e w' ⟨rfl, ⟨nd, rfl⟩⟩; refine ⟨_, rfl, ?_⟩) | ((with_reducible refine Ck (f := 51) rfl ?_); refine Dx (some 26) rfl rfl Tryz.func51 (by kernel_rfl) rfl #[.string (a0.extract ((ji9) : Int).toNat a0.size)] rfl (by (try simp only [List.map_toArray, List.map_cons, List.map_nil]); first | done | (simp only [hji9]; rfl) | rfl | (simp only [List.length_drop, List.length_take]; rfl)) ?_; (with_reducible refine (Au.calls k1 (a0.extract ((ji9) : Int).toNat a0.size) t127 _ A12.out).mono ?_); rintro e w' ⟨rfl, ⟨nd, rfl⟩⟩; refine ⟨_, rfl, ?_⟩) | ((with_reducible refine Ck (f := 31) rfl ?_); refine Dx (some 28) rfl rfl Tryz.func31 (by kernel_rfl) rfl #[.string t126] rfl zqC ?_; (with_reducible refine (Ag.calls k1 t126 t128 _ A13.out).mono ?_); rintro e w' ⟨rfl, ⟨nd, rfl⟩⟩; refine ⟨_, rfl, ?_⟩))
         go_ret3
         exact ⟨by first | rfl | (simp; done) | (simp only [← hji9] <;> (first | rfl | simp)) | (simp [*]; done), zqF⟩
        ·rw [if_neg c11] at H
         exact absurd H (by simp)
       ·rw [if_neg c10] at H
        exact absurd H (by simp)
      ·rw [if_neg c7] at H
       exact absurd H (by simp)
     ·rw [if_neg c5] at H
      have c5b0 : ((bt a0 x5_1) == 61) = false := beq_eq_false_iff_ne.mpr c5
      have c5b1 : ((bt a0 x5_1) != 61) = true := bne_iff_ne.mpr c5
      have H' := Aa.mk H
      clear H
      have p4 : 0 ≤ (x5_1 : Int) := of_decide_eq_true zqA
      have q4 : x5_1 < (a0.size : Int) := of_decide_eq_true zqA
      have hx4 := Eb a0 x5_1
      replace p4 := eq_true p4
      replace q4 := eq_true q4
      go_wp2
      go_roundg k1
      case measure => have := HK1.out; omega
      case rel => exact ⟨(wrap64 (x5_1 + 1)), zqD, H', ⟨by have := HK1.out; omega⟩, zqF⟩
    ·rw [if_neg c3] at H
     exact absurd H (by simp)
   ·rw [if_neg c2] at H
    have c2b0 : decide (x5_1 < (a0.size : Int)) = false := decide_eq_false c2
    clear c2
    simp only [Option.some.injEq, Prod.mk.injEq] at H
    obtain ⟨rfl, rfl, rfl⟩ := H
    go_wp2
    go_ret3
    exact ⟨zqD, zqF⟩
def Bo.l0 : Nat → List ByteArray → List ByteArray → Int → Option (List ByteArray × Bool)
 | 0, _, _, _ => none
 | k + 1, x0, x4, x5 => if x5 < (x0.length : Int) then (if 0 ≤ x5 then ((Ak.f k (rdOf ByteArray.empty x0 x5)).bind fun bt280 => (if bt280.2 = 0 then (if x4.length < 8796093022208 then (Bo.l0 k x0 (x4 ++ [bt280.1]) (wrap64 (x5 + 1))) else (none)) else (some (([] : List ByteArray), false)))) else (none)) else (some (x4, true))
def Bo.f (k : Nat) (l0 : List ByteArray) : Option (List ByteArray × Bool) := Bo.l0 k l0 ([] : List ByteArray) 0
theorem Bo.mono_l : ∀ k, (∀ y0 y1 y2, LeO (Bo.l0 k y0 y1 y2) (Bo.l0 (k + 1) y0 y1 y2))
 | 0 => fun _ _ _ r h => by simp [Bo.l0] at h
 | k + 1 => by
  have ih0 := Bo.mono_l k
  ·intro y0 y1 y2
   unfold Bo.l0
   repeat' first
   | (with_reducible exact ih0 _ _ _)
   | (with_reducible exact Ak.mono _ _)
   | (with_reducible exact LeO.refl _)
   | (with_reducible exact LeO.none _)
   | (with_reducible refine LeO.ite ?_ ?_)
   | (with_reducible refine LeO.bind ?_ (fun _ => ?_))
   | exact ih0 _ _ _
   | exact Ak.mono _ _
   | exact LeO.none _
   | refine LeO.ite ?_ ?_
   | refine LeO.bind ?_ (fun _ => ?_)
theorem Bo.mono : ∀ a0 k, LeO (Bo.f k a0) (Bo.f (k + 1) a0) := by
 intro a0 k
 have ih0 := Bo.mono_l k
 unfold Bo.f
 repeat' first
  | (with_reducible exact ih0 _ _ _)
  | (with_reducible exact Ak.mono _ _)
  | (with_reducible exact LeO.refl _)
  | (with_reducible exact LeO.none _)
  | (with_reducible refine LeO.ite ?_ ?_)
  | (with_reducible refine LeO.bind ?_ (fun _ => ?_))
  | exact ih0 _ _ _
  | exact Ak.mono _ _
  | exact LeO.none _
  | refine LeO.ite ?_ ?_
  | refine LeO.bind ?_ (fun _ => ?_)
theorem Bo.calls (k : Nat) (A0 : Option Addr) (c0 : Nat) (l0 : List ByteArray) (r1 : List ByteArray) (r2 : Bool) (w : World) (hr0 : Kd.C Kd.string w A0 l0.length l0) (hc0 : l0.length ≤ c0) (h : Bo.f k l0 = some (r1, r2)) :
 Calls Tryz.prog 61 #[.slice A0 l0.length c0] w fun e w' => ∃ v0_ : Value, e = .returned (.tuple #[v0_, .bool r2]) ∧ Kd.R Kd.string 9 w' w.heap.size (fun _ => True) v0_ r1 ∧ Below w.heap.size w w' := by
 have HR0 := Aa.mk hr0
 have HC0 := Aa.mk hc0
 clear hr0 hc0
 have HB := Aa.mk (Below.refl w.heap.size w)
 have H : (Bo.l0 k l0 ([] : List ByteArray) 0) = some (r1, r2) := h
 clear h
 have H' := Aa.mk H
 clear H
 go_enter Tryz.func61, Tryz.ntmps61
 go_wp2
 go_loopg [4, 5] k (fun kq v4 v5 w' => ∃ (x4_1 : List ByteArray) (x5_1 : Int), v5 = .int .i64 x5_1 ∧ Aa (Bo.l0 kq l0 x4_1 x5_1 = some (r1, r2)) ∧ Aa (kq ≤ k) ∧ Aa (Kd.R Kd.string 9 w' w.heap.size (fun _ => True) v4 x4_1) ∧ Aa (Below w.heap.size w w'))
 case atStart => exact ⟨(([] : List ByteArray)), (0), zqD, H', ⟨Nat.le_refl _⟩, ⟨by first | exact Kd.Di _ _ _ _ _ | exact Kd.N_nil _ _ _ _ _ | exact Kd.V_nil _ _ _ _ _ | exact Kd.Q_nil _ _ _ _ _ | exact Kd.S_nil _ _ _ _ _⟩, ⟨zqB⟩⟩
 case round =>
  clear H'
  obtain ⟨x4_1, x5_1, rfl, HA, HK1, HO_4, HB⟩ := hrel
  cases gk with
  | zero => exact absurd HA.out (by simp [Bo.l0])
  | succ k1 =>
   have H := HA.out
   clear HA
   simp only [Bo.l0] at H
   by_cases c2 : x5_1 < (l0.length : Int)
   ·rw [if_pos c2] at H
    have c2b0 : decide (x5_1 < (l0.length : Int)) = true := decide_eq_true c2
    clear c2
    by_cases c3 : 0 ≤ x5_1
    ·rw [if_pos c3] at H
     have c3b0 : decide (0 ≤ x5_1) = true := decide_eq_true c3
     clear c3
     replace H := Option.bind_eq_some_iff.mp H
     obtain ⟨⟨t280, t281⟩, A40, H⟩ := H
     replace H : (if t281 = 0 then (if x4_1.length < 8796093022208 then (Bo.l0 k1 l0 (x4_1 ++ [t280]) (wrap64 (x5_1 + 1))) else (none)) else (some (([] : List ByteArray), false))) = some (r1, r2) := H
     have A4 := Aa.mk A40
     clear A40
     by_cases c5 : t281 = 0
     ·rw [if_pos c5] at H
      have c5b0 : (t281 == 0) = true := beq_iff_eq.mpr c5
      have c5b1 : (t281 != 0) = false := bne_eq_false_iff_eq.mpr c5
      clear c5
      by_cases c6 : x4_1.length < 8796093022208
      ·rw [if_pos c6] at H
       have LMc6 := Aa.mk c6
       clear c6
       obtain ⟨y282, hy282⟩ : ∃ y_ : List ByteArray, y_ = (x4_1 ++ [t280]) := ⟨_, rfl⟩
       replace H : (Bo.l0 k1 l0 y282 (wrap64 (x5_1 + 1))) = some (r1, r2) := by first | (rw [hy282]; with_reducible exact H) | (have H2_ := (Option.bind_some _ _).symm.trans H; rw [hy282]; with_reducible exact H2_) | (have H2_ := (Option.bind_some _ _).symm.trans H; with_reducible exact H2_) | with_reducible exact H | (rw [hy282]; exact H) | exact H
       have Ny282 := Aa.mk hy282
       clear hy282
       have H' := Aa.mk H
       clear H
       have p279 : 0 ≤ (x5_1 : Int) := of_decide_eq_true zqA
       have q279 : x5_1 < (l0.length : Int) := of_decide_eq_true zqA
       obtain ⟨ad279, e279, hx279_0⟩ := Kd.Ct HR0.out x5_1 p279 q279
       cases e279
       replace hx279_0 := (HB.out.cell (World.block_lt_of_cell? w _ hx279_0)).trans hx279_0
       replace p279 := eq_true p279
       replace q279 := eq_true q279
       go_wp2_with (first | ((with_reducible refine Ck (f := 98) rfl ?_); refine Dx (some 19) rfl rfl Tryz.func98 (by kernel_rfl) rfl #[.string (rdOf ByteArray.empty l0 x5_1)] rfl zqC ?_; (with_reducible refine (Ak.calls k1 (rdOf ByteArray.empty l0 x5_1) t280 t281 _ A4.out).mono ?_); rintro e w7 ⟨rfl, hb⟩; refine ⟨_, rfl, ?_⟩; have n0_ := Aa.mk (Kd.Bj (by (with_reducible repeat (first | apply Kd.Cg | apply Kd.Cc | apply Kd.Cs)); exact HO_4.out) hb); have n1_ := Aa.mk (Fu zqB hb); clear HO_4; clear HB; have HO_4 := n0_; have HB := n1_; clear n0_ n1_; (try clear hb); (try clear hb2); (try clear hk); (try clear hi)) | ((with_reducible refine Cz (b := .append) (xs := #[.tmp 24, .tmp 26]) rfl ?_); at_builtin; refine Kd.Ep Kd.string (w0 := w) w.heap.size rfl (.tmp 24) (.tmp 26) 24 9 (.string ⟨#[]⟩) 16 rfl Tryz.underlying24 Hh rfl (by decide) (by omega) u4 x4_1 t280 [.string t280] (fun _ => True) (fun _ => False) rfl rfl ?aP (fun _ hk => hk.elim) ?aF ?aO ?aB ?aS ?aL ?_; (case aP => exact rfl); (case aB => exact zqB); (case aF => exact (fun _ _ => trivial)); (case aO => exact (by (with_reducible repeat (first | apply Kd.Cg | apply Kd.Cc | apply Kd.Cs)); exact HO_4.out)); (case aS => exact (E6 zqB)); (case aL => have := LMc6.out; omega); intro v283 w8 ho hb hg hat; rw [← Ny282.out] at ho; have n0_ := Aa.mk (hb); have n1_ := Aa.mk (ho); clear HB; clear HO_4; have HB := n0_; have HO284 := n1_; clear n0_ n1_; clear ho hb hg hat))
       go_roundg k1
       case measure => have := HK1.out; omega
       case rel => exact ⟨(y282), (wrap64 (x5_1 + 1)), zqD, H', ⟨by have := HK1.out; omega⟩, ⟨by (with_reducible repeat (first | apply Kd.Cg | apply Kd.Cc | apply Kd.Cs)); exact HO284.out⟩, ⟨zqB⟩⟩
      ·rw [if_neg c6] at H
       exact absurd H (by simp)
     ·rw [if_neg c5] at H
      have c5b0 : (t281 == 0) = false := beq_eq_false_iff_ne.mpr c5
      have c5b1 : (t281 != 0) = true := bne_iff_ne.mpr c5
      simp only [Option.some.injEq, Prod.mk.injEq] at H
      obtain ⟨rfl, rfl⟩ := H
      have p279 : 0 ≤ (x5_1 : Int) := of_decide_eq_true zqA
      have q279 : x5_1 < (l0.length : Int) := of_decide_eq_true zqA
      obtain ⟨ad279, e279, hx279_0⟩ := Kd.Ct HR0.out x5_1 p279 q279
      cases e279
      replace hx279_0 := (HB.out.cell (World.block_lt_of_cell? w _ hx279_0)).trans hx279_0
      replace p279 := eq_true p279
      replace q279 := eq_true q279
      go_wp2_with (first | ((with_reducible refine Ck (f := 98) rfl ?_); refine Dx (some 19) rfl rfl Tryz.func98 (by kernel_rfl) rfl #[.string (rdOf ByteArray.empty l0 x5_1)] rfl zqC ?_; (with_reducible refine (Ak.calls k1 (rdOf ByteArray.empty l0 x5_1) t280 t281 _ A4.out).mono ?_); rintro e w9 ⟨rfl, hb⟩; refine ⟨_, rfl, ?_⟩; have n0_ := Aa.mk (Kd.Bj (by (with_reducible repeat (first | apply Kd.Cg | apply Kd.Cc | apply Kd.Cs)); exact HO_4.out) hb); have n1_ := Aa.mk (Fu zqB hb); clear HO_4; clear HB; have HO_4 := n0_; have HB := n1_; clear n0_ n1_; (try clear hb); (try clear hb2); (try clear hk); (try clear hi)))
      go_ret2
      exact ⟨_, by first | rfl | (simp [Cp, Co] <;> rfl) | (simp [*, Cp, Co] <;> rfl), by first | exact Kd.Di _ _ _ _ _ | exact Kd.N_nil _ _ _ _ _ | exact Kd.V_nil _ _ _ _ _ | exact Kd.Q_nil _ _ _ _ _ | exact Kd.S_nil _ _ _ _ _, zqB⟩
    ·rw [if_neg c3] at H
     exact absurd H (by simp)
   ·rw [if_neg c2] at H
    have c2b0 : decide (x5_1 < (l0.length : Int)) = false := decide_eq_false c2
    clear c2
    simp only [Option.some.injEq, Prod.mk.injEq] at H
    obtain ⟨rfl, rfl⟩ := H
    go_wp2
    go_ret2
    exact ⟨_, by first | rfl | (simp [Cp, Co] <;> rfl) | (simp [*, Cp, Co] <;> rfl), by (with_reducible repeat (first | apply Kd.Cg | apply Kd.Cc | apply Kd.Cs)); exact HO_4.out, zqB⟩
end Go.Proofs.YtefheailchihaaaGreatDoor.Print
end
