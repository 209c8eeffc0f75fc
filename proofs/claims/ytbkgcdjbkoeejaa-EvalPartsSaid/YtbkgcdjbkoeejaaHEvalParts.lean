/- The law EvalParts, walked: the printed walk over its plain law. -/
import Derived.Test.YtbkgcdjbkoeejaaPureEvalParts
import Derived.Test.YtbkgcdjbkoeejaaOpens
namespace Go.Proofs.Ytbkgcdjbkoeejaa.Print
open Go.RowKit Go.Lib Go.Proofs.YtbkgcdjbkoeejaaW.PrintWords Go.Proofs.YtbkgcdjbkoeejaaW.PrintLast

theorem texts22 {l : List S34} (h : Small22 l) : textsOk 140737488351232 l := fun k hk => by
  have := h.2 l[k] (List.getElem_mem hk)
  rw [rd_get l k hk]
  exact this
theorem EvalParts_walk (w : World) (a0 : ByteArray) (h0 : a0.size ≤ 140737488351232) (a1 : ByteArray) (h1 : a1.size ≤ 140737488351232) (A2 : Option Addr) (c2 : Nat) (l2 : List S34) (hr2 : Kd.C k34 w A2 l2.length l2) (hc2 : l2.length ≤ c2) (hs2 : Small22 l2)
    (A3 : Option Addr) (c3 : Nat) (l3 : List S34) (hr3 : Kd.C k34 w A3 l3.length l3) (hc3 : l3.length ≤ c3) (hs3 : Small22 l3) :
    Calls Try.prog 7 #[.string a0, .string a1, .slice A2 l2.length c2, .slice A3 l3.length c3] w fun e w' => e = .returned (.bool true) ∧ Below w.heap.size w w' :=
  cruciblelaw5_EvalParts.calls (enough 140737488351232 l2 + 400 + 1) a0 a1 A2 c2 l2 A3 c3 l3 true w hr2 hc2 hr3 hc3
    (parts_true 140737488351232 (by decide) a0 a1 h0 h1 l2 l3 (by have := hs2.1; omega) (texts22 hs2) (long_of (texts22 hs2) (by decide)) (long_of (texts22 hs3) (by decide)) _ (Nat.le_refl _))
end Go.Proofs.Ytbkgcdjbkoeejaa.Print
