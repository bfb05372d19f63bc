/- What this text brings: the steps of a region that draws its order, told as a list of numbers, one step's text for all of them (what has come up is a number's bits). -/
import Derived.Test.YtkihlcmjjoiccaaWTab
namespace Go.Proofs.YtkihlcmjjoiccaaW.PrintLast
open Go.RowKit Go.Proofs.YtkihlcmjjoiccaaW.PrintWords
def bt (m : Nat) : Nat → List Bool
  | 0 => []
  | n + 1 => (m % 2 == 1) :: bt (m / 2) n
/-- The first n bits of m. -/
def qq (n m : Nat) : Array Bool := (bt m n).toArray
structure Ord (o : List (Nat × Nat × Nat)) (p : Prop) : Prop where
  out : p
theorem ord_ (o : List (Nat × Nat × Nat)) {p : Prop} (h : Ord o p) : p := h.out
theorem oend_ {p : Prop} (h : p) : Ord [] p := ⟨h⟩
structure OrdK (i m' : Nat) (o : List (Nat × Nat × Nat)) (p : Prop) : Prop where
  out : p
theorem kk_ (k : Nat) {i m' : Nat} {o : List (Nat × Nat × Nat)} {p : Prop} (h : OrdK i m' o p) : Ord ((k, i, m') :: o) p := ⟨h.out⟩
section
variable {P : Program} {md : Region.Mode} {ops : Array Oper} {Q : Exit → Act → World → Prop} {S : World → Prop} {ds : List Nat} {T : Bool × List (List Nat × List Nat)} {B : List Nat}
variable {i n m m' fuel : Nat} {o : List (Nat × Nat × Nat)} {N : Tmp} {oi : Oper} {v : Value} {a : Act} {w : World}
theorem oP_ (hT : Aside0 (rtab md ops = T)) (hi : ops[i]? = some oi) (hN : oi.dst = some N) (hc : anyT T (bt m n) (bt m' n) i = true)
    (hQ : ∀ c a w, Q (.panic c) (a.put oi.dst v) w → Q (.panic c) a w) (hy : Yields P ops oi v a) {a' : Act} (ha : a.put (some N) v = a')
    (h : Ord o (wpAnyLast P md ops Q S ds fuel (qq n m') a' w)) : OrdK i m' o (wpAnyLast P md ops Q S ds (fuel + 1) (qq n m) a w) :=
  ⟨pure_ (qq n m') hi hN (any_of hT.out hc) hQ hy ha h.out⟩
theorem oT_ (hT : Aside0 (rtab md ops = T)) (hB : Aside0 (waitsOk T.2 B = true)) (hi : ops[i]? = some oi) (hN : oi.dst = some N) (hc : takeW T B ds (bt m n) (bt m' n) i = true)
    (hQ : ∀ c a w, Q (.panic c) (a.put oi.dst v) w → Q (.panic c) a w) (hy : YieldsIf P ops S oi v a) (hS : S w) {a' : Act} (ha : a.put (some N) v = a')
    (h : Ord o (wpAnyLast P md ops Q S ds fuel (qq n m') a' w)) : OrdK i m' o (wpAnyLast P md ops Q S ds (fuel + 1) (qq n m) a w) :=
  ⟨take_ (qq n m') hi hN (take_ofW hT.out hB.out hc) hQ hy hS ha h.out⟩
end
end Go.Proofs.YtkihlcmjjoiccaaW.PrintLast
