/- The builders of words, plainly: which gates they append, and which wires they return. -/
import Derived.Test.YtfcijloiebnloaaEvP
namespace Go.Proofs.Ytfcijloiebnloaa
open Go.RowKit
set_option linter.unusedVariables false
set_option linter.unusedSimpArgs false

/-- Rounds that each append gates and yield one wire. -/
def rnds (f : List Gt → Nat → List Gt × Int) (gs : List Gt) : Nat → List Gt × List Int
  | 0 => (gs, [])
  | k + 1 => ((f (rnds f gs k).1 k).1, (rnds f gs k).2 ++ [(f (rnds f gs k).1 k).2])
theorem rnds_len (f : List Gt → Nat → List Gt × Int) (gs : List Gt) : ∀ k, (rnds f gs k).2.length = k
  | 0 => rfl
  | k + 1 => by simp [rnds, rnds_len f gs k]
def put1 (gs : List Gt) (g : Gt) : List Gt × Int := (gs ++ [g], (gs.length : Int))
def bitN (n : Int) (k : Nat) : Int := bits .and .i64 (n / 2 ^ k) 1
def constP (n : Int) (gs : List Gt) : List Gt × List Int := rnds (fun h k => put1 h ⟨2, (n / 2 ^ k) % 2, 0⟩) gs 4
def inputP (m : Int) (gs : List Gt) : List Gt × List Int := rnds (fun h k => put1 h ⟨1, m * 4 + k, 0⟩) gs 4
def notsP (b : List Int) (gs : List Gt) : List Gt × List Int := rnds (fun h k => put1 h ⟨5, at0 b k, 0⟩) gs 4
def bitsP (kd : Int) (a b : List Int) (gs : List Gt) : List Gt × List Int := rnds (fun h k => put1 h ⟨kd, at0 a k, at0 b k⟩) gs 4
def muxP (s : Int) (a b : List Int) (gs : List Gt) : List Gt × List Int :=
  rnds (fun h k => (h ++ [⟨3, at0 a k, at0 b k⟩, ⟨4, s, h.length⟩, ⟨3, (h.length : Int) + 1, at0 b k⟩], (h.length : Int) + 2)) gs 4
def eqsP (a b : List Int) (gs : List Gt) : List Gt × List Int :=
  rnds (fun h k => (h ++ [⟨3, at0 a k, at0 b k⟩, ⟨5, h.length, 0⟩], (h.length : Int) + 1)) gs 4
/-- The and of the wires of a list. -/
def andsP (l : List Int) (gs : List Gt) : Nat → List Gt × Int
  | 0 => (gs, at0 l 0)
  | k + 1 => ((andsP l gs k).1 ++ [⟨4, (andsP l gs k).2, at0 l (k + 1 : Nat)⟩], ((andsP l gs k).1.length : Int))
def equalP (a b : List Int) (gs : List Gt) : List Gt × Int := andsP (eqsP a b gs).2 (eqsP a b gs).1 3
/-- A full adder: the sum is the third wire, the next carry the fifth. -/
def fullG (gs : List Gt) (a b c : Int) : List Gt := gs ++ [⟨3, a, c⟩, ⟨3, b, c⟩, ⟨3, a, (gs.length : Int) + 1⟩, ⟨4, gs.length, (gs.length : Int) + 1⟩, ⟨3, (gs.length : Int) + 3, c⟩]
/-- Full adders one behind the other: gates, carry, sums. -/
def fullsP (a b : List Int) (c : Int) (gs : List Gt) : Nat → List Gt × Int × List Int
  | 0 => (gs, c, [])
  | k + 1 => (fullG (fullsP a b c gs k).1 (at0 a k) (at0 b k) (fullsP a b c gs k).2.1, ((fullsP a b c gs k).1.length : Int) + 4, (fullsP a b c gs k).2.2 ++ [((fullsP a b c gs k).1.length : Int) + 2])
/-- The sum of two lists of wires of length n + 1. -/
def sumP (a b : List Int) (first : Int) (n : Nat) (gs : List Gt) : List Gt × List Int :=
  ((fullsP a b gs.length (gs ++ [⟨2, first, 0⟩]) n).1 ++ [⟨3, at0 a n, at0 b n⟩, ⟨3, ((fullsP a b gs.length (gs ++ [⟨2, first, 0⟩]) n).1.length : Int), (fullsP a b gs.length (gs ++ [⟨2, first, 0⟩]) n).2.1⟩],
   (fullsP a b gs.length (gs ++ [⟨2, first, 0⟩]) n).2.2 ++ [((fullsP a b gs.length (gs ++ [⟨2, first, 0⟩]) n).1.length : Int) + 1])
def subP (a b : List Int) (gs : List Gt) : List Gt × List Int := sumP a (notsP b gs).2 1 3 (notsP b gs).1
def lessP (a b : List Int) (gs : List Gt) : List Gt × Int :=
  ((fullsP a (notsP b gs).2 (notsP b gs).1.length ((notsP b gs).1 ++ [⟨2, 1, 0⟩]) 4).1 ++ [⟨5, (fullsP a (notsP b gs).2 (notsP b gs).1.length ((notsP b gs).1 ++ [⟨2, 1, 0⟩]) 4).2.1, 0⟩],
   ((fullsP a (notsP b gs).2 (notsP b gs).1.length ((notsP b gs).1 ++ [⟨2, 1, 0⟩]) 4).1.length : Int))
/-- One row of products. -/
def rowP (y : Int) (a : List Int) (n : Nat) (gs : List Gt) : List Gt × List Int := rnds (fun h k => put1 h ⟨4, y, at0 a k⟩) gs n
/-- The rows of a product, added one by one. -/
def mulR (a b : List Int) (gs : List Gt) : Nat → List Gt × List Int
  | 0 => rowP (at0 b 0) a 4 gs
  | i + 1 => ((sumP ((mulR a b gs i).2.drop (i + 1)) (rowP (at0 b (i + 1 : Nat)) a (3 - i) (mulR a b gs i).1).2 0 (2 - i) (rowP (at0 b (i + 1 : Nat)) a (3 - i) (mulR a b gs i).1).1).1,
    (mulR a b gs i).2.take (i + 1) ++ (sumP ((mulR a b gs i).2.drop (i + 1)) (rowP (at0 b (i + 1 : Nat)) a (3 - i) (mulR a b gs i).1).2 0 (2 - i) (rowP (at0 b (i + 1 : Nat)) a (3 - i) (mulR a b gs i).1).1).2)
def mulP (a b : List Int) (gs : List Gt) : List Gt × List Int := mulR a b gs 3
end Go.Proofs.Ytfcijloiebnloaa
