/- What a slice reads as, and how it lasts: no program in sight. -/
import Derived.WalkKit
import Derived.WalkSpells
import Derived.Lib.Hide
namespace Go.Proofs.Ytjibbkigjcncdaa
open Go.RowKit

/-- The cells from an address on are these. -/
def RdC (w : World) (ad : Option Addr) (cs : List Value) : Prop :=
  cs = [] ∨ ∃ b off, ad = some ⟨b, off, none⟩ ∧ ∀ i (h : i < cs.length), w.cell? ⟨b, off + i, none⟩ = some cs[i]

/-- A list of numbers as cells. -/
def I64 (xs : List Int) : List Value := xs.map (Value.int .i64)

@[simp] theorem I64_length (xs : List Int) : (I64 xs).length = xs.length := by simp [I64]
@[simp] theorem I64_nil : I64 [] = [] := rfl
theorem I64_append (xs ys : List Int) : I64 (xs ++ ys) = I64 xs ++ I64 ys := by simp [I64]
theorem I64_get (xs : List Int) (i : Nat) (h : i < xs.length) : (I64 xs)[i]'(by simpa using h) = .int .i64 xs[i] := by simp [I64]

theorem RdC.nil (w : World) (ad : Option Addr) : RdC w ad [] := .inl rfl

/-- Where there is an element, there is an address. -/
theorem RdC.at {w : World} {ad : Option Addr} {xs : List Int} (h : RdC w ad (I64 xs)) (k : Nat) (hk : k < xs.length) :
    ∃ b off, ad = some ⟨b, off, none⟩ ∧ ∀ i (h : i < xs.length), w.cell? ⟨b, off + i, none⟩ = some (.int .i64 xs[i]) := by
  rcases h with h | ⟨b, off, h1, h2⟩
  · have := congrArg List.length h; simp only [I64_length, List.length_nil] at this; omega
  · exact ⟨b, off, h1, fun i hi => by rw [h2 i (by simpa using hi), I64_get xs i hi]⟩

theorem RdC.of_cell {w w' : World} {ad : Option Addr} {cs : List Value} (h : RdC w ad cs) (hc : ∀ a v, w.cell? a = some v → w'.cell? a = some v) : RdC w' ad cs := by
  rcases h with h | ⟨b, off, h1, h2⟩
  · exact .inl h
  · exact .inr ⟨b, off, h1, fun i hi => hc _ _ (h2 i hi)⟩

theorem lt_of_cell {w : World} {a : Addr} {v : Value} (h : w.cell? a = some v) : a.block < w.heap.size := by
  unfold World.cell? at h
  split at h
  · rename_i hb
    exact (Array.getElem?_eq_some_iff.1 hb).1
  · cases h

theorem RdC.below {w w' : World} {ad : Option Addr} {cs : List Value} (h : RdC w ad cs) (hb : Below w.heap.size w w') : RdC w' ad cs :=
  h.of_cell fun _ _ ha => (hb.cell (lt_of_cell ha)).trans ha

theorem RdC.own {w : World} {base e : Nat} {v : Value} {n : Nat} {cs : List Value} {size : Nat} (h : w.ownsRow base e size v n cs) : ∃ ad cap, v = .slice ad n cap ∧ RdC w ad cs := by
  have hl := h.1
  have h2 := h.2
  rcases h2 with ⟨h2, h3⟩ | ⟨g, cap, cur, h2, h3, h4, h5, h6, h7, h8⟩
  · subst h3; exact ⟨none, 0, h2, .inl (by apply List.eq_nil_of_length_eq_zero; simpa using hl)⟩
  · refine ⟨some ⟨g, 0, none⟩, cap, h2, .inr ⟨g, 0, rfl, fun i hi => ?_⟩⟩
    subst h2
    rw [Nat.zero_add, h.cellAt i (by omega)]
    exact List.getElem?_eq_getElem hi

theorem RdC.alloc (w : World) (cs : Array Value) (t : TypeId) : RdC (w.alloc (.cells cs t)) (some ⟨w.heap.size, 0, none⟩) cs.toList := by
  refine .inr ⟨w.heap.size, 0, rfl, fun i hi => ?_⟩
  rw [Nat.zero_add, World.cell?, show (w.alloc (.cells cs t)).heap[w.heap.size]? = some (.cells cs t) from heap_alloc_new w _]
  simp only [Option.isSome_none, Bool.false_eq_true, if_false]
  rw [Array.getElem?_eq_getElem (by simpa using hi)]; simp

/-- What stood before a call stands behind it. -/
theorem bel_keeps {W w' : World} (h : Below W.heap.size W w') {b o : Nat} {v : Value} (hc : W.cell? ⟨b, o, none⟩ = some v) : w'.cell? ⟨b, o, none⟩ = some v := (h.cell (lt_of_cell hc)).trans hc
theorem bel_next {B : Nat} {a w w' : World} (h : Below B a w) (hB : B ≤ w.heap.size) (k : Below w.heap.size w w') : Below B a w' := h.trans (k.mono hB)

theorem Grown.of_below {w w' : World} (h : Below w.heap.size w w') (hf : ∀ a, w'.frozen? a = w.frozen? a) : Grown w w' := ⟨h.frame _, hf, h.size⟩

/-- All numbers are in a range. -/
def inB (x a b : Int) : Bool := decide (a ≤ x) && decide (x ≤ b)
theorem inB_iff {x a b : Int} : inB x a b = true ↔ a ≤ x ∧ x ≤ b := by simp [inB]
theorem inB_false {x a b : Int} : inB x a b = false ↔ ¬ (a ≤ x ∧ x ≤ b) := by rw [← inB_iff]; simp
def allB (xs : List Int) (a b : Int) : Bool := xs.all (fun x => inB x a b)
theorem allB_nil (a b : Int) : allB [] a b = true := rfl
theorem allB_iff {xs : List Int} {a b : Int} : allB xs a b = true ↔ ∀ x ∈ xs, a ≤ x ∧ x ≤ b := by simp [allB, inB]
theorem allB_snoc {xs : List Int} {a b : Int} {k : Nat} (hk : k < xs.length) (h : allB (xs.take k) a b = true) (h2 : inB xs[k] a b = true) : allB (xs.take (k + 1)) a b = true := by
  rw [List.take_succ_eq_append_getElem hk]; simp only [allB, List.all_append, List.all_cons, List.all_nil, Bool.and_true, Bool.and_eq_true] at *; exact ⟨h, h2⟩
theorem allB_fail {xs : List Int} {a b : Int} {k : Nat} (hk : k < xs.length) (h2 : inB xs[k] a b = false) : allB xs a b = false := by
  simp only [allB, List.all_eq_false]
  exact ⟨xs[k], List.getElem_mem hk, by simp [h2]⟩
theorem allB_full {xs : List Int} {a b : Int} {k : Nat} (hk : xs.length ≤ k) (h : allB (xs.take k) a b = true) : allB xs a b = true := by rwa [List.take_of_length_le hk] at h

theorem ret_bool {a b : Bool} (h : a = b) : Ending.returned (.bool a) = .returned (.bool b) := by rw [h]
theorem ret_int {a b : Int} (h : a = b) : Ending.returned (.int .i64 a) = .returned (.int .i64 b) := by rw [h]

end Go.Proofs.Ytjibbkigjcncdaa
