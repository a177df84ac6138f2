/- Gates: values, cells, lists of gates in memory, validity. -/
import Derived.Test.YtfcijloiebnloaaGate
import Derived.Test.YtfcijloiebnloaaHeap
namespace Go.Proofs.Ytfcijloiebnloaa
open Go.RowKit
set_option linter.unusedVariables false

structure Gt where
  kd : Int
  ga : Int
  gb : Int
deriving DecidableEq
def Gt.cells (s : Gt) : List Value := [.int .i64 s.kd, .int .i64 s.ga, .int .i64 s.gb]
def gtCells (ss : List Gt) : List Value := ss.flatMap Gt.cells
def gtV (s : Gt) : Value := .agg #[.int .i64 s.kd, .int .i64 s.ga, .int .i64 s.gb]
theorem gtCells_nil : gtCells [] = [] := rfl
theorem gtCells_cons (s : Gt) (r : List Gt) : gtCells (s :: r) = s.cells ++ gtCells r := by simp [gtCells]
theorem gtCells_append (xs ys : List Gt) : gtCells (xs ++ ys) = gtCells xs ++ gtCells ys := by simp [gtCells]
theorem gtCells_length (xs : List Gt) : (gtCells xs).length = xs.length * 3 := by
  induction xs with
  | nil => rfl
  | cons s r ih => rw [gtCells_cons, List.length_append, ih, List.length_cons]; simp [Gt.cells]; omega
theorem gtCells_one (xs : List Gt) : ∀ u ∈ gtCells xs, u.oneCell' = true := by
  intro u hu
  simp only [gtCells, List.mem_flatMap, Gt.cells] at hu
  obtain ⟨s, _, hs⟩ := hu
  simp at hs
  rcases hs with rfl | rfl | rfl <;> rfl
theorem gtCells_get (xs : List Gt) (k j : Nat) (hj : j < 3) : (gtCells xs)[k * 3 + j]? = xs[k]?.bind (fun s => s.cells[j]?) := by
  induction xs generalizing k with
  | nil => simp [gtCells]
  | cons s r ih =>
    rw [gtCells_cons]
    cases k with
    | zero =>
      rw [List.getElem?_append_left (by simp [Gt.cells]; omega)]
      simp
    | succ k =>
      rw [List.getElem?_append_right (by simp [Gt.cells]; omega)]
      have e : (k + 1) * 3 + j - s.cells.length = k * 3 + j := by simp [Gt.cells]; omega
      rw [e, ih k]; simp

/-- One gate of a list in memory. -/
theorem RdC.gt {w : World} {ad : Option Addr} {xs : List Gt} (h : RdC w ad (gtCells xs)) (k : Nat) (hk : k < xs.length) :
    ∃ (b off : Nat) (kd ga gb : Int), ad = some ⟨b, off, none⟩ ∧ b < w.heap.size ∧ xs[k]? = some ⟨kd, ga, gb⟩ ∧
      w.cell? ⟨b, off + k * 3, none⟩ = some (.int .i64 kd) ∧ w.cell? ⟨b, off + k * 3 + 1, none⟩ = some (.int .i64 ga) ∧ w.cell? ⟨b, off + k * 3 + 2, none⟩ = some (.int .i64 gb) := by
  have hl := gtCells_length xs
  rcases h with h | ⟨b, off, h1, h2⟩
  · rw [h] at hl; simp at hl; omega
  · have hx : xs[k]? = some xs[k] := List.getElem?_eq_getElem hk
    obtain ⟨kd, ga, gb, hs⟩ : ∃ kd ga gb, xs[k] = (⟨kd, ga, gb⟩ : Gt) := ⟨_, _, _, rfl⟩
    rw [hs] at hx
    have at_ : ∀ j (hj : j < 3) v, (⟨kd, ga, gb⟩ : Gt).cells[j]? = some v → w.cell? ⟨b, off + k * 3 + j, none⟩ = some v := by
      intro j hj v hv
      have hlt : k * 3 + j < (gtCells xs).length := by omega
      have := gtCells_get xs k j hj
      rw [hx, Option.bind_some, hv, List.getElem?_eq_getElem hlt] at this
      rw [Nat.add_assoc, h2 _ hlt, Option.some.inj this]
    have h0 := at_ 0 (by omega) _ rfl
    exact ⟨b, off, kd, ga, gb, h1, lt_of_cell h0, hx, h0, at_ 1 (by omega) _ rfl, at_ 2 (by omega) _ rfl⟩
theorem take_snoc {α : Type} {xs : List α} {k : Nat} {s : α} (h : xs[k]? = some s) : xs.take (k + 1) = xs.take k ++ [s] := by
  rw [List.take_add_one, h]; rfl

/-- Three numbers each are gates. -/
theorem gt_of_ints (n : Nat) : ∀ ns : List Int, ns.length = n * 3 → ∃ xs : List Gt, xs.length = n ∧ gtCells xs = I64 ns := by
  induction n with
  | zero => intro ns h; exact ⟨[], rfl, by rw [List.eq_nil_of_length_eq_zero (by omega : ns.length = 0)]; rfl⟩
  | succ n ih =>
    intro ns h
    match ns, h with
    | a :: b :: c :: r, h =>
      obtain ⟨xs, h1, h2⟩ := ih r (by simp at h; omega)
      exact ⟨⟨a, b, c⟩ :: xs, by simp [h1], by rw [gtCells_cons, h2]; rfl⟩
    | [], h => simp at h
    | [_], h => simp at h; omega
    | [_, _], h => simp at h; omega

/-- Every gate is valid at its place. -/
def gtsOk : Nat → List Gt → Bool
  | _, [] => true
  | i, g :: r => gateOk g.kd g.ga g.gb i && gtsOk (i + 1) r
theorem gtsOk_append (i : Nat) (xs ys : List Gt) : gtsOk i (xs ++ ys) = (gtsOk i xs && gtsOk (i + xs.length) ys) := by
  induction xs generalizing i with
  | nil => simp [gtsOk]
  | cons g r ih => simp [gtsOk, ih, Bool.and_assoc, Nat.add_assoc, Nat.add_comm 1]
theorem gtsOk_snoc {xs : List Gt} {k : Nat} {g : Gt} (h : xs[k]? = some g) (h1 : gtsOk 0 (xs.take k) = true) (h2 : gateOk g.kd g.ga g.gb k = true) : gtsOk 0 (xs.take (k + 1)) = true := by
  obtain ⟨hk, _⟩ := List.getElem?_eq_some_iff.1 h
  rw [take_snoc h, gtsOk_append, h1]
  simp [gtsOk, Nat.min_eq_left (Nat.le_of_lt hk), h2]
theorem gtsOk_bad {xs : List Gt} {k : Nat} {g : Gt} (h : xs[k]? = some g) (h2 : gateOk g.kd g.ga g.gb k = false) : gtsOk 0 xs = false := by
  obtain ⟨hk, _⟩ := List.getElem?_eq_some_iff.1 h
  rw [← List.take_append_drop (k + 1) xs, gtsOk_append, take_snoc h, gtsOk_append]
  simp [gtsOk, Nat.min_eq_left (Nat.le_of_lt hk), h2]
theorem gtsOk_at {xs : List Gt} {k : Nat} {g : Gt} (h : gtsOk 0 xs = true) (hg : xs[k]? = some g) : gateOk g.kd g.ga g.gb k = true := by
  cases e : gateOk g.kd g.ga g.gb k
  · rw [gtsOk_bad hg e] at h; cases h
  · rfl
def circOk (gs : List Gt) (os : List Int) : Bool := (gtsOk 0 gs && allB os 0 ((gs.length : Int) - 1)) && decide (gs.length ≤ 6000)
end Go.Proofs.Ytfcijloiebnloaa
