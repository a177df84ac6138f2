/- Lists of statements in memory. -/
import Derived.Test.YtigefmobejclaaaDoorStmt
namespace Go.Proofs.YtigefmobejclaaaDoor
open Go.RowKit

theorem stCells_nil : stCells [] = [] := rfl
theorem stCells_cons (s : St) (r : List St) : stCells (s :: r) = s.cells ++ stCells r := by simp [stCells]
theorem stCells_append (xs ys : List St) : stCells (xs ++ ys) = stCells xs ++ stCells ys := by simp [stCells]
theorem stCells_length (xs : List St) : (stCells xs).length = xs.length * 6 := by
  induction xs with
  | nil => rfl
  | cons s r ih => rw [stCells_cons, List.length_append, ih, List.length_cons]; simp [St.cells]; omega
theorem stCells_get (xs : List St) (k j : Nat) (hj : j < 6) : (stCells xs)[k * 6 + j]? = xs[k]?.bind (fun s => s.cells[j]?) := by
  induction xs generalizing k with
  | nil => simp [stCells]
  | cons s r ih =>
    rw [stCells_cons]
    cases k with
    | zero =>
      rw [List.getElem?_append_left (by simp [St.cells]; omega)]
      simp
    | succ k =>
      rw [List.getElem?_append_right (by simp [St.cells]; omega)]
      have e : (k + 1) * 6 + j - s.cells.length = k * 6 + j := by simp [St.cells]; omega
      rw [e, ih k]; simp

/-- One statement of a list in memory. -/
theorem RdC.st {w : World} {ad : Option Addr} {xs : List St} (h : RdC w ad (stCells xs)) (k : Nat) (hk : k < xs.length) :
    ∃ (b off : Nat) (op dst sa sb sc sn : Int), ad = some ⟨b, off, none⟩ ∧ b < w.heap.size ∧ xs[k]? = some ⟨op, dst, sa, sb, sc, sn⟩ ∧
      w.cell? ⟨b, off + k * 6, none⟩ = some (.int .i64 op) ∧ w.cell? ⟨b, off + k * 6 + 1, none⟩ = some (.int .i64 dst) ∧ w.cell? ⟨b, off + k * 6 + 2, none⟩ = some (.int .i64 sa) ∧
      w.cell? ⟨b, off + k * 6 + 3, none⟩ = some (.int .i64 sb) ∧ w.cell? ⟨b, off + k * 6 + 4, none⟩ = some (.int .i64 sc) ∧ w.cell? ⟨b, off + k * 6 + 5, none⟩ = some (.int .i64 sn) := by
  have hl := stCells_length xs
  rcases h with h | ⟨b, off, h1, h2⟩
  · rw [h] at hl; simp at hl; omega
  · have hx : xs[k]? = some xs[k] := List.getElem?_eq_getElem hk
    obtain ⟨op, dst, sa, sb, sc, sn, hs⟩ : ∃ op dst sa sb sc sn, xs[k] = (⟨op, dst, sa, sb, sc, sn⟩ : St) := ⟨_, _, _, _, _, _, rfl⟩
    rw [hs] at hx
    have at_ : ∀ j (hj : j < 6) v, (⟨op, dst, sa, sb, sc, sn⟩ : St).cells[j]? = some v → w.cell? ⟨b, off + k * 6 + j, none⟩ = some v := by
      intro j hj v hv
      have hlt : k * 6 + j < (stCells xs).length := by omega
      have := stCells_get xs k j hj
      rw [hx, Option.bind_some, hv, List.getElem?_eq_getElem hlt] at this
      rw [Nat.add_assoc, h2 _ hlt, Option.some.inj this]
    have h0 := at_ 0 (by omega) _ rfl
    exact ⟨b, off, op, dst, sa, sb, sc, sn, h1, lt_of_cell h0, hx, h0, at_ 1 (by omega) _ rfl, at_ 2 (by omega) _ rfl, at_ 3 (by omega) _ rfl, at_ 4 (by omega) _ rfl, at_ 5 (by omega) _ rfl⟩


theorem take_snocS {xs : List St} {k : Nat} {s : St} (h : xs[k]? = some s) : xs.take (k + 1) = xs.take k ++ [s] := by
  rw [List.take_add_one, h]; rfl
theorem depF_snoc {xs : List St} {k : Nat} {s : St} {d : Int} (h : xs[k]? = some s) (hd : depF 0 (xs.take k) = some d) (hs : stOk s = true) (hb : inB (stepD d s) 0 3 = true) :
    depF 0 (xs.take (k + 1)) = some (stepD d s) := by
  rw [take_snocS h, depF_append, hd]; simp [depF, hs, hb]
theorem depF_bad {xs : List St} {k : Nat} {s : St} {d : Int} (h : xs[k]? = some s) (hd : depF 0 (xs.take k) = some d) (hs : stOk s = false ∨ inB (stepD d s) 0 3 = false) : progOk xs = false := by
  have e : depF 0 xs = none := by
    have e2 : xs = xs.take (k + 1) ++ xs.drop (k + 1) := (List.take_append_drop _ _).symm
    rw [e2, depF_append, take_snocS h, depF_append, hd]
    rcases hs with hs | hs <;> simp [depF, hs]
  simp [progOk, e]
theorem depF_lo {xs : List St} {d e : Int} (h : depF d xs = some e) (hd : 0 ≤ d ∧ d ≤ 3) : 0 ≤ e ∧ e ≤ 3 := by
  induction xs generalizing d with
  | nil => simp [depF] at h; omega
  | cons s r ih =>
    simp only [depF] at h
    split at h
    case isFalse => cases h
    case isTrue hc => simp only [Bool.and_eq_true, inB_iff] at hc; exact ih h hc.2
theorem progOk_end {xs : List St} {k : Nat} {d : Int} (hd : depF 0 (xs.take k) = some d) (hk : xs.length ≤ k) : progOk xs = (decide (xs.length ≤ 40) && (d == 0)) := by
  rw [List.take_of_length_le hk] at hd
  rw [progOk, hd]
  by_cases h : d = 0
  · subst h; simp
  · simp [h]

/-- Six numbers each are statements. -/
theorem st_of_ints (n : Nat) : ∀ ns : List Int, ns.length = n * 6 → ∃ xs : List St, xs.length = n ∧ stCells xs = I64 ns := by
  induction n with
  | zero => intro ns h; exact ⟨[], rfl, by rw [List.eq_nil_of_length_eq_zero (by omega : ns.length = 0)]; rfl⟩
  | succ n ih =>
    intro ns h
    match ns, h with
    | a :: b :: c :: d :: e :: f :: r, h =>
      obtain ⟨xs, h1, h2⟩ := ih r (by simp at h; omega)
      exact ⟨⟨a, b, c, d, e, f⟩ :: xs, by simp [h1], by rw [stCells_cons, h2]; rfl⟩
    | [], h => simp at h
    | [_], h => simp at h; omega
    | [_, _], h => simp at h; omega
    | [_, _, _], h => simp at h; omega
    | [_, _, _, _], h => simp at h; omega
    | [_, _, _, _, _], h => simp at h; omega
end Go.Proofs.YtigefmobejclaaaDoor
