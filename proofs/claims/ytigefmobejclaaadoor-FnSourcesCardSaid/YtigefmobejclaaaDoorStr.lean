/- A list of texts in memory, and one more behind it. -/
import Derived.Test.YtigefmobejclaaaDoorLib
import Derived.Test.YtigefmobejclaaaDoorApp
namespace Go.Proofs.YtigefmobejclaaaDoor
open Go.RowKit
set_option linter.unusedVariables false

theorem el_str : El 50 9 1 16 (.string ByteArray.empty) := by
  have hi : (Tryd.prog.info? 9).map (fun i => (i.zero, i.size, i.bytes)) = some (some (.string ByteArray.empty), 1, 16) := by kernel_rfl
  obtain ⟨i0, hi, hz0, hz1, hz2⟩ := info_parts hi
  exact ⟨⟨i0, Tryd.underlying50, hi, hz0, hz1, hz2⟩, rfl, by omega⟩
theorem strV_one (xs : List Bs) : ∀ u ∈ strV xs, u.oneCell' = true := by
  intro u hu
  obtain ⟨n, _, rfl⟩ := List.mem_map.1 hu
  rfl
theorem strV_append (xs ys : List Bs) : strV (xs ++ ys) = strV xs ++ strV ys := by simp [strV]
theorem strV_get (xs : List Bs) (i : Nat) (h : i < xs.length) : (strV xs)[i]'(by simpa using h) = .string (bA xs[i]) := by simp [strV]

section
variable {ops : Array Oper} {rest : List Oper} {o : Oper} {a : Act} {Q : Exit → Act → World → Prop}
/-- One text behind a row. -/
theorem wpList_pushS (w : World) (hgd : o.guard = none) (s x : Operand) (ho : o.op = .call { callee := .builtin .append, args := #[s, x], argTypes := #[50, 50] })
    (lo g n cap : Nat) (xs : List Bs) (v : Bs) (B c : Nat) (hs : a.eval s = .slice (some ⟨g, 0, none⟩) n cap) (hx : a.eval x = .slice (some ⟨B, 0, none⟩) 1 c)
    (hown : Own w lo 9 1 (some ⟨g, 0, none⟩) n cap (strV xs)) (hnew : w.cell? ⟨B, 0, none⟩ = some (.string (bA v))) (hn : n < 1099511627) (hlo : lo ≤ w.heap.size)
    (h : ∀ g' cap' w', Own w' lo 9 1 (some ⟨g', 0, none⟩) (n + 1) cap' (strV (xs ++ [v])) → Below lo w w' → w.grownBy w' (some g) → (g' = g ∨ g' = w.heap.size) → wpList Tryd.prog ops Q rest (a.put o.dst (.slice (some ⟨g', 0, none⟩) (n + 1) cap')) w') :
    wpList Tryd.prog ops Q (o :: rest) a w :=
  wpList_appm w hgd el_str s x ho lo g n cap (strV xs) (strV [v]) (some ⟨B, 0, none⟩) 1 c hs hx hown rfl
    (.inr ⟨B, 0, rfl, fun j hj => by have : j = 0 := by simpa [strV] using hj
                                     subst this; exact hnew⟩) (strV_one [v]) (by intro h; cases h) (by omega) (by omega) hlo
    fun g' cap' w' h1 h2 h3 h4 => h g' cap' w' (by rw [strV_append]; exact h1) h2 h3 h4
end
end Go.Proofs.YtigefmobejclaaaDoor
