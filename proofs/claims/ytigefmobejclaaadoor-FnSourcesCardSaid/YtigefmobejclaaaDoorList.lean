/- Contracts of the laws' helpers over slices of numbers: copy, compare, mark, look whether the marks are held. -/
import Derived.Test.YtigefmobejclaaaDoorScal
import Derived.Deep.QuietTactic
import Derived.BigQuiet
import Derived.Deep.AppendLies
namespace Go.Proofs.YtigefmobejclaaaDoor
open Go.RowKit

theorem info_int : (Tryd.prog.info? 3).map (fun i => (i.zero, i.size, i.bytes)) = some (some (.int .i64 0), 1, 8) := by kernel_rfl

theorem Kp.own {w w' : World} {lo e size : Nat} {ad : Option Addr} {n cap : Nat} {cs : List Value} {b : Nat} (h : Own w lo e size ad n cap cs) (hb : b < lo) (hg : w.grownBy w' (ad.map (·.block))) : Kp b w w' :=
  (Kp.refl b w).grown hg (fun e => by
    cases ad with
    | none => cases e
    | some a => have := h.blk a rfl; simp only [Option.map_some, Option.some.injEq] at e; omega)

section
variable {ops : Array Oper} {rest : List Oper} {o : Oper} {a : Act} {Q : Exit → Act → World → Prop} {K : Act → World → Prop} {E : Prop}

/-- 'append(out, v)', out of the call's own, in a plain region. -/
theorem wpList_app1 (W : World) (hgd : o.guard = none) (s x : Operand) (ho : o.op = .call { callee := .builtin .append, args := #[s, x], argTypes := #[46, 46] })
    (lo n cap : Nat) (ad : Option Addr) (xs : List Int) (v : Int) (B c : Nat) (hs : a.eval s = .slice ad n cap) (hx : a.eval x = .slice (some ⟨B, 0, none⟩) 1 c)
    (hown : Own W lo 3 1 ad n cap (I64 xs)) (hnew : W.cell? ⟨B, 0, none⟩ = some (.int .i64 v)) (hn : n < 1099511627776) (hlo : lo ≤ W.heap.size)
    (h : ∀ g cap' w', Own w' lo 3 1 (some ⟨g, 0, none⟩) (n + 1) cap' (I64 (xs ++ [v])) → Below lo W w' → W.grownBy w' (ad.map (·.block)) → wpList Tryd.prog ops Q rest (a.put o.dst (.slice (some ⟨g, 0, none⟩) (n + 1) cap')) w') :
    wpList Tryd.prog ops Q (o :: rest) a W := by
  obtain ⟨i0, hi, hz0, hz1, hz2⟩ := info_parts info_int
  refine wpList_append_lies W hgd s x 46 ho lo 3 i0 (.int .i64 0) 1 8 Tryd.underlying46 hi hz0 hz1 hz2 rfl (by omega) _ _ _ hs hown ⟨B, 0, none⟩ 1 c [.int .i64 v] hx rfl ?_ (by simp [Value.oneCell'])
    (by omega) (by unfold maxLen; omega) (by omega) hlo W.heap.size rfl ?_
  · intro j u hj
    match j, hj with
    | 0, hj => simp at hj; subst hj; exact hnew
    | j + 1, hj => simp at hj
  · intro g cap' w' h1 h2 _ _
    rw [own_block] at h2
    rw [← show I64 (xs ++ [v]) = I64 xs ++ [.int .i64 v] from by simp [I64]] at h1
    exact h g cap' w' h1 (hown.below hlo h2) h2

/-- .. in a region that draws its order. -/
theorem step_app1 (W : World) (hgd : o.guard = none) (s x : Operand) (ho : o.op = .call { callee := .builtin .append, args := #[s, x], argTypes := #[46, 46] })
    (lo n cap : Nat) (ad : Option Addr) (xs : List Int) (v : Int) (B c : Nat) (hs : a.eval s = .slice ad n cap) (hx : a.eval x = .slice (some ⟨B, 0, none⟩) 1 c)
    (hown : Own W lo 3 1 ad n cap (I64 xs)) (hnew : W.cell? ⟨B, 0, none⟩ = some (.int .i64 v)) (hn : n < 1099511627776) (hlo : lo ≤ W.heap.size)
    (h : ∀ g cap' w', Own w' lo 3 1 (some ⟨g, 0, none⟩) (n + 1) cap' (I64 (xs ++ [v])) → Below lo W w' → W.grownBy w' (ad.map (·.block)) → K (a.put o.dst (.slice (some ⟨g, 0, none⟩) (n + 1) cap')) w') :
    if Region.wanted o (yielded ops a.tmps) = true then Oper.wp Tryd.prog o a W K Q else E := by
  obtain ⟨i0, hi, hz0, hz1, hz2⟩ := info_parts info_int
  refine step_append_lies W hgd s x 46 ho lo 3 i0 (.int .i64 0) 1 8 Tryd.underlying46 hi hz0 hz1 hz2 rfl (by omega) _ _ _ hs hown ⟨B, 0, none⟩ 1 c [.int .i64 v] hx rfl ?_ (by simp [Value.oneCell'])
    (by omega) (by unfold maxLen; omega) (by omega) hlo W.heap.size rfl ?_
  · intro j u hj
    match j, hj with
    | 0, hj => simp at hj; subst hj; exact hnew
    | j + 1, hj => simp at hj
  · intro g cap' w' h1 h2 _ _
    rw [own_block] at h2
    rw [← show I64 (xs ++ [v]) = I64 xs ++ [.int .i64 v] from by simp [I64]] at h1
    exact h g cap' w' h1 (hown.below hlo h2) h2
end







end Go.Proofs.YtigefmobejclaaaDoor
