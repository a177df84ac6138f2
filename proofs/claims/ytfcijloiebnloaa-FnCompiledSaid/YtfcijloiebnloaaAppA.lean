/- Appending one element or more to a row of the call's own, nil or not. -/
import Derived.Test.YtfcijloiebnloaaApp
import Derived.Test.YtfcijloiebnloaaGateList
namespace Go.Proofs.Ytfcijloiebnloaa
open Go.RowKit
set_option linter.unusedVariables false

theorem grown_cellA {W v : World} {row : Option Nat} {b o : Nat} {x : Value} (hg : W.grownBy v row) (hne : row ≠ some b) (hc : W.cell? ⟨b, o, none⟩ = some x) : v.cell? ⟨b, o, none⟩ = some x :=
  (World.cell?_of_block (w := W) (a := ⟨b, o, none⟩) (hg.block b (lt_of_cell hc) (fun e => hne e.symm))).trans hc
theorem grown_freeA {W v : World} {row : Option Nat} {b o : Nat} (hg : W.grownBy v row) (hne : row ≠ some b) (hl : b < W.heap.size) (hc : W.frozen? ⟨b, o, none⟩ = false) : v.frozen? ⟨b, o, none⟩ = false :=
  (World.frozen?_of_block (w := W) (a := ⟨b, o, none⟩) (hg.block b hl (fun e => hne e.symm))).trans hc
theorem map_ne_of {ad : Option Addr} {b : Nat} (h : ∀ a, ad = some a → a.block ≠ b) : ad.map (·.block) ≠ some b := by
  cases ad with
  | none => simp
  | some a => have := h a rfl; simpa using this
theorem Own.map_ne {w : World} {lo e size : Nat} {ad : Option Addr} {n cap : Nat} {cs : List Value} (h : Own w lo e size ad n cap cs) {b : Nat} (hb : b < lo) : ad.map (·.block) ≠ some b :=
  map_ne_of fun a ha => by have := h.blk a ha; omega
theorem run_appA (w : World) {T E size bytes : Nat} {z : Value} (hE : El T E size bytes z) (ty lo n cap : Nat) (ad : Option Addr) (cs news : List Value) (hown : Own w lo E size ad n cap cs)
    (A : Addr) (m c : Nat) (hl : news.length = m * size) (hr : RdC w (some A) news) (h1 : ∀ u ∈ news, u.oneCell' = true) (h0 : 0 < m) (h63 : n + m ≤ 1099511627776) (hb : (n + m) * bytes ≤ 140737488355328) (hlo : lo ≤ w.heap.size) :
    ∃ g' cap' w', (Builtin.append_ #[T, T] ty #[.slice ad n cap, .slice (some A) m c]).run Try.prog w = .ok (.slice (some ⟨g', 0, none⟩) (n + m) cap') w' ∧ Own w' lo E size (some ⟨g', 0, none⟩) (n + m) cap' (cs ++ news) ∧
      Below lo w w' ∧ w.grownBy w' (ad.map (·.block)) ∧ (ad = some ⟨g', 0, none⟩ ∨ g' = w.heap.size) := by
  obtain ⟨⟨i, ht, hi, hz, hs, hby⟩, hzs, hpos⟩ := hE
  have hcells : ∀ j u, news[j]? = some u → w.cell? (A.add j) = some u := by
    intro j u hj
    rcases hr with h0 | ⟨b', off', e, hc⟩
    · rw [h0] at hj; cases hj
    · obtain rfl : A = ⟨b', off', none⟩ := Option.some.inj e
      rw [add_plain]
      obtain ⟨hlt, rfl⟩ := List.getElem?_eq_some_iff.1 hj
      exact hc j hlt
  obtain ⟨v', w', hrun, h2, h3, h4, h5⟩ := run_append_own_at (P := Try.prog) w lo T ty E i z size bytes ht hi hz hs hby hzs hpos (.slice ad n cap) n cs hown A m c news hl hcells h1 (by unfold maxLen; omega) hb hlo
  have hv : v' ≠ .slice none 0 0 := fun e => by have := (h4.1 e).2; omega
  obtain ⟨g', cap', rfl, h6⟩ := Own.shape' h2 hv
  rw [own_block] at h3
  rw [own_block, own_block] at h5
  refine ⟨g', cap', w', hrun, h6, hown.below hlo h3, h3, ?_⟩
  rcases h5 with h5 | h5
  · cases ad with
    | none => cases h5
    | some a =>
      have hh := hown.blk a rfl
      have : g' = a.block := by simpa using h5
      left; cases a; simp_all
  · right; simpa using h5

section
variable {ops : Array Oper} {rest : List Oper} {o : Oper} {a : Act} {Q : Exit → Act → World → Prop} {K : Act → World → Prop} {F : Prop}
theorem wp_appA (w : World) {T E size bytes : Nat} {z : Value} (hE : El T E size bytes z) (s x : Operand) (ho : o.op = .call { callee := .builtin .append, args := #[s, x], argTypes := #[T, T] })
    (lo n cap : Nat) (ad : Option Addr) (cs news : List Value) (A : Addr) (m c : Nat) (hs : a.eval s = .slice ad n cap) (hx : a.eval x = .slice (some A) m c) (hown : Own w lo E size ad n cap cs)
    (hl : news.length = m * size) (hr : RdC w (some A) news) (h1 : ∀ u ∈ news, u.oneCell' = true) (h0 : 0 < m) (h63 : n + m ≤ 1099511627776) (hb : (n + m) * bytes ≤ 140737488355328) (hlo : lo ≤ w.heap.size)
    (h : ∀ g' cap' w', Own w' lo E size (some ⟨g', 0, none⟩) (n + m) cap' (cs ++ news) → Below lo w w' → w.grownBy w' (ad.map (·.block)) → (ad = some ⟨g', 0, none⟩ ∨ g' = w.heap.size) → K (a.put o.dst (.slice (some ⟨g', 0, none⟩) (n + m) cap')) w') : o.wp Try.prog a w K Q := by
  obtain ⟨g', cap', w', hrun, h2, h3, h4, h5⟩ := run_appA w hE o.type lo n cap ad cs news hown A m c hl hr h1 h0 h63 hb hlo
  unfold Oper.wp execOp
  simp only [ho, resolve, invoke, builtin, Sem.run_bind, Sem.run_pure, Result.andThen_ok, List.map_toArray, List.map_cons, List.map_nil, hs, hx, hrun]
  exact h g' cap' w' h2 h3 h4 h5

theorem wpList_appA (w : World) (hgd : o.guard = none) {T E size bytes : Nat} {z : Value} (hE : El T E size bytes z) (s x : Operand) (ho : o.op = .call { callee := .builtin .append, args := #[s, x], argTypes := #[T, T] })
    (lo n cap : Nat) (ad : Option Addr) (cs news : List Value) (A : Addr) (m c : Nat) (hs : a.eval s = .slice ad n cap) (hx : a.eval x = .slice (some A) m c) (hown : Own w lo E size ad n cap cs)
    (hl : news.length = m * size) (hr : RdC w (some A) news) (h1 : ∀ u ∈ news, u.oneCell' = true) (h0 : 0 < m) (h63 : n + m ≤ 1099511627776) (hb : (n + m) * bytes ≤ 140737488355328) (hlo : lo ≤ w.heap.size)
    (h : ∀ g' cap' w', Own w' lo E size (some ⟨g', 0, none⟩) (n + m) cap' (cs ++ news) → Below lo w w' → w.grownBy w' (ad.map (·.block)) → (ad = some ⟨g', 0, none⟩ ∨ g' = w.heap.size) → wpList Try.prog ops Q rest (a.put o.dst (.slice (some ⟨g', 0, none⟩) (n + m) cap')) w') :
    wpList Try.prog ops Q (o :: rest) a w :=
  wpList_plain hgd fun _ hK => wp_appA w hE s x ho lo n cap ad cs news A m c hs hx hown hl hr h1 h0 h63 hb hlo fun g' cap' w' h2 h3 h4 h5 => hK _ _ (h g' cap' w' h2 h3 h4 h5)

theorem step_appA (w : World) (hgd : o.guard = none) {T E size bytes : Nat} {z : Value} (hE : El T E size bytes z) (s x : Operand) (ho : o.op = .call { callee := .builtin .append, args := #[s, x], argTypes := #[T, T] })
    (lo n cap : Nat) (ad : Option Addr) (cs news : List Value) (A : Addr) (m c : Nat) (hs : a.eval s = .slice ad n cap) (hx : a.eval x = .slice (some A) m c) (hown : Own w lo E size ad n cap cs)
    (hl : news.length = m * size) (hr : RdC w (some A) news) (h1 : ∀ u ∈ news, u.oneCell' = true) (h0 : 0 < m) (h63 : n + m ≤ 1099511627776) (hb : (n + m) * bytes ≤ 140737488355328) (hlo : lo ≤ w.heap.size)
    (h : ∀ g' cap' w', Own w' lo E size (some ⟨g', 0, none⟩) (n + m) cap' (cs ++ news) → Below lo w w' → w.grownBy w' (ad.map (·.block)) → (ad = some ⟨g', 0, none⟩ ∨ g' = w.heap.size) → K (a.put o.dst (.slice (some ⟨g', 0, none⟩) (n + m) cap')) w') :
    if Region.wanted o (yielded ops a.tmps) = true then Oper.wp Try.prog o a w K Q else F := by
  have hw : Region.wanted o (yielded ops a.tmps) = true := by simp [Region.wanted, hgd]
  rw [if_pos hw]
  exact wp_appA w hE s x ho lo n cap ad cs news A m c hs hx hown hl hr h1 h0 h63 hb hlo h
end

section
variable {ops : Array Oper} {rest : List Oper} {o : Oper} {a : Act} {Q : Exit → Act → World → Prop} {K : Act → World → Prop} {F : Prop}
/-- One number behind a row, nil or not. -/
theorem wpList_pushA (w : World) (hgd : o.guard = none) (s x : Operand) (ho : o.op = .call { callee := .builtin .append, args := #[s, x], argTypes := #[23, 23] })
    (lo n cap : Nat) (ad : Option Addr) (xs : List Int) (v : Int) (B c : Nat) (hs : a.eval s = .slice ad n cap) (hx : a.eval x = .slice (some ⟨B, 0, none⟩) 1 c)
    (hown : Own w lo 3 1 ad n cap (I64 xs)) (hnew : w.cell? ⟨B, 0, none⟩ = some (.int .i64 v)) (hn : n < 1099511627 ) (hlo : lo ≤ w.heap.size)
    (h : ∀ g' cap' w', Own w' lo 3 1 (some ⟨g', 0, none⟩) (n + 1) cap' (I64 (xs ++ [v])) → Below lo w w' → w.grownBy w' (ad.map (·.block)) → (ad = some ⟨g', 0, none⟩ ∨ g' = w.heap.size) → wpList Try.prog ops Q rest (a.put o.dst (.slice (some ⟨g', 0, none⟩) (n + 1) cap')) w') :
    wpList Try.prog ops Q (o :: rest) a w :=
  wpList_appA w hgd el_int s x ho lo n cap ad (I64 xs) [.int .i64 v] ⟨B, 0, none⟩ 1 c hs hx hown rfl
    (.inr ⟨B, 0, rfl, fun j hj => by have : j = 0 := by simpa using hj
                                     subst this; exact hnew⟩) (I64_one [v]) (by omega) (by omega) (by omega) hlo
    fun g' cap' w' h1 h2 h3 h4 => h g' cap' w' (by rw [I64_append]; exact h1) h2 h3 h4
theorem step_pushA (w : World) (hgd : o.guard = none) (s x : Operand) (ho : o.op = .call { callee := .builtin .append, args := #[s, x], argTypes := #[23, 23] })
    (lo n cap : Nat) (ad : Option Addr) (xs : List Int) (v : Int) (B c : Nat) (hs : a.eval s = .slice ad n cap) (hx : a.eval x = .slice (some ⟨B, 0, none⟩) 1 c)
    (hown : Own w lo 3 1 ad n cap (I64 xs)) (hnew : w.cell? ⟨B, 0, none⟩ = some (.int .i64 v)) (hn : n < 1099511627 ) (hlo : lo ≤ w.heap.size)
    (h : ∀ g' cap' w', Own w' lo 3 1 (some ⟨g', 0, none⟩) (n + 1) cap' (I64 (xs ++ [v])) → Below lo w w' → w.grownBy w' (ad.map (·.block)) → (ad = some ⟨g', 0, none⟩ ∨ g' = w.heap.size) → K (a.put o.dst (.slice (some ⟨g', 0, none⟩) (n + 1) cap')) w') :
    if Region.wanted o (yielded ops a.tmps) = true then Oper.wp Try.prog o a w K Q else F :=
  step_appA w hgd el_int s x ho lo n cap ad (I64 xs) [.int .i64 v] ⟨B, 0, none⟩ 1 c hs hx hown rfl
    (.inr ⟨B, 0, rfl, fun j hj => by have : j = 0 := by simpa using hj
                                     subst this; exact hnew⟩) (I64_one [v]) (by omega) (by omega) (by omega) hlo
    fun g' cap' w' h1 h2 h3 h4 => h g' cap' w' (by rw [I64_append]; exact h1) h2 h3 h4
end

theorem el_gate : El 27 109 3 24 (.agg #[.int .i64 0, .int .i64 0, .int .i64 0]) := by
  obtain ⟨i0, hi, hz0, hz1, hz2⟩ := info_parts info_gt
  exact ⟨⟨i0, Try.underlying27, hi, hz0, hz1, hz2⟩, rfl, by omega⟩
section
variable {ops : Array Oper} {rest : List Oper} {o : Oper} {a : Act} {Q : Exit → Act → World → Prop} {K : Act → World → Prop} {F : Prop}
theorem rd_gate {w : World} {B : Nat} {g : Gt} (h0 : w.cell? ⟨B, 0, none⟩ = some (.int .i64 g.kd)) (h1 : w.cell? ⟨B, 1, none⟩ = some (.int .i64 g.ga)) (h2 : w.cell? ⟨B, 2, none⟩ = some (.int .i64 g.gb)) : RdC w (some ⟨B, 0, none⟩) (gtCells [g]) :=
  .inr ⟨B, 0, rfl, fun j hj => by
    have hj' : j < 3 := hj
    match j, hj' with
    | 0, _ => exact h0
    | 1, _ => exact h1
    | 2, _ => exact h2⟩
/-- One gate behind a row, nil or not. -/
theorem wpList_pushG (w : World) (hgd : o.guard = none) (s x : Operand) (ho : o.op = .call { callee := .builtin .append, args := #[s, x], argTypes := #[27, 27] })
    (lo n cap : Nat) (ad : Option Addr) (xs : List Gt) (v : Gt) (B c : Nat) (hs : a.eval s = .slice ad n cap) (hx : a.eval x = .slice (some ⟨B, 0, none⟩) 1 c)
    (hown : Own w lo 109 3 ad n cap (gtCells xs)) (h0 : w.cell? ⟨B, 0, none⟩ = some (.int .i64 v.kd)) (h1 : w.cell? ⟨B, 1, none⟩ = some (.int .i64 v.ga)) (h2 : w.cell? ⟨B, 2, none⟩ = some (.int .i64 v.gb)) (hn : n < 1099511627 ) (hlo : lo ≤ w.heap.size)
    (h : ∀ g' cap' w', Own w' lo 109 3 (some ⟨g', 0, none⟩) (n + 1) cap' (gtCells (xs ++ [v])) → Below lo w w' → w.grownBy w' (ad.map (·.block)) → (ad = some ⟨g', 0, none⟩ ∨ g' = w.heap.size) → wpList Try.prog ops Q rest (a.put o.dst (.slice (some ⟨g', 0, none⟩) (n + 1) cap')) w') :
    wpList Try.prog ops Q (o :: rest) a w :=
  wpList_appA w hgd el_gate s x ho lo n cap ad (gtCells xs) (gtCells [v]) ⟨B, 0, none⟩ 1 c hs hx hown rfl
    (rd_gate h0 h1 h2) (gtCells_one [v]) (by omega) (by omega) (by omega) hlo
    fun g' cap' w' h1 h2 h3 h4 => h g' cap' w' (by rw [gtCells_append]; exact h1) h2 h3 h4
theorem step_pushG (w : World) (hgd : o.guard = none) (s x : Operand) (ho : o.op = .call { callee := .builtin .append, args := #[s, x], argTypes := #[27, 27] })
    (lo n cap : Nat) (ad : Option Addr) (xs : List Gt) (v : Gt) (B c : Nat) (hs : a.eval s = .slice ad n cap) (hx : a.eval x = .slice (some ⟨B, 0, none⟩) 1 c)
    (hown : Own w lo 109 3 ad n cap (gtCells xs)) (h0 : w.cell? ⟨B, 0, none⟩ = some (.int .i64 v.kd)) (h1 : w.cell? ⟨B, 1, none⟩ = some (.int .i64 v.ga)) (h2 : w.cell? ⟨B, 2, none⟩ = some (.int .i64 v.gb)) (hn : n < 1099511627 ) (hlo : lo ≤ w.heap.size)
    (h : ∀ g' cap' w', Own w' lo 109 3 (some ⟨g', 0, none⟩) (n + 1) cap' (gtCells (xs ++ [v])) → Below lo w w' → w.grownBy w' (ad.map (·.block)) → (ad = some ⟨g', 0, none⟩ ∨ g' = w.heap.size) → K (a.put o.dst (.slice (some ⟨g', 0, none⟩) (n + 1) cap')) w') :
    if Region.wanted o (yielded ops a.tmps) = true then Oper.wp Try.prog o a w K Q else F :=
  step_appA w hgd el_gate s x ho lo n cap ad (gtCells xs) (gtCells [v]) ⟨B, 0, none⟩ 1 c hs hx hown rfl
    (rd_gate h0 h1 h2) (gtCells_one [v]) (by omega) (by omega) (by omega) hlo
    fun g' cap' w' h1 h2 h3 h4 => h g' cap' w' (by rw [gtCells_append]; exact h1) h2 h3 h4
end
end Go.Proofs.Ytfcijloiebnloaa
