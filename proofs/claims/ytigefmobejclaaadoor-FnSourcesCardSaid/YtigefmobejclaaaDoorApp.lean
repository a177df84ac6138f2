/- Appending any number of elements to a row of the call's own; the source may be nil. -/
import Derived.Test.YtigefmobejclaaaDoorList
import Derived.Test.YtigefmobejclaaaDoorOpen
import Derived.Maps.AppendAt
import Derived.RegionTactic
namespace Go.Proofs.YtigefmobejclaaaDoor
open Go.RowKit
set_option linter.unusedVariables false

/-- A slice type, its elements, their size in cells and in bytes, their zero. -/
structure El (T E size bytes : Nat) (z : Value) : Prop where
  ex : ∃ i, Tryd.prog.underlying T = some (.slice E) ∧ Tryd.prog.info? E = some i ∧ i.zero = some z ∧ i.size = size ∧ i.bytes = bytes
  zs : z.cells.size = size
  pos : 0 < size

theorem el_int : El 46 3 1 8 (.int .i64 0) := by
  obtain ⟨i0, hi, hz0, hz1, hz2⟩ := info_parts info_int
  exact ⟨⟨i0, Tryd.underlying46, hi, hz0, hz1, hz2⟩, rfl, by omega⟩

theorem Own.shape' {w : World} {lo e size : Nat} {v : Value} {n : Nat} {cs : List Value} (h : w.ownsRow lo e size v n cs) (hv : v ≠ .slice none 0 0) : ∃ g cap, v = .slice (some ⟨g, 0, none⟩) n cap ∧ Own w lo e size (some ⟨g, 0, none⟩) n cap cs := by
  rcases h.2 with ⟨he, h0⟩ | ⟨g, cap, cur, he, rest⟩
  · exact absurd he hv
  · subst he; exact ⟨g, cap, rfl, h⟩

theorem own_new (w : World) (e size : Nat) : Own (w.alloc (.cells #[] e)) w.heap.size e size (some ⟨w.heap.size, 0, none⟩) 0 0 [] := by
  refine ⟨by simp, .inr ⟨w.heap.size, 0, #[], rfl, Nat.le_refl _, heap_alloc_new w _, by simp, by simp, ?_⟩⟩
  all_goals simp

theorem grown_cell {W v : World} {g b o : Nat} {x : Value} (hg : W.grownBy v (some g)) (hne : b ≠ g) (hc : W.cell? ⟨b, o, none⟩ = some x) : v.cell? ⟨b, o, none⟩ = some x :=
  (World.cell?_of_block (w := W) (a := ⟨b, o, none⟩) (hg.block b (lt_of_cell hc) (fun e => hne (Option.some.inj e)))).trans hc
theorem grown_free {W v : World} {g b o : Nat} (hg : W.grownBy v (some g)) (hne : b ≠ g) (hl : b < W.heap.size) (hc : W.frozen? ⟨b, o, none⟩ = false) : v.frozen? ⟨b, o, none⟩ = false :=
  (World.frozen?_of_block (w := W) (a := ⟨b, o, none⟩) (hg.block b hl (fun e => hne (Option.some.inj e)))).trans hc

theorem own_last (X : World) (e size lo g : Nat) (hg : g = X.heap.size) (hl : lo ≤ g) : Own (X.alloc (.cells #[] e)) lo e size (some ⟨g, 0, none⟩) 0 0 [] := by
  subst hg; exact (own_new X e size).lo hl

theorem run_appm (w : World) {T E size bytes : Nat} {z : Value} (hE : El T E size bytes z) (ty lo g n cap : Nat) (cs news : List Value) (hown : Own w lo E size (some ⟨g, 0, none⟩) n cap cs)
    (A : Option Addr) (m c : Nat) (hl : news.length = m * size) (hr : RdC w A news) (h1 : ∀ u ∈ news, u.oneCell' = true) (hA : A = none → m = 0) (h63 : n + m ≤ 1099511627776) (hb : (n + m) * bytes ≤ 140737488355328) (hlo : lo ≤ w.heap.size) :
    ∃ g' cap' w', (Builtin.append_ #[T, T] ty #[.slice (some ⟨g, 0, none⟩) n cap, .slice A m c]).run Tryd.prog w = .ok (.slice (some ⟨g', 0, none⟩) (n + m) cap') w' ∧ Own w' lo E size (some ⟨g', 0, none⟩) (n + m) cap' (cs ++ news) ∧
      Below lo w w' ∧ w.grownBy w' (some g) ∧ (g' = g ∨ g' = w.heap.size) := by
  obtain ⟨⟨i, ht, hi, hz, hs, hby⟩, hzs, hpos⟩ := hE
  cases A with
  | none =>
    have hm : m = 0 := hA rfl
    subst hm
    have hn : news = [] := List.eq_nil_of_length_eq_zero (by simpa using hl)
    subst hn
    have hnc : n ≤ cap := by
      rcases hown.2 with ⟨he, _⟩ | ⟨g', cap', cur, he, _, _, hnc, _⟩
      · simp at he
      · simp only [Value.slice.injEq] at he
        obtain ⟨_, _, rfl⟩ := he
        exact hnc
    refine ⟨g, cap, w, ?_, by simpa using hown, Below.refl _ _, grown_refl _ _, .inl rfl⟩
    simp [Builtin.append_, run_underlying ht, sizeOf, typeInfo, hi, Builtin.lenOf, Builtin.firstCells, hnc, storeCells]
  | some ad =>
    have hcells : ∀ j u, news[j]? = some u → w.cell? (ad.add j) = some u := by
      intro j u hj
      rcases hr with h0 | ⟨b', off', e, hc⟩
      · rw [h0] at hj; cases hj
      · obtain rfl : ad = ⟨b', off', none⟩ := Option.some.inj e
        rw [add_plain]
        obtain ⟨hlt, rfl⟩ := List.getElem?_eq_some_iff.1 hj
        exact hc j hlt
    obtain ⟨v', w', hrun, h2, h3, h4, h5⟩ := run_append_own_at (P := Tryd.prog) w lo T ty E i z size bytes ht hi hz hs hby hzs hpos (.slice (some ⟨g, 0, none⟩) n cap) n cs hown ad m c news hl hcells h1 (by unfold maxLen; omega) hb hlo
    have hv : v' ≠ .slice none 0 0 := fun e => by have := (h4.1 e).1; simp at this
    obtain ⟨g', cap', rfl, h6⟩ := Own.shape' h2 hv
    rw [own_block] at h3
    rw [own_block, own_block] at h5
    exact ⟨g', cap', w', hrun, h6, hown.below hlo h3, h3, by simpa using h5⟩

section
variable {ops : Array Oper} {rest : List Oper} {o : Oper} {a : Act} {Q : Exit → Act → World → Prop} {K : Act → World → Prop} {F : Prop}
theorem wp_appm (w : World) {T E size bytes : Nat} {z : Value} (hE : El T E size bytes z) (s x : Operand) (ho : o.op = .call { callee := .builtin .append, args := #[s, x], argTypes := #[T, T] })
    (lo g n cap : Nat) (cs news : List Value) (A : Option Addr) (m c : Nat) (hs : a.eval s = .slice (some ⟨g, 0, none⟩) n cap) (hx : a.eval x = .slice A m c) (hown : Own w lo E size (some ⟨g, 0, none⟩) n cap cs)
    (hl : news.length = m * size) (hr : RdC w A news) (h1 : ∀ u ∈ news, u.oneCell' = true) (hA : A = none → m = 0) (h63 : n + m ≤ 1099511627776) (hb : (n + m) * bytes ≤ 140737488355328) (hlo : lo ≤ w.heap.size)
    (h : ∀ g' cap' w', Own w' lo E size (some ⟨g', 0, none⟩) (n + m) cap' (cs ++ news) → Below lo w w' → w.grownBy w' (some g) → (g' = g ∨ g' = w.heap.size) → K (a.put o.dst (.slice (some ⟨g', 0, none⟩) (n + m) cap')) w') : o.wp Tryd.prog a w K Q := by
  obtain ⟨g', cap', w', hrun, h2, h3, h4, h5⟩ := run_appm w hE o.type lo g n cap cs news hown A m c hl hr h1 hA h63 hb hlo
  unfold Oper.wp execOp
  simp only [ho, resolve, invoke, builtin, Sem.run_bind, Sem.run_pure, Result.andThen_ok, List.map_toArray, List.map_cons, List.map_nil, hs, hx, hrun]
  exact h g' cap' w' h2 h3 h4 h5

/-- In a plain region. -/
theorem wpList_appm (w : World) (hgd : o.guard = none) {T E size bytes : Nat} {z : Value} (hE : El T E size bytes z) (s x : Operand) (ho : o.op = .call { callee := .builtin .append, args := #[s, x], argTypes := #[T, T] })
    (lo g n cap : Nat) (cs news : List Value) (A : Option Addr) (m c : Nat) (hs : a.eval s = .slice (some ⟨g, 0, none⟩) n cap) (hx : a.eval x = .slice A m c) (hown : Own w lo E size (some ⟨g, 0, none⟩) n cap cs)
    (hl : news.length = m * size) (hr : RdC w A news) (h1 : ∀ u ∈ news, u.oneCell' = true) (hA : A = none → m = 0) (h63 : n + m ≤ 1099511627776) (hb : (n + m) * bytes ≤ 140737488355328) (hlo : lo ≤ w.heap.size)
    (h : ∀ g' cap' w', Own w' lo E size (some ⟨g', 0, none⟩) (n + m) cap' (cs ++ news) → Below lo w w' → w.grownBy w' (some g) → (g' = g ∨ g' = w.heap.size) → wpList Tryd.prog ops Q rest (a.put o.dst (.slice (some ⟨g', 0, none⟩) (n + m) cap')) w') :
    wpList Tryd.prog ops Q (o :: rest) a w :=
  wpList_plain hgd fun _ hK => wp_appm w hE s x ho lo g n cap cs news A m c hs hx hown hl hr h1 hA h63 hb hlo fun g' cap' w' h2 h3 h4 h5 => hK _ _ (h g' cap' w' h2 h3 h4 h5)

/-- In a region that draws its order. -/
theorem step_appm (w : World) (hgd : o.guard = none) {T E size bytes : Nat} {z : Value} (hE : El T E size bytes z) (s x : Operand) (ho : o.op = .call { callee := .builtin .append, args := #[s, x], argTypes := #[T, T] })
    (lo g n cap : Nat) (cs news : List Value) (A : Option Addr) (m c : Nat) (hs : a.eval s = .slice (some ⟨g, 0, none⟩) n cap) (hx : a.eval x = .slice A m c) (hown : Own w lo E size (some ⟨g, 0, none⟩) n cap cs)
    (hl : news.length = m * size) (hr : RdC w A news) (h1 : ∀ u ∈ news, u.oneCell' = true) (hA : A = none → m = 0) (h63 : n + m ≤ 1099511627776) (hb : (n + m) * bytes ≤ 140737488355328) (hlo : lo ≤ w.heap.size)
    (h : ∀ g' cap' w', Own w' lo E size (some ⟨g', 0, none⟩) (n + m) cap' (cs ++ news) → Below lo w w' → w.grownBy w' (some g) → (g' = g ∨ g' = w.heap.size) → K (a.put o.dst (.slice (some ⟨g', 0, none⟩) (n + m) cap')) w') :
    if Region.wanted o (yielded ops a.tmps) = true then Oper.wp Tryd.prog o a w K Q else F := by
  have hw : Region.wanted o (yielded ops a.tmps) = true := by simp [Region.wanted, hgd]
  rw [if_pos hw]
  exact wp_appm w hE s x ho lo g n cap cs news A m c hs hx hown hl hr h1 hA h63 hb hlo h

/-- .. to an empty row: a copy. -/
theorem step_copy (w : World) (hgd : o.guard = none) {T E size bytes : Nat} {z : Value} (hE : El T E size bytes z) (s x : Operand) (ho : o.op = .call { callee := .builtin .append, args := #[s, x], argTypes := #[T, T] })
    (lo g cap : Nat) (news : List Value) (A : Option Addr) (m c : Nat) (hs : a.eval s = .slice (some ⟨g, 0, none⟩) 0 cap) (hx : a.eval x = .slice A m c) (hown : Own w lo E size (some ⟨g, 0, none⟩) 0 cap [])
    (hl : news.length = m * size) (hr : RdC w A news) (h1 : ∀ u ∈ news, u.oneCell' = true) (hA : A = none → m = 0) (h63 : m ≤ 1099511627776) (hb : m * bytes ≤ 140737488355328) (hlo : lo ≤ w.heap.size)
    (h : ∀ g' cap' w', Own w' lo E size (some ⟨g', 0, none⟩) m cap' news → Below lo w w' → w.grownBy w' (some g) → (g' = g ∨ g' = w.heap.size) → K (a.put o.dst (.slice (some ⟨g', 0, none⟩) m cap')) w') :
    if Region.wanted o (yielded ops a.tmps) = true then Oper.wp Tryd.prog o a w K Q else F :=
  step_appm w hgd hE s x ho lo g 0 cap [] news A m c hs hx hown hl hr h1 hA (by omega) (by rw [Nat.zero_add]; exact hb) hlo fun g' cap' w' h2 h3 h4 h5 => by
    have e : 0 + m = m := Nat.zero_add m
    rw [List.nil_append, e] at h2
    rw [e]
    exact h g' cap' w' h2 h3 h4 h5
end

theorem I64_one (xs : List Int) : ∀ u ∈ I64 xs, u.oneCell' = true := by
  intro u hu
  obtain ⟨n, _, rfl⟩ := List.mem_map.1 hu
  rfl

section
variable {ops : Array Oper} {rest : List Oper} {o : Oper} {a : Act} {Q : Exit → Act → World → Prop}
/-- One number behind a row. -/
theorem wpList_push (w : World) (hgd : o.guard = none) (s x : Operand) (ho : o.op = .call { callee := .builtin .append, args := #[s, x], argTypes := #[46, 46] })
    (lo g n cap : Nat) (xs : List Int) (v : Int) (B c : Nat) (hs : a.eval s = .slice (some ⟨g, 0, none⟩) n cap) (hx : a.eval x = .slice (some ⟨B, 0, none⟩) 1 c)
    (hown : Own w lo 3 1 (some ⟨g, 0, none⟩) n cap (I64 xs)) (hnew : w.cell? ⟨B, 0, none⟩ = some (.int .i64 v)) (hn : n < 1099511627 ) (hlo : lo ≤ w.heap.size)
    (h : ∀ g' cap' w', Own w' lo 3 1 (some ⟨g', 0, none⟩) (n + 1) cap' (I64 (xs ++ [v])) → Below lo w w' → w.grownBy w' (some g) → (g' = g ∨ g' = w.heap.size) → wpList Tryd.prog ops Q rest (a.put o.dst (.slice (some ⟨g', 0, none⟩) (n + 1) cap')) w') :
    wpList Tryd.prog ops Q (o :: rest) a w :=
  wpList_appm w hgd el_int s x ho lo g n cap (I64 xs) [.int .i64 v] (some ⟨B, 0, none⟩) 1 c hs hx hown rfl
    (.inr ⟨B, 0, rfl, fun j hj => by have : j = 0 := by simpa using hj
                                     subst this; exact hnew⟩) (I64_one [v]) (by intro h; cases h) (by omega) (by omega) hlo
    fun g' cap' w' h1 h2 h3 h4 => h g' cap' w' (by rw [I64_append]; exact h1) h2 h3 h4
end

section
variable {ops : Array Oper} {o : Oper} {a : Act} {Q : Exit → Act → World → Prop} {K : Act → World → Prop} {F : Prop}
/-- The same in a region that draws its order. -/
theorem step_push (w : World) (hgd : o.guard = none) (s x : Operand) (ho : o.op = .call { callee := .builtin .append, args := #[s, x], argTypes := #[46, 46] })
    (lo g n cap : Nat) (xs : List Int) (v : Int) (B c : Nat) (hs : a.eval s = .slice (some ⟨g, 0, none⟩) n cap) (hx : a.eval x = .slice (some ⟨B, 0, none⟩) 1 c)
    (hown : Own w lo 3 1 (some ⟨g, 0, none⟩) n cap (I64 xs)) (hnew : w.cell? ⟨B, 0, none⟩ = some (.int .i64 v)) (hn : n < 1099511627 ) (hlo : lo ≤ w.heap.size)
    (h : ∀ g' cap' w', Own w' lo 3 1 (some ⟨g', 0, none⟩) (n + 1) cap' (I64 (xs ++ [v])) → Below lo w w' → w.grownBy w' (some g) → (g' = g ∨ g' = w.heap.size) → K (a.put o.dst (.slice (some ⟨g', 0, none⟩) (n + 1) cap')) w') :
    if Region.wanted o (yielded ops a.tmps) = true then Oper.wp Tryd.prog o a w K Q else F :=
  step_appm w hgd el_int s x ho lo g n cap (I64 xs) [.int .i64 v] (some ⟨B, 0, none⟩) 1 c hs hx hown rfl
    (.inr ⟨B, 0, rfl, fun j hj => by have : j = 0 := by simpa using hj
                                     subst this; exact hnew⟩) (I64_one [v]) (by intro h; cases h) (by omega) (by omega) hlo
    fun g' cap' w' h1 h2 h3 h4 => h g' cap' w' (by rw [I64_append]; exact h1) h2 h3 h4
end

end Go.Proofs.YtigefmobejclaaaDoor
