/- Appending zeros to a row of numbers of the call's own. -/
import Derived.Test.YtfpblgbokmpmjaaAppA
import Derived.Lib.AppendZerosOnto
namespace Go.Proofs.Ytfpblgbokmpmjaa
open Go.RowKit
set_option linter.unusedVariables false
theorem zeroCells_int (k : Nat) : Builtin.zeroCells (Value.cells (.int .i64 0)) k = (List.replicate k (Value.int .i64 0)).toArray := by
  apply Array.ext
  · simp [Builtin.zeroCells, Value.cells]
  · intro j h1 h2
    simp [Builtin.zeroCells, Value.cells] at h1 ⊢
    simp [Nat.mod_one]
theorem run_appZ (w : World) (ty lo g n cap k : Nat) (cs : List Value) (hown : Own w lo 3 1 (some ⟨g, 0, none⟩) n cap cs) (h0 : 0 < k) (hk : n + k ≤ 1000000) (hlo : lo ≤ w.heap.size) :
    ∃ g' cap' w', (Builtin.append_ #[23, 3] ty #[.slice (some ⟨g, 0, none⟩) n cap, .int .i64 k]).run Try.prog w = .ok (.slice (some ⟨g', 0, none⟩) (n + k) cap') w' ∧ Own w' lo 3 1 (some ⟨g', 0, none⟩) (n + k) cap' (cs ++ List.replicate k (.int .i64 0)) ∧
      Below lo w w' ∧ w.grownBy w' (some g) ∧ (g' = g ∨ g' = w.heap.size) := by
  obtain ⟨⟨i, ht, hi, hz, hs, hby⟩, hzs, hpos⟩ := el_int
  have hlen : (cs ++ List.replicate k (Value.int .i64 0)).length = (n + k) * 1 := by rw [List.length_append, hown.1, List.length_replicate]; omega
  have hh := hown
  rcases hown.2 with ⟨he, h⟩ | ⟨g0, cap0, cur, he, hbg, hg, hnc, hcm, hcs, htake⟩
  · cases he
  · simp only [Value.slice.injEq, Option.some.injEq, Addr.mk.injEq] at he
    obtain ⟨⟨rfl, _⟩, _, rfl⟩ := he
    by_cases hroom : n + k ≤ cap
    · have hfit : n * i.size + (List.replicate k (Value.int .i64 0)).length ≤ cur.size := by rw [hs, hcs, List.length_replicate]; omega
      have hst := run_storeCells_at Try.prog g (n * i.size) 3 (List.replicate k (Value.int .i64 0)) 0 cur w hg (by simpa using hfit) (by intro u hu; rw [List.eq_of_mem_replicate hu]; rfl)
      simp only [Nat.add_zero] at hst
      have hw : IntKind.i64.wrap (k : Int) = k := by rw [IntKind.wrap_i64]; omega
      have hneg : ¬ ((k : Int) < 0) := by omega
      have h48i : ¬ (281474976710656 < (k : Int) * (8 : Int)) := by omega
      have hk0 : k ≠ 0 := by omega
      have hr : (Builtin.append_ #[23, 3] ty #[.slice (some ⟨g, 0, none⟩) n cap, .int .i64 k]).run Try.prog w = .ok (.slice (some ⟨g, 0, none⟩) (n + k) cap) (w.setRow g (cur.toList.take (n * i.size) ++ List.replicate k (Value.int .i64 0) ++ cur.toList.drop (n * i.size + (List.replicate k (Value.int .i64 0)).length)).toArray) := by
        simp [Builtin.append_, run_underlying ht, run_underlying Try.underlying3, sizeOf, typeInfo, zeroValue, hi, hz, hby, hs, asInt, asIntOf, hw, hneg, h48i, hk0, hroom, Addr.add_lit, zeroCells_int]
        simp [hs] at hst
        rw [hst]; simp
      have hgr : w.grownBy (w.setRow g (cur.toList.take (n * i.size) ++ List.replicate k (Value.int .i64 0) ++ cur.toList.drop (n * i.size + (List.replicate k (Value.int .i64 0)).length)).toArray) (some g) :=
        ⟨rfl, rfl, rfl, by simp, fun k _ hk => setRow_other w g k _ (fun e => hk (by simp [e]))⟩
      have hgr' := hgr
      rw [show (some g : Option Nat) = (Value.slice (some ⟨g, 0, none⟩) n cap).ownBlock from rfl] at hgr'
      refine ⟨g, cap, _, hr, ⟨hlen, .inr ⟨g, cap, _, rfl, hbg, setRow_heap w g cur _ 3 _ hg, hroom, hcm, ?_, ?_⟩⟩, hh.below hlo (by simpa using hgr), hgr, .inl rfl⟩
      · simp only [List.size_toArray, List.length_append, List.length_take, List.length_drop, Array.length_toList, hs, hcs, List.length_replicate]
        omega
      · rw [hs, htake, ← hlen]
        exact List.take_left
    · have holds : ∀ j u, cs[j]? = some u → w.cell? ((⟨g, 0, none⟩ : Addr).add j) = some u := hown.cells (g := g) rfl
      have hf : (Builtin.firstCells i.size n (.slice (some ⟨g, 0, none⟩) n cap)).run Try.prog w.drew = .ok cs.toArray w.drew :=
        run_firstCells_some (P := Try.prog) w.drew i.size n ⟨g, 0, none⟩ n cap cs (by rw [hs]; exact hown.1) (fun j u hj => holds j u hj)
      have hfit : Builtin.nextslicecap (n + k) cap * i.bytes ≤ 281474976710656 := by rw [hby]; exact growslice_fits (by omega) (by omega)
      have hr := Lib.run_append_grow_zeros (P := Try.prog) w 23 3 ty 3 i (.int .i64 0) .i64 .i64 ht Try.underlying3 hi hz (some ⟨g, 0, none⟩) n cap cs hf k h0 (by omega) (by omega) (by omega) (by rw [hby]; omega) hfit
      have hge := grownCap_ge w (n + k) cap 3
      have hcm' : grownCap w (n + k) cap 3 ≤ maxLen := grownCap_le_maxLen w (n + k) cap 3 (by unfold maxLen; omega)
      rw [zeroCells_int, zeroCells_int] at hr
      have hgr : ∀ row, w.grownBy (w.drew.alloc (.cells (cs.toArray ++ (List.replicate k (Value.int .i64 0)).toArray ++ (List.replicate (grownCap w (n + k) cap 3 - (n + k)) (Value.int .i64 0)).toArray) 3)) row :=
        fun row => ⟨rfl, rfl, rfl, by simp, fun k hk _ => Go.heap_alloc_old w.drew _ hk⟩
      refine ⟨w.heap.size, _, _, hr, ⟨hlen, .inr ⟨w.heap.size, _, _, rfl, hlo, heap_alloc_new w.drew _, hge, hcm', ?_, ?_⟩⟩, hh.below hlo (hgr _), hgr _, .inr rfl⟩
      · simp only [Array.size_append, List.size_toArray, List.length_replicate, hown.1]
        omega
      · simp only [Array.toList_append, List.append_assoc]
        rw [← List.append_assoc, ← hlen]
        exact List.take_left

section
variable {ops : Array Oper} {rest : List Oper} {o : Oper} {a : Act} {Q : Exit → Act → World → Prop}
theorem wpList_appZ (w : World) (hgd : o.guard = none) (s x : Operand) (ho : o.op = .call { callee := .builtin .append, args := #[s, x], argTypes := #[23, 3] })
    (lo g n cap k : Nat) (cs : List Value) (hs : a.eval s = .slice (some ⟨g, 0, none⟩) n cap) (hx : a.eval x = .int .i64 k) (hown : Own w lo 3 1 (some ⟨g, 0, none⟩) n cap cs)
    (h0 : 0 < k) (hk : n + k ≤ 1000000) (hlo : lo ≤ w.heap.size)
    (h : ∀ g' cap' w', Own w' lo 3 1 (some ⟨g', 0, none⟩) (n + k) cap' (cs ++ List.replicate k (.int .i64 0)) → Below lo w w' → w.grownBy w' (some g) → (g' = g ∨ g' = w.heap.size) → wpList Try.prog ops Q rest (a.put o.dst (.slice (some ⟨g', 0, none⟩) (n + k) cap')) w') :
    wpList Try.prog ops Q (o :: rest) a w := by
  refine wpList_plain hgd fun K hK => ?_
  obtain ⟨g', cap', w', hrun, h2, h3, h4, h5⟩ := run_appZ w o.type lo g n cap k cs hown h0 hk hlo
  unfold Oper.wp execOp
  simp only [ho, resolve, invoke, builtin, Sem.run_bind, Sem.run_pure, Result.andThen_ok, List.map_toArray, List.map_cons, List.map_nil, hs, hx, hrun]
  exact hK _ _ (h g' cap' w' h2 h3 h4 h5)
end
end Go.Proofs.Ytfpblgbokmpmjaa
