/- A map whose keys are gates. -/
import Derived.Test.YtfpblgbokmpmjaaSimpP
import Derived.Test.YtfpblgbokmpmjaaBld
import Derived.Maps.OwnSet
import Derived.DeepKeys4
namespace Go.Proofs.Ytfpblgbokmpmjaa
open Go.RowKit
set_option linter.unusedVariables false
set_option linter.unusedSimpArgs false

theorem mg_laidOut : laidOutB Try.prog = true := by kernel_rfl
theorem mg_row : (50 : TypeId) < Try.prog.types.size := of_decide_eq_true (by kernel_rfl)
theorem mg_wide : (match Try.prog.underlying 50 with | some (.array _ _) | some (.struct _) => true | _ => false) = true := by rw [Try.underlying50]
theorem mg_keyed : Go.Maps.Keyed Try.prog 50 := Go.Maps.Keyed.of_law (deep_law_laid mg_laidOut (m := 2) (by omega) mg_row (by kernel_rfl) mg_wide)
theorem mg_cells : Try.prog.cellsOf 50 = 3 := by kernel_rfl
theorem mg_keyType : Try.prog.keyType 50 = true := by kernel_rfl
theorem mg_size : Try.prog.types.size = (Try.prog.types.size - 2) + 1 + 1 := by kernel_rfl
theorem mg_formed (c0 c1 c2 : Value) : (Value.agg #[c0, c1, c2]).formed Try.prog 50 = true := by simp [Value.formed, Try.underlying50, mg_cells]
theorem mg_cellInt : Try.prog.cellsOf 3 = 1 := by kernel_rfl
theorem mg_int (d : Nat) (n : Int) (h : (Lit.int .i64 n).wf = true) : Try.prog.keyLits (d + 1) 3 [.int .i64 n] = some [.int .i64 n] := by
  unfold Program.keyLits; simp [Try.underlying3, h]
theorem mg_lits (d : Nat) (a b c : Int) (ha : (Lit.int .i64 a).wf = true) (hb : (Lit.int .i64 b).wf = true) (hc : (Lit.int .i64 c).wf = true) :
    Try.prog.keyLits (d + 2) 50 [.int .i64 a, .int .i64 b, .int .i64 c] = some [.int .i64 a, .int .i64 b, .int .i64 c] := by
  unfold Program.keyLits
  simp [Try.underlying50, mg_cells, mg_cellInt, mg_int d a ha, mg_int d b hb, mg_int d c hc]
theorem mg_key (a b c : Int) (ha : (Lit.int .i64 a).wf = true) (hb : (Lit.int .i64 b).wf = true) (hc : (Lit.int .i64 c).wf = true) :
    keyOf Try.prog 50 (.agg #[.int .i64 a, .int .i64 b, .int .i64 c]) = some (.string (keyBytes [.int .i64 a, .int .i64 b, .int .i64 c])) := by
  unfold keyOf
  rw [Try.underlying50]
  simp only [mg_keyType, mg_formed, Bool.and_self, if_true]
  rw [show Try.prog.types.size + 1 = (Try.prog.types.size - 1) + 2 by have := mg_size; omega]
  have : (Value.agg #[.int .i64 a, .int .i64 b, .int .i64 c]).cells.toList = [.int .i64 a, .int .i64 b, .int .i64 c] := by simp [Value.cells]
  rw [this, mg_lits _ a b c ha hb hc]
  rfl

def kl (g : Gt) : Lit := .string (keyBytes [.int .i64 g.kd, .int .i64 g.ga, .int .i64 g.gb])
/-- A gate whose numbers are integers of the machine. -/
def wfG (g : Gt) : Prop := (Lit.int .i64 g.kd).wf = true ∧ (Lit.int .i64 g.ga).wf = true ∧ (Lit.int .i64 g.gb).wf = true
theorem wf_small {n : Int} (h0 : -1000000 ≤ n) (h1 : n ≤ 1000000) : (Lit.int .i64 n).wf = true := by
  have e1 : IntKind.i64.min = -9223372036854775808 := by decide
  have e2 : IntKind.i64.max = 9223372036854775807 := by decide
  simp only [Lit.wf, e1, e2, Bool.and_eq_true, decide_eq_true_eq]
  omega
theorem kl_key {g : Gt} (h : wfG g) : keyOf Try.prog 50 (.agg #[.int .i64 g.kd, .int .i64 g.ga, .int .i64 g.gb]) = some (kl g) := mg_key _ _ _ h.1 h.2.1 h.2.2
theorem kl_inj {g h : Gt} (hg : wfG g) (hh : wfG h) (e : kl g = kl h) : g = h := by
  have := mg_keyed.inj (kl_key hg) (by rw [e]; exact kl_key hh)
  obtain ⟨a, b, c⟩ := g; obtain ⟨a', b', c'⟩ := h
  simp at this
  simp [this]
theorem kl_lit {g : Gt} (h : wfG g) : WideAt.IsKeyLit (kl g) := mg_keyed.key (kl_key h)
/-- The map knows where each gate lies. -/
structure Knows (D : DataW Unit) (gs : List Gt) : Prop where
  isMap : Go.Maps.IsMap D
  hit : ∀ (i : Nat) (g : Gt), gs[i]? = some g → Go.Maps.has D (kl g) = true ∧ D.atKey (kl g) (.lit (.int .i64 0)) = .lit (.int .i64 i)
  miss : ∀ g, wfG g → g ∉ gs → Go.Maps.has D (kl g) = false
theorem Knows.nil : Knows (.map []) [] := ⟨Go.Maps.isMap_empty, by intro i g h; simp at h, by intro g _ _; rfl⟩
theorem Knows.snoc {D : DataW Unit} {gs : List Gt} {g : Gt} (h : Knows D gs) (hw : ∀ x ∈ gs, wfG x) (hg : wfG g) (hn : g ∉ gs) : Knows (D.put (kl g) (.lit (.int .i64 (gs.length : Int)))) (gs ++ [g]) := by
  refine ⟨h.isMap.put _ _, fun i x hx => ?_, fun x hx hm => ?_⟩
  · by_cases hi : i < gs.length
    · rw [List.getElem?_append_left hi] at hx
      have hne : kl x ≠ kl g := fun e => hn (by
        have hxm := List.mem_of_getElem? hx
        have := kl_inj (hw x hxm) hg e
        rwa [← this])
      rw [Go.Maps.has_put_other hne, Go.Maps.atKey_put_other hne]
      exact h.hit i x hx
    · rw [List.getElem?_append_right (by omega)] at hx
      have hi0 : i - gs.length = 0 := by
        rcases Nat.eq_zero_or_pos (i - gs.length) with h0 | h0
        · exact h0
        · rw [List.getElem?_eq_none (by simp; omega)] at hx; cases hx
      rw [hi0] at hx
      simp at hx; subst hx
      have : i = gs.length := by omega
      subst this
      exact ⟨Go.Maps.has_put_same h.isMap (kl_lit hg) _, Go.Maps.atKey_put_same h.isMap (kl_lit hg) _ _⟩
  · simp only [List.mem_append, List.mem_singleton, not_or] at hm
    have hne : kl x ≠ kl g := fun e => hm.2 (kl_inj hx hg e)
    rw [Go.Maps.has_put_other hne]
    exact h.miss x hx hm.1
/-- Block mb of the world is such a map. -/
def MapK (w : World) (mb : Nat) (gs : List Gt) : Prop := ∃ (n : Nat) (D : DataW Unit), w.ownsMap Try.prog 50 (plainElem Try.prog 3) mb n D ∧ n ≤ gs.length ∧ Knows D gs
theorem MapK.lt {w : World} {mb : Nat} {gs : List Gt} (h : MapK w mb gs) : mb < w.heap.size := by obtain ⟨n, D, h, _⟩ := h; exact h.lt
theorem MapK.blk {w w' : World} {mb : Nat} {gs : List Gt} (h : MapK w mb gs) (hb : w'.heap[mb]? = w.heap[mb]?) : MapK w' mb gs := by
  obtain ⟨n, D, ⟨es, clock, h1, h2⟩, h3⟩ := h
  exact ⟨n, D, ⟨es, clock, hb.trans h1, h2⟩, h3⟩
theorem MapK.made (w : World) : MapK (w.alloc (.map #[] 0)) w.heap.size [] := ⟨0, _, World.ownsMap_made w _ _ _, Nat.le_refl _, Knows.nil⟩
theorem mg_map : Try.prog.underlying 73 = some (.map 50 3) := Try.underlying73
theorem mg_zero (w : World) : (zeroValue 3).run Try.prog w = .ok (.int .i64 0) w := by kernel_rfl
theorem MapK.found {w : World} {mb : Nat} {gs : List Gt} (h : MapK w mb gs) {g : Gt} {i : Nat} (hw : wfG g) (hi : gs[i]? = some g) :
    (Instr.lookup 73 (.map (some mb)) (.agg #[.int .i64 g.kd, .int .i64 g.ga, .int .i64 g.gb]) true).run Try.prog w = .ok (.tuple #[.int .i64 i, .bool true]) w := by
  obtain ⟨n, D, ho, _, hk⟩ := h
  obtain ⟨v, ps, hrun, hv⟩ := ho.look_ok mg_keyed mg_map (mg_zero w) (plainElem_int Try.underlying3 (by decide)) (kl_key hw)
  obtain ⟨h1, h2⟩ := hk.hit i g hi
  rw [h1] at hrun
  rw [h2] at hv
  obtain ⟨c, rfl, hc, _⟩ := plainElem_int_inv Try.underlying3 hv
  simp only [Prod.mk.injEq, DataW.lit.injEq, Lit.int.injEq, true_and] at hc
  rw [hrun, ← hc.1]
theorem MapK.missing {w : World} {mb : Nat} {gs : List Gt} (h : MapK w mb gs) {g : Gt} (hw : wfG g) (hn : g ∉ gs) :
    (Instr.lookup 73 (.map (some mb)) (.agg #[.int .i64 g.kd, .int .i64 g.ga, .int .i64 g.gb]) true).run Try.prog w = .ok (.tuple #[.int .i64 0, .bool false]) w := by
  obtain ⟨n, D, ho, _, hk⟩ := h
  obtain ⟨v, ps, hrun, hv⟩ := ho.look_ok mg_keyed mg_map (mg_zero w) (plainElem_int Try.underlying3 (by decide)) (kl_key hw)
  have h1 := hk.miss g hw hn
  rw [h1] at hrun
  rw [Go.Maps.atKey_of_not_has h1] at hv
  obtain ⟨c, rfl, hc, _⟩ := plainElem_int_inv Try.underlying3 hv
  simp only [Prod.mk.injEq, DataW.lit.injEq, Lit.int.injEq, true_and] at hc
  rw [hrun, ← hc.1]
/-- The simplifier: the box of its gates and its map. -/
structure Smp (w : World) (lo bx mb : Nat) (gs : List Gt) : Prop where
  b : Bld w lo bx gs (.map (some mb))
  m : MapK w mb gs
  f : Frn w bx mb
  ge : lo ≤ mb
  wf : ∀ g ∈ gs, wfG g
def Fr2 (bx mb : Nat) (w w' : World) : Prop := ∀ b, Frn w bx b → b ≠ mb → w'.heap[b]? = w.heap[b]? ∧ Frn w' bx b
theorem Fr2.refl (bx mb : Nat) (w : World) : Fr2 bx mb w w := fun b h _ => ⟨rfl, h⟩
theorem Fr2.trans {bx mb : Nat} {w w1 w2 : World} (h : Fr2 bx mb w w1) (k : Fr2 bx mb w1 w2) : Fr2 bx mb w w2 := fun b hb hne => ⟨((k b (h b hb hne).2 hne).1).trans (h b hb hne).1, (k b (h b hb hne).2 hne).2⟩
theorem Fr.two {bx mb : Nat} {w w' : World} (h : Fr bx w w') : Fr2 bx mb w w' := fun b hb _ => h b hb
theorem Fr2.kp {bx mb b : Nat} {w w' : World} (h : Fr2 bx mb w w') (hb : Frn w bx b) (hne : b ≠ mb) : Kp b w w' := fun _ => ⟨(h b hb hne).1, (h b hb hne).2.1⟩
theorem Fr2.frn {bx mb b : Nat} {w w' : World} (h : Fr2 bx mb w w') (hb : Frn w bx b) (hne : b ≠ mb) : Frn w' bx b := (h b hb hne).2
/-- New blocks. -/
theorem Smp.below {w w' : World} {lo bx mb : Nat} {gs : List Gt} (h : Smp w lo bx mb gs) (k : Below w.heap.size w w') : Smp w' lo bx mb gs :=
  ⟨h.b.below k, h.m.blk (k.block mb h.f.1), (Fr.below h.b k).frn h.f, h.ge, h.wf⟩
theorem Smp.al {w : World} {lo bx mb : Nat} {gs : List Gt} (h : Smp w lo bx mb gs) (o : Obj) : Smp (w.alloc o) lo bx mb gs := h.below ((Below.refl _ _).alloc (Nat.le_refl _) _)
theorem Smp.drewN {w : World} {lo bx mb : Nat} {gs : List Gt} (h : Smp w lo bx mb gs) (n : Nat) : Smp (w.drewN n) lo bx mb gs := h.below (below_drewN (Below.refl _ _) n)
end Go.Proofs.Ytfpblgbokmpmjaa
