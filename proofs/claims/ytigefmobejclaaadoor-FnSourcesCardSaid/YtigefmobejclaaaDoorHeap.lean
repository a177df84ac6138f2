/- What a slice reads as, and how it lasts: no program in sight. -/
import Derived.WalkKit
import Derived.WalkSpells
import Derived.Lib.Hide
import Derived.Deep.Draws
namespace Go.Proofs.YtigefmobejclaaaDoor
open Go.RowKit

/-- The cells from an address on are these. -/
def RdC (w : World) (ad : Option Addr) (cs : List Value) : Prop :=
  cs = [] ∨ ∃ b off, ad = some ⟨b, off, none⟩ ∧ ∀ i (h : i < cs.length), w.cell? ⟨b, off + i, none⟩ = some cs[i]

/-- A list of numbers as cells. -/
def I64 (xs : List Int) : List Value := xs.map (Value.int .i64)

@[simp] theorem I64_length (xs : List Int) : (I64 xs).length = xs.length := by simp [I64]
@[simp] theorem I64_nil : I64 [] = [] := rfl
theorem I64_append (xs ys : List Int) : I64 (xs ++ ys) = I64 xs ++ I64 ys := by simp [I64]
theorem I64_get (xs : List Int) (i : Nat) (h : i < xs.length) : (I64 xs)[i]'(by simpa using h) = .int .i64 xs[i] := by simp [I64]

theorem RdC.nil (w : World) (ad : Option Addr) : RdC w ad [] := .inl rfl

/-- Where there is an element, there is an address. -/
theorem RdC.at {w : World} {ad : Option Addr} {xs : List Int} (h : RdC w ad (I64 xs)) (k : Nat) (hk : k < xs.length) :
    ∃ b off, ad = some ⟨b, off, none⟩ ∧ ∀ i (h : i < xs.length), w.cell? ⟨b, off + i, none⟩ = some (.int .i64 xs[i]) := by
  rcases h with h | ⟨b, off, h1, h2⟩
  · have := congrArg List.length h; simp only [I64_length, List.length_nil] at this; omega
  · exact ⟨b, off, h1, fun i hi => by rw [h2 i (by simpa using hi), I64_get xs i hi]⟩

theorem RdC.of_cell {w w' : World} {ad : Option Addr} {cs : List Value} (h : RdC w ad cs) (hc : ∀ a v, w.cell? a = some v → w'.cell? a = some v) : RdC w' ad cs := by
  rcases h with h | ⟨b, off, h1, h2⟩
  · exact .inl h
  · exact .inr ⟨b, off, h1, fun i hi => hc _ _ (h2 i hi)⟩

theorem lt_of_cell {w : World} {a : Addr} {v : Value} (h : w.cell? a = some v) : a.block < w.heap.size := by
  unfold World.cell? at h
  split at h
  · rename_i hb
    exact (Array.getElem?_eq_some_iff.1 hb).1
  · cases h

theorem RdC.below {w w' : World} {ad : Option Addr} {cs : List Value} (h : RdC w ad cs) (hb : Below w.heap.size w w') : RdC w' ad cs :=
  h.of_cell fun _ _ ha => (hb.cell (lt_of_cell ha)).trans ha

theorem RdC.own {w : World} {base e : Nat} {v : Value} {n : Nat} {cs : List Value} {size : Nat} (h : w.ownsRow base e size v n cs) : ∃ ad cap, v = .slice ad n cap ∧ RdC w ad cs := by
  have hl := h.1
  have h2 := h.2
  rcases h2 with ⟨h2, h3⟩ | ⟨g, cap, cur, h2, h3, h4, h5, h6, h7, h8⟩
  · subst h3; exact ⟨none, 0, h2, .inl (by apply List.eq_nil_of_length_eq_zero; simpa using hl)⟩
  · refine ⟨some ⟨g, 0, none⟩, cap, h2, .inr ⟨g, 0, rfl, fun i hi => ?_⟩⟩
    subst h2
    rw [Nat.zero_add, h.cellAt i (by omega)]
    exact List.getElem?_eq_getElem hi

theorem RdC.alloc (w : World) (cs : Array Value) (t : TypeId) : RdC (w.alloc (.cells cs t)) (some ⟨w.heap.size, 0, none⟩) cs.toList := by
  refine .inr ⟨w.heap.size, 0, rfl, fun i hi => ?_⟩
  rw [Nat.zero_add, World.cell?, show (w.alloc (.cells cs t)).heap[w.heap.size]? = some (.cells cs t) from heap_alloc_new w _]
  simp only [Option.isSome_none, Bool.false_eq_true, if_false]
  rw [Array.getElem?_eq_getElem (by simpa using hi)]; simp

/-- What stood before a call stands behind it. -/
theorem bel_keeps {W w' : World} (h : Below W.heap.size W w') {b o : Nat} {v : Value} (hc : W.cell? ⟨b, o, none⟩ = some v) : w'.cell? ⟨b, o, none⟩ = some v := (h.cell (lt_of_cell hc)).trans hc
theorem bel_free {W w' : World} (h : Below W.heap.size W w') {b o : Nat} (hb : b < W.heap.size) (hc : W.frozen? ⟨b, o, none⟩ = false) : w'.frozen? ⟨b, o, none⟩ = false := (h.frozen (p := ⟨b, o, none⟩) hb).trans hc
theorem bel_next {B B' : Nat} {a w w' : World} (h : Below B a w) (hB : B ≤ B') (k : Below B' w w') : Below B a w' := h.trans (k.mono hB)

theorem Grown.of_below {w w' : World} (h : Below w.heap.size w w') (hf : ∀ a, w'.frozen? a = w.frozen? a) : Grown w w' := ⟨h.frame _, hf, h.size⟩

/-- All numbers are in a range. -/
def inB (x a b : Int) : Bool := decide (a ≤ x) && decide (x ≤ b)
theorem inB_iff {x a b : Int} : inB x a b = true ↔ a ≤ x ∧ x ≤ b := by simp [inB]
theorem inB_false {x a b : Int} : inB x a b = false ↔ ¬ (a ≤ x ∧ x ≤ b) := by rw [← inB_iff]; simp
def allB (xs : List Int) (a b : Int) : Bool := xs.all (fun x => inB x a b)
theorem allB_nil (a b : Int) : allB [] a b = true := rfl
theorem allB_iff {xs : List Int} {a b : Int} : allB xs a b = true ↔ ∀ x ∈ xs, a ≤ x ∧ x ≤ b := by simp [allB, inB]
theorem allB_snoc {xs : List Int} {a b : Int} {k : Nat} (hk : k < xs.length) (h : allB (xs.take k) a b = true) (h2 : inB xs[k] a b = true) : allB (xs.take (k + 1)) a b = true := by
  rw [List.take_succ_eq_append_getElem hk]; simp only [allB, List.all_append, List.all_cons, List.all_nil, Bool.and_true, Bool.and_eq_true] at *; exact ⟨h, h2⟩
theorem allB_fail {xs : List Int} {a b : Int} {k : Nat} (hk : k < xs.length) (h2 : inB xs[k] a b = false) : allB xs a b = false := by
  simp only [allB, List.all_eq_false]
  exact ⟨xs[k], List.getElem_mem hk, by simp [h2]⟩
theorem allB_full {xs : List Int} {a b : Int} {k : Nat} (hk : xs.length ≤ k) (h : allB (xs.take k) a b = true) : allB xs a b = true := by rwa [List.take_of_length_le hk] at h

theorem ret_bool {a b : Bool} (h : a = b) : Ending.returned (.bool a) = .returned (.bool b) := by rw [h]
theorem ret_int {a b : Int} (h : a = b) : Ending.returned (.int .i64 a) = .returned (.int .i64 b) := by rw [h]

/-- Block b is there, and stays as it is. -/
def Kp (b : Nat) (w w' : World) : Prop := b < w.heap.size → w'.heap[b]? = w.heap[b]? ∧ b < w'.heap.size
theorem Kp.refl (b : Nat) (w : World) : Kp b w w := fun h => ⟨rfl, h⟩
theorem Kp.trans {b : Nat} {w w1 w2 : World} (h : Kp b w w1) (k : Kp b w1 w2) : Kp b w w2 := fun hb => ⟨(k (h hb).2).1.trans (h hb).1, (k (h hb).2).2⟩
theorem Kp.below {b : Nat} {w w1 w2 : World} (h : Kp b w w1) (k : Below w1.heap.size w1 w2) : Kp b w w2 :=
  h.trans fun hb => ⟨k.block b hb, Nat.lt_of_lt_of_le hb k.size⟩
theorem Kp.alloc {b : Nat} {w w1 : World} (h : Kp b w w1) (o : Obj) : Kp b w (w1.alloc o) :=
  h.trans fun hb => ⟨Below.heap_alloc _ _ _ hb, by simp; omega⟩
theorem Kp.drew {b : Nat} {w w1 : World} (h : Kp b w w1) : Kp b w w1.drew := h
theorem Kp.drewN {b : Nat} {w w1 : World} (h : Kp b w w1) (n : Nat) : Kp b w (w1.drewN n) := h
theorem Kp.grown {b : Nat} {w w1 w2 : World} {row : Option Nat} (h : Kp b w w1) (k : w1.grownBy w2 row) (hb : row ≠ some b) : Kp b w w2 :=
  h.trans fun hb' => ⟨k.block b hb' (fun e => hb e.symm), Nat.lt_of_lt_of_le hb' k.size⟩
theorem Kp.setCell {b : Nat} {w w1 : World} (h : Kp b w w1) {a : Addr} (v : Value) (hb : b ≠ a.block) : Kp b w (w1.setCell a v) :=
  h.trans fun hb' => ⟨Below.heap_setCell _ _ _ _ hb, by simp [World.setCell]; omega⟩

theorem RdC.keep {w w' : World} {ad : Option Addr} {cs : List Value} (h : RdC w ad cs) (hk : ∀ b off, ad = some ⟨b, off, none⟩ → Kp b w w') : RdC w' ad cs := by
  rcases h with h | ⟨b, off, h1, h2⟩
  · exact .inl h
  · by_cases hl : cs.length = 0
    · exact .inl (List.eq_nil_of_length_eq_zero hl)
    · refine .inr ⟨b, off, h1, fun i hi => ?_⟩
      have hb := lt_of_cell (h2 0 (by omega))
      exact (World.cell?_of_block (w := w) (a := ⟨b, off + i, none⟩) ((hk b off h1) hb).1).trans (h2 i hi)

/-- The row of a slice of the call's own. -/
def Own (w : World) (lo e size : Nat) (ad : Option Addr) (n cap : Nat) (cs : List Value) : Prop := w.ownsRow lo e size (.slice ad n cap) n cs

theorem Own.rd {w : World} {lo e size : Nat} {ad : Option Addr} {n cap : Nat} {cs : List Value} (h : Own w lo e size ad n cap cs) : RdC w ad cs := by
  obtain ⟨ad', cap', he, hr⟩ := RdC.own h
  simp only [Value.slice.injEq] at he
  obtain ⟨rfl, _, _⟩ := he
  exact hr
theorem Own.blk {w : World} {lo e size : Nat} {ad : Option Addr} {n cap : Nat} {cs : List Value} (h : Own w lo e size ad n cap cs) : ∀ a, ad = some a → a.off = 0 ∧ a.spot = none ∧ lo ≤ a.block ∧ a.block < w.heap.size := by
  intro a ha
  subst ha
  have hl := World.ownsRow.lt h a.block rfl
  rcases h.2 with ⟨he, _⟩ | ⟨g, _, _, he, _⟩
  · simp at he
  · simp only [Value.slice.injEq, Option.some.injEq] at he
    obtain ⟨rfl, _⟩ := he
    exact ⟨rfl, rfl, hl⟩
theorem Own.keep {w w' : World} {lo e size : Nat} {ad : Option Addr} {n cap : Nat} {cs : List Value} (h : Own w lo e size ad n cap cs) (hk : ∀ a, ad = some a → Kp a.block w w') : Own w' lo e size ad n cap cs := by
  refine ⟨h.1, ?_⟩
  rcases h.2 with hn | ⟨g, cap', cur, he, hb, hg, rest⟩
  · exact .inl hn
  · refine .inr ⟨g, cap', cur, he, hb, ?_, rest⟩
    simp only [Value.slice.injEq] at he
    obtain ⟨rfl, _⟩ := he
    have hl : g < w.heap.size := (Array.getElem?_eq_some_iff.1 hg).1
    rw [((hk _ rfl) hl).1]; exact hg
theorem Own.nil (w : World) (lo e size : Nat) : Own w lo e size none 0 0 [] := World.ownsRow_nil _ _ _ _
theorem Own.len {w : World} {lo e size : Nat} {ad : Option Addr} {n cap : Nat} {cs : List Value} (h : Own w lo e size ad n cap cs) : cs.length = n * size := h.1
theorem Own.lo {w : World} {lo lo' e size : Nat} {ad : Option Addr} {n cap : Nat} {cs : List Value} (h : Own w lo e size ad n cap cs) (hl : lo' ≤ lo) : Own w lo' e size ad n cap cs := by
  refine ⟨h.1, ?_⟩
  rcases h.2 with hn | ⟨g, cap', cur, he, hb, rest⟩
  · exact .inl hn
  · exact .inr ⟨g, cap', cur, he, by omega, rest⟩

theorem Own.ge {w : World} {lo e size g n cap : Nat} {cs : List Value} (h : Own w lo e size (some ⟨g, 0, none⟩) n cap cs) : lo ≤ g ∧ g < w.heap.size := by
  have := h.blk _ rfl; exact ⟨this.2.2.1, this.2.2.2⟩
theorem Own.later {w w' : World} {lo e size g n cap : Nat} {cs : List Value} (h : Own w lo e size (some ⟨g, 0, none⟩) n cap cs) (hk : Kp g w w') : Own w' lo e size (some ⟨g, 0, none⟩) n cap cs :=
  h.keep fun a ha => by obtain rfl : (⟨g, 0, none⟩ : Addr) = a := Option.some.inj ha; exact hk

/-- Where an address lies. -/
def Ins (ad : Option Addr) (lo hi : Nat) : Prop := ∀ a, ad = some a → lo ≤ a.block ∧ a.block < hi
theorem Own.ins {w : World} {lo e size : Nat} {ad : Option Addr} {n cap : Nat} {cs : List Value} (h : Own w lo e size ad n cap cs) : Ins ad lo w.heap.size := fun a ha => (h.blk a ha).2.2
/-- Nothing outside these blocks has turned. -/
def Rng (lo hi : Nat) (w w' : World) : Prop := ∀ b, b < lo ∨ hi ≤ b → Kp b w w'
theorem Kp.rng {b lo hi : Nat} {w w1 w2 : World} (h : Kp b w w1) (k : Rng lo hi w1 w2) (hb : b < lo ∨ hi ≤ b) : Kp b w w2 := h.trans (k b hb)
theorem Rng.keeps {W w' : World} {l h b o : Nat} {v : Value} (k : Rng l h W w') (hb : b < l ∨ h ≤ b) (hc : W.cell? ⟨b, o, none⟩ = some v) : w'.cell? ⟨b, o, none⟩ = some v :=
  (World.cell?_of_block (w := W) (a := ⟨b, o, none⟩) (k b hb (lt_of_cell hc)).1).trans hc
theorem Rng.free {W w' : World} {l h b o : Nat} (k : Rng l h W w') (hb : b < l ∨ h ≤ b) (hl : b < W.heap.size) (hc : W.frozen? ⟨b, o, none⟩ = false) : w'.frozen? ⟨b, o, none⟩ = false :=
  (World.frozen?_of_block (w := W) (a := ⟨b, o, none⟩) (k b hb hl).1).trans hc
theorem Rng.of_grown {lo hi : Nat} {ad : Option Addr} {w w' : World} (hi' : Ins ad lo hi) (hg : w.grownBy w' (ad.map (·.block))) : Rng lo hi w w' := fun b hb =>
  (Kp.refl b w).grown hg (fun e => by
    cases ad with
    | none => cases e
    | some a => have := hi' a rfl; simp only [Option.map_some, Option.some.injEq] at e; omega)
theorem below_of_grown {lo hi : Nat} {ad : Option Addr} {w w' : World} (hi' : Ins ad lo hi) (hlo : lo ≤ w.heap.size) (hg : w.grownBy w' (ad.map (·.block))) : Below lo w w' :=
  (Below.refl _ _).grown hg hlo (fun k hk => by
    cases ad with
    | none => cases hk
    | some a => have := hi' a rfl; simp only [Option.map_some, Option.some.injEq] at hk; omega)

/-- The numbers that a mark leaves. -/
def seqI (k : Int) (n : Nat) : List Int := (List.range n).map fun i => k + (i : Nat)
@[simp] theorem seqI_length (k : Int) (n : Nat) : (seqI k n).length = n := by simp [seqI]
theorem seqI_get (k : Int) (n i : Nat) (h : i < n) : (seqI k n)[i]'(by simpa using h) = k + i := by simp [seqI]

theorem Own.addr {w : World} {lo e : Nat} {size : Nat} {ad : Option Addr} {n cap : Nat} {cs : List Value} (h : Own w lo e size ad n cap cs) (hn : 0 < n) :
    ∃ g, ad = some ⟨g, 0, none⟩ ∧ lo ≤ g ∧ g < w.heap.size := by
  rcases h.2 with ⟨_, h0⟩ | ⟨g, _, _, he, hb, hg, _⟩
  · omega
  · simp only [Value.slice.injEq] at he
    exact ⟨g, he.1, hb, (Array.getElem?_eq_some_iff.1 hg).1⟩
theorem Own.get {w : World} {lo e : Nat} {size : Nat} {g n cap : Nat} {cs : List Value} (h : Own w lo e size (some ⟨g, 0, none⟩) n cap cs) (j : Nat) (hj : j < cs.length) :
    w.cell? ⟨g, j, none⟩ = some cs[j] ∧ w.frozen? ⟨g, j, none⟩ = false := by
  refine ⟨?_, World.ownsRow.frozenAt h j⟩
  rw [World.ownsRow.cellAt h j (by have := h.1; omega)]
  exact List.getElem?_eq_getElem hj
theorem Own.put {w : World} {lo e : Nat} {size : Nat} {g n cap : Nat} {cs : List Value} (h : Own w lo e size (some ⟨g, 0, none⟩) n cap cs) (j : Nat) (u : Value) :
    Own (w.setCell ⟨g, j, none⟩ u) lo e size (some ⟨g, 0, none⟩) n cap (cs.set j u) := (World.ownsRow.stored h j u).1
theorem Own.alloc {w : World} {lo e size : Nat} {ad : Option Addr} {n cap : Nat} {cs : List Value} (h : Own w lo e size ad n cap cs) (o : Obj) : Own (w.alloc o) lo e size ad n cap cs := World.ownsRow.alloc h o
theorem Own.drew {w : World} {lo e size : Nat} {ad : Option Addr} {n cap : Nat} {cs : List Value} (h : Own w lo e size ad n cap cs) : Own w.drew lo e size ad n cap cs := h
theorem Own.drewN {w : World} {lo e size : Nat} {ad : Option Addr} {n cap : Nat} {cs : List Value} (h : Own w lo e size ad n cap cs) (k : Nat) : Own (w.drewN k) lo e size ad n cap cs := h
theorem RdC.drew {w : World} {ad : Option Addr} {cs : List Value} (h : RdC w ad cs) : RdC w.drew ad cs := h
theorem RdC.drewN {w : World} {ad : Option Addr} {cs : List Value} (h : RdC w ad cs) (k : Nat) : RdC (w.drewN k) ad cs := h
theorem below_drewN {B : Nat} {a w : World} (h : Below B a w) (n : Nat) : Below B a (w.drewN n) := ⟨h.os, h.tape, h.output, h.size, h.block⟩
theorem own_block (ad : Option Addr) (n c : Nat) : (Value.slice ad n c).ownBlock = ad.map (·.block) := by cases ad <;> rfl
/-- What an append leaves, said with 'Below'. -/
theorem Own.below {W w' : World} {lo e size : Nat} {ad : Option Addr} {n cap : Nat} {cs : List Value} (h : Own W lo e size ad n cap cs) (hlo : lo ≤ W.heap.size) (hg : W.grownBy w' (ad.map (·.block))) : Below lo W w' :=
  (Below.refl _ _).grown hg hlo (fun k hk => by
    cases ad with
    | none => cases hk
    | some a => have := h.blk a rfl; simp only [Option.map_some, Option.some.injEq] at hk; omega)
theorem grown_setCell {w w1 : World} {g j : Nat} (u : Value) (h : w.grownBy w1 (some g)) : w.grownBy (w1.setCell ⟨g, j, none⟩ u) (some g) :=
  ⟨h.os, h.tape, h.output, by have := h.size; simp [World.setCell]; omega, fun k hk hne => (Below.heap_setCell _ _ _ _ (fun e => hne (by rw [e]))).trans (h.block k hk hne)⟩
theorem grown_refl (w : World) (r : Option Nat) : w.grownBy w r := ⟨rfl, rfl, rfl, Nat.le_refl _, fun _ _ _ => rfl⟩

theorem seqI_succ (k : Int) (n : Nat) : seqI k (n + 1) = seqI k n ++ [k + n] := by simp [seqI, List.range_succ]
/-- One mark more. -/
theorem mark_step {cs : List Value} {k : Int} {j : Nat} (hj : j < cs.length) :
    (I64 (seqI k j) ++ cs.drop j).set j (.int .i64 (k + j)) = I64 (seqI k (j + 1)) ++ cs.drop (j + 1) := by
  have hl : (I64 (seqI k j)).length = j := by simp
  rw [List.set_append, if_neg (by omega), hl, Nat.sub_self, List.drop_eq_getElem_cons hj, List.set_cons_zero, seqI_succ, I64_append, List.append_assoc]
  rfl

theorem made_ints (n : Nat) : (madeCells #[Value.int .i64 0] n).toList = I64 (List.replicate n 0) := by
  refine List.ext_getElem (by simp [madeCells]) fun i h1 h2 => ?_
  simp [madeCells, I64, Nat.mod_one]

theorem I64_set (xs : List Int) (i : Nat) (x : Int) : (I64 xs).set i (.int .i64 x) = I64 (xs.set i x) := by simp [I64, List.map_set]
theorem copy_step {xs ys : List Int} {k : Nat} (hk : k < xs.length) (hy : ys.length = xs.length) :
    (xs.take k ++ ys.drop k).set k xs[k] = xs.take (k + 1) ++ ys.drop (k + 1) := by
  have hl : (xs.take k).length = k := by simp; omega
  rw [List.set_append, if_neg (by omega), hl, Nat.sub_self, List.drop_eq_getElem_cons (by omega : k < ys.length), List.set_cons_zero, List.take_succ_eq_append_getElem hk, List.append_assoc]
  rfl

end Go.Proofs.YtigefmobejclaaaDoor
