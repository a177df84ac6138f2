/- A circuit under construction: the box of two cells, the first a row of gates of the call's own. -/
import Derived.Test.YtfcijloiebnloaaAppA
namespace Go.Proofs.Ytfcijloiebnloaa
open Go.RowKit
set_option linter.unusedVariables false
set_option linter.unusedSimpArgs false

/-- The block of the row of gates of a box. -/
def gblk (w : World) (bx : Nat) : Option Nat := match w.cell? ⟨bx, 0, none⟩ with
  | some (.slice (some a) _ _) => some a.block
  | _ => none
/-- A block that the building leaves alone. -/
def Frn (w : World) (bx b : Nat) : Prop := b < w.heap.size ∧ b ≠ bx ∧ gblk w bx ≠ some b
/-- Such blocks stay as they are, and stay such. -/
def Fr (bx : Nat) (w w' : World) : Prop := ∀ b, Frn w bx b → w'.heap[b]? = w.heap[b]? ∧ Frn w' bx b
theorem Fr.refl (bx : Nat) (w : World) : Fr bx w w := fun b h => ⟨rfl, h⟩
theorem Fr.trans {bx : Nat} {w w1 w2 : World} (h : Fr bx w w1) (k : Fr bx w1 w2) : Fr bx w w2 := fun b hb => ⟨((k b (h b hb).2).1).trans (h b hb).1, (k b (h b hb).2).2⟩
theorem Fr.kp {bx b : Nat} {w w' : World} (h : Fr bx w w') (hb : Frn w bx b) : Kp b w w' := fun _ => ⟨(h b hb).1, (h b hb).2.1⟩
theorem Fr.frn {bx b : Nat} {w w' : World} (h : Fr bx w w') (hb : Frn w bx b) : Frn w' bx b := (h b hb).2

/-- The box bx holds the gates gs and, in its second cell, v. -/
structure Bld (w : World) (lo bx : Nat) (gs : List Gt) (v : Value) : Prop where
  lt : bx < w.heap.size
  ge : lo ≤ bx
  le : lo ≤ w.heap.size
  row : ∃ (ad : Option Addr) (cap : Nat), w.cell? ⟨bx, 0, none⟩ = some (.slice ad gs.length cap) ∧ Own w lo 109 3 ad gs.length cap (gtCells gs) ∧ ∀ a, ad = some a → a.block ≠ bx
  snd : w.cell? ⟨bx, 1, none⟩ = some v
  f0 : w.frozen? ⟨bx, 0, none⟩ = false
  f1 : w.frozen? ⟨bx, 1, none⟩ = false

theorem cell_blk {w w' : World} {b : Nat} (h : w'.heap[b]? = w.heap[b]?) (o : Nat) : w'.cell? ⟨b, o, none⟩ = w.cell? ⟨b, o, none⟩ := World.cell?_of_block (w := w) (a := ⟨b, o, none⟩) h
theorem free_blk {w w' : World} {b : Nat} (h : w'.heap[b]? = w.heap[b]?) (o : Nat) : w'.frozen? ⟨b, o, none⟩ = w.frozen? ⟨b, o, none⟩ := World.frozen?_of_block (w := w) (a := ⟨b, o, none⟩) h
theorem gblk_blk {w w' : World} {bx : Nat} (h : w'.heap[bx]? = w.heap[bx]?) : gblk w' bx = gblk w bx := by unfold gblk; rw [cell_blk h]
theorem Bld.gblk_lt {w : World} {lo bx : Nat} {gs : List Gt} {v : Value} (h : Bld w lo bx gs v) {b : Nat} (hb : gblk w bx = some b) : lo ≤ b ∧ b < w.heap.size ∧ b ≠ bx := by
  obtain ⟨ad, cap, hc, ho, hne⟩ := h.row
  unfold gblk at hb
  rw [hc] at hb
  cases ad with
  | none => simp at hb
  | some a =>
    simp at hb
    have := ho.blk a rfl
    have h2 := hne a rfl
    subst hb; exact ⟨this.2.2.1, this.2.2.2, h2⟩
/-- A block below the building. -/
theorem Bld.frn_lo {w : World} {lo bx : Nat} {gs : List Gt} {v : Value} (h : Bld w lo bx gs v) {b : Nat} (hb : b < lo) : Frn w bx b := by
  have := h.ge; have := h.lt
  exact ⟨by omega, by omega, fun e => by have := h.gblk_lt e; omega⟩
theorem Bld.mine {w : World} {lo bx : Nat} {gs : List Gt} {v : Value} (h : Bld w lo bx gs v) {b : Nat} (hb : b = bx ∨ gblk w bx = some b) : b < w.heap.size := by
  rcases hb with rfl | hb
  · exact h.lt
  · exact (h.gblk_lt hb).2.1
/-- Memory of others. -/
theorem Bld.other {w w' : World} {lo bx : Nat} {gs : List Gt} {v : Value} (h : Bld w lo bx gs v) (hk : ∀ b, b = bx ∨ gblk w bx = some b → w'.heap[b]? = w.heap[b]?) (hs : w.heap.size ≤ w'.heap.size) : Bld w' lo bx gs v := by
  have e := hk bx (.inl rfl)
  obtain ⟨ad, cap, hc, ho, hne⟩ := h.row
  refine ⟨Nat.lt_of_lt_of_le h.lt hs, h.ge, Nat.le_trans h.le hs, ⟨ad, cap, (cell_blk e 0).trans hc, ho.keep fun a ha hb => ?_, hne⟩, (cell_blk e 1).trans h.snd, (free_blk e 0).trans h.f0, (free_blk e 1).trans h.f1⟩
  have : gblk w bx = some a.block := by unfold gblk; rw [hc, ha]
  exact ⟨hk _ (.inr this), Nat.lt_of_lt_of_le hb hs⟩
theorem frn_new {w w' : World} {lo bx : Nat} {gs : List Gt} {v : Value} (h : Bld w lo bx gs v) (hk : ∀ b, b = bx ∨ gblk w bx = some b → w'.heap[b]? = w.heap[b]?) {b : Nat} (hb : w.heap.size ≤ b) (hb' : b < w'.heap.size) : Frn w' bx b := by
  have := h.lt
  exact ⟨hb', by omega, by rw [gblk_blk (hk bx (.inl rfl))]; exact fun e => by have := h.gblk_lt e; omega⟩
theorem frn_other {w w' : World} {lo bx : Nat} {gs : List Gt} {v : Value} (h : Bld w lo bx gs v) (hk : ∀ b, b = bx ∨ gblk w bx = some b → w'.heap[b]? = w.heap[b]?) (hs : w.heap.size ≤ w'.heap.size) {b : Nat} (hb : Frn w bx b) : Frn w' bx b :=
  ⟨Nat.lt_of_lt_of_le hb.1 hs, hb.2.1, by rw [gblk_blk (hk bx (.inl rfl))]; exact hb.2.2⟩
/-- New blocks. -/
theorem Bld.below {w w' : World} {lo bx : Nat} {gs : List Gt} {v : Value} (h : Bld w lo bx gs v) (k : Below w.heap.size w w') : Bld w' lo bx gs v :=
  h.other (fun b hb => k.block b (h.mine hb)) k.size
theorem Fr.below {w w' : World} {lo bx : Nat} {gs : List Gt} {v : Value} (h : Bld w lo bx gs v) (k : Below w.heap.size w w') : Fr bx w w' := fun b hb =>
  ⟨k.block b hb.1, frn_other h (fun b hb => k.block b (h.mine hb)) k.size hb⟩
/-- One row of others is written, new blocks are made. -/
theorem Bld.grown {w w' : World} {lo bx : Nat} {gs : List Gt} {v : Value} (h : Bld w lo bx gs v) {r : Option Nat} (k : w.grownBy w' r) (hr : ∀ g, r = some g → Frn w bx g) : Bld w' lo bx gs v :=
  h.other (fun b hb => k.block b (h.mine hb) (fun e => by
    have f := hr b e.symm
    rcases hb with rfl | hb
    · exact f.2.1 rfl
    · exact f.2.2 hb)) k.size
theorem frn_grown {w w' : World} {lo bx : Nat} {gs : List Gt} {v : Value} (h : Bld w lo bx gs v) {r : Option Nat} (k : w.grownBy w' r) (hr : ∀ g, r = some g → Frn w bx g) {b : Nat} (hb : Frn w bx b) : Frn w' bx b :=
  frn_other h (fun b hb => k.block b (h.mine hb) (fun e => by
    have f := hr b e.symm
    rcases hb with rfl | hb
    · exact f.2.1 rfl
    · exact f.2.2 hb)) k.size hb
theorem frn_grown_new {w w' : World} {lo bx : Nat} {gs : List Gt} {v : Value} (h : Bld w lo bx gs v) {r : Option Nat} (k : w.grownBy w' r) (hr : ∀ g, r = some g → Frn w bx g) {b : Nat} (hb : w.heap.size ≤ b) (hb' : b < w'.heap.size) : Frn w' bx b :=
  frn_new h (fun b hb => k.block b (h.mine hb) (fun e => by
    have f := hr b e.symm
    rcases hb with rfl | hb
    · exact f.2.1 rfl
    · exact f.2.2 hb)) hb hb'
/-- The row turns. -/
theorem Bld.put {w w1 : World} {lo bx : Nat} {gs gs' : List Gt} {v : Value} (h : Bld w lo bx gs v) {ad : Option Addr} {g cap' : Nat} (had : w.cell? ⟨bx, 0, none⟩ = some (.slice ad gs.length cap')) {cap : Nat}
    (ho : Own w1 lo 109 3 (some ⟨g, 0, none⟩) gs'.length cap (gtCells gs')) (hg : w.grownBy w1 (ad.map (·.block))) (hat : ad = some ⟨g, 0, none⟩ ∨ w.heap.size ≤ g) :
    Bld (w1.setCell ⟨bx, 0, none⟩ (.slice (some ⟨g, 0, none⟩) gs'.length cap)) lo bx gs' v ∧ Fr bx w (w1.setCell ⟨bx, 0, none⟩ (.slice (some ⟨g, 0, none⟩) gs'.length cap)) ∧ Below lo w (w1.setCell ⟨bx, 0, none⟩ (.slice (some ⟨g, 0, none⟩) gs'.length cap)) := by
  obtain ⟨ad', c', hc, ho', hne⟩ := h.row
  have ea : ad' = ad := by rw [hc] at had; simp at had; exact had.1
  subst ea
  have hbx : ad'.map (·.block) ≠ some bx := map_ne_of hne
  have hb1 := hg.block bx h.lt (fun e => hbx e.symm)
  have hgb : g ≠ bx := by
    rcases hat with e | e
    · exact hne _ e
    · have := h.lt; omega
  have hlt := h.lt
  have hs := hg.size
  have c0 : w1.cell? ⟨bx, 0, none⟩ = some (.slice ad' gs.length c') := (cell_blk hb1 0).trans hc
  have c1 : w1.cell? ⟨bx, 1, none⟩ = some v := (cell_blk hb1 1).trans h.snd
  have f0 : w1.frozen? ⟨bx, 0, none⟩ = false := (free_blk hb1 0).trans h.f0
  have f1 : w1.frozen? ⟨bx, 1, none⟩ = false := (free_blk hb1 1).trans h.f1
  have hge := ho.ge
  have hgk : gblk (w1.setCell ⟨bx, 0, none⟩ (.slice (some ⟨g, 0, none⟩) gs'.length cap)) bx = some g := by unfold gblk; go_simp
  have hsz : (w1.setCell ⟨bx, 0, none⟩ (.slice (some ⟨g, 0, none⟩) gs'.length cap)).heap.size = w1.heap.size := by simp [World.setCell]
  refine ⟨⟨by omega, h.ge, by have := h.le; omega, ⟨some ⟨g, 0, none⟩, cap, by go_simp, ho.later ((Kp.refl _ _).setCell _ hgb), fun a ha => by obtain rfl := Option.some.inj ha; exact hgb⟩, by go_simp, by go_simp, by go_simp⟩, ?_, ?_⟩
  · intro b hb
    have hbad : ad'.map (·.block) ≠ some b := by
      intro e
      obtain ⟨a, ha, hab⟩ := Option.map_eq_some_iff.1 e
      refine hb.2.2 ?_
      unfold gblk; rw [hc, ha, ← hab]
    have e1 := hg.block b hb.1 (fun e => hbad e.symm)
    have e2 : (w1.setCell ⟨bx, 0, none⟩ (.slice (some ⟨g, 0, none⟩) gs'.length cap)).heap[b]? = w1.heap[b]? := Below.heap_setCell _ _ _ _ hb.2.1
    refine ⟨e2.trans e1, ⟨by have := hb.1; omega, hb.2.1, ?_⟩⟩
    rw [hgk]
    intro e
    have e : g = b := Option.some.inj e
    subst e
    rcases hat with e | e
    · exact hbad (by rw [e]; rfl)
    · have := hb.1; omega
  · have hbl : Below lo w w1 := ho'.below h.le hg
    exact hbl.setCell h.ge _
end Go.Proofs.Ytfcijloiebnloaa
