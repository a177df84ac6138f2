/- A gate is appended to a circuit under construction. -/
import Derived.Test.YtfcijloiebnloaaBld
namespace Go.Proofs.Ytfcijloiebnloaa
open Go.RowKit
set_option linter.unusedVariables false
set_option linter.unusedSimpArgs false

theorem Bld.al {w : World} {lo bx : Nat} {gs : List Gt} {v : Value} (h : Bld w lo bx gs v) (o : Obj) : Bld (w.alloc o) lo bx gs v := h.below ((Below.refl _ _).alloc (Nat.le_refl _) _)
theorem Fr.al {w : World} {lo bx : Nat} {gs : List Gt} {v : Value} (h : Bld w lo bx gs v) (o : Obj) : Fr bx w (w.alloc o) := Fr.below h ((Below.refl _ _).alloc (Nat.le_refl _) _)
/-- An appended row, then the store of it. -/
theorem Bld.push {w w1 : World} {lo bx : Nat} {gs gs' : List Gt} {v : Value} (h : Bld w lo bx gs v) {ad : Option Addr} {g c' cap : Nat} (o : Obj) (had : w.cell? ⟨bx, 0, none⟩ = some (.slice ad gs.length c'))
    (ho : Own w1 lo 109 3 (some ⟨g, 0, none⟩) gs'.length cap (gtCells gs')) (hg : (w.alloc o).grownBy w1 (ad.map (·.block))) (hat : ad = some ⟨g, 0, none⟩ ∨ g = (w.alloc o).heap.size) :
    Bld (w1.setCell ⟨bx, 0, none⟩ (.slice (some ⟨g, 0, none⟩) gs'.length cap)) lo bx gs' v ∧ Fr bx w (w1.setCell ⟨bx, 0, none⟩ (.slice (some ⟨g, 0, none⟩) gs'.length cap)) ∧ Below lo w (w1.setCell ⟨bx, 0, none⟩ (.slice (some ⟨g, 0, none⟩) gs'.length cap)) := by
  have k := (h.al o).put (gs' := gs') (cap := cap) ((cell_blk (w' := w.alloc o) (w := w) (b := bx) (Below.heap_alloc _ _ _ h.lt) 0).trans had) ho hg (hat.imp id fun e => by rw [e]; exact Nat.le_refl _)
  exact ⟨k.1, (Fr.al h o).trans k.2.1, ((Below.refl _ _).alloc h.le _).trans k.2.2⟩
/-- What is known of the box in a world in which its row has grown. -/
theorem Bld.facts {w w1 : World} {lo bx : Nat} {gs : List Gt} {v : Value} (h : Bld w lo bx gs v) {ad : Option Addr} {c' : Nat} (o : Obj) (had : w.cell? ⟨bx, 0, none⟩ = some (.slice ad gs.length c')) (hg : (w.alloc o).grownBy w1 (ad.map (·.block))) :
    w1.cell? ⟨bx, 0, none⟩ = some (.slice ad gs.length c') ∧ w1.frozen? ⟨bx, 0, none⟩ = false := by
  have h' := h.al o
  obtain ⟨ad', c2, hc, ho', hne⟩ := h.row
  have ea : ad' = ad := by rw [hc] at had; simp at had; exact had.1
  subst ea
  have hb1 := hg.block bx h'.lt (fun e => map_ne_of hne e.symm)
  exact ⟨(cell_blk hb1 0).trans ((cell_blk (w' := w.alloc o) (w := w) (b := bx) (Below.heap_alloc _ _ _ h.lt) 0).trans had), (free_blk hb1 0).trans h'.f0⟩

set_option maxHeartbeats 1000000 in
theorem bgate_any (gs : List Gt) (kd a b : Int) (v : Value) (lo bx : Nat) (w : World) (hB : Bld w lo bx gs v) (hn : gs.length ≤ 1000000) :
    Calls Try.prog 59 #[.pointer (some ⟨bx, 0, none⟩), .int .i64 kd, .int .i64 a, .int .i64 b] w fun e w' => e = .returned (.int .i64 (gs.length : Int)) ∧ Bld w' lo bx (gs ++ [⟨kd, a, b⟩]) v ∧ Fr bx w w' ∧ Below lo w w' := by
  obtain ⟨ad, cap, hc, ho, hne⟩ := hB.row
  have HB := Lib.hid hB
  have HC := Lib.hid hc
  have HO := Lib.hid ho
  have hlo := hB.le
  have hlt := hB.lt
  clear hB ho hne
  go_enter Try.func59, Try.ntmps59
  go_wp2_with (refine wpList_pushG _ rfl (.tmp 14) (.tmp 19) rfl lo gs.length cap ad gs ⟨kd, a, b⟩ w.heap.size 1 (by rfl) (by rfl) (HO.out.alloc _) (by go_simp) (by go_simp) (by go_simp) (by omega) (by simp; omega) ?_; intro g d w1 ho1 hb1 hg1 hat; obtain ⟨e1, e2⟩ := HB.out.facts _ HC.out hg1)
  have hl : (gs ++ [(⟨kd, a, b⟩ : Gt)]).length = gs.length + 1 := by simp
  rw [← hl]
  have HP := Lib.hid (HB.out.push (gs' := gs ++ [⟨kd, a, b⟩]) _ HC.out (by rw [hl]; exact ho1) hg1 hat)
  have HL := Lib.hid hl
  have hl1 : (gs ++ [(⟨kd, a, b⟩ : Gt)]).length ≤ 1000001 := by omega
  have hl2 : 1 ≤ (gs ++ [(⟨kd, a, b⟩ : Gt)]).length := by omega
  clear hl ho1 hg1 hat hb1 hc
  go_wp2_with fail
  go_ret
  exact ⟨ret_int (by have := HL.out; omega), HP.out⟩
end Go.Proofs.Ytfcijloiebnloaa
