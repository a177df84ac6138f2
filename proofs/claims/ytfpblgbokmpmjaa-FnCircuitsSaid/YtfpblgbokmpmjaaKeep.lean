/- A cell that is known stays known. -/
import Derived.Test.YtfpblgbokmpmjaaHeap
namespace Go.Proofs.Ytfpblgbokmpmjaa
open Go.RowKit
theorem cell_al {w : World} {o : Obj} {b off : Nat} {v : Value} (h : w.cell? ⟨b, off, none⟩ = some v) : (w.alloc o).cell? ⟨b, off, none⟩ = some v := bel_keeps ((Below.refl _ _).alloc (Nat.le_refl _) _) h
theorem cell_dr {w : World} {b off : Nat} {v : Value} (h : w.cell? ⟨b, off, none⟩ = some v) : w.drew.cell? ⟨b, off, none⟩ = some v := h
theorem cell_st {w : World} {a : Addr} {x : Value} {b off : Nat} {v : Value} (h : w.cell? ⟨b, off, none⟩ = some v) (hne : b ≠ a.block) : (w.setCell a x).cell? ⟨b, off, none⟩ = some v :=
  (World.cell?_of_block (w := w) (a := ⟨b, off, none⟩) (Below.heap_setCell _ _ _ _ hne)).trans h
theorem free_al {w : World} {o : Obj} {b off : Nat} (hb : b < w.heap.size) (h : w.frozen? ⟨b, off, none⟩ = false) : (w.alloc o).frozen? ⟨b, off, none⟩ = false := bel_free ((Below.refl _ _).alloc (Nat.le_refl _) _) hb h
theorem free_st {w : World} {a : Addr} {x : Value} {b off : Nat} (h : w.frozen? ⟨b, off, none⟩ = false) (hne : b ≠ a.block) : (w.setCell a x).frozen? ⟨b, off, none⟩ = false :=
  (World.frozen?_of_block (w := w) (a := ⟨b, off, none⟩) (Below.heap_setCell _ _ _ _ hne)).trans h
end Go.Proofs.Ytfpblgbokmpmjaa
