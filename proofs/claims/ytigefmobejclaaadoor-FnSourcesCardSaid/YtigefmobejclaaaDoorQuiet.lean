/- Regions that draw their order, whose operations only read and whose callees may make memory but hand back one value in every world of a class: one walk serves every order. Over any program. -/
import Derived.Test.YtigefmobejclaaaDoorHeap
import Derived.Deep.QuietTactic
import Derived.BigQuiet
namespace Go.Proofs.YtigefmobejclaaaDoor
open Go.RowKit

/-- A world of a class. -/
structure WIn (S : World → Prop) where
  w : World
  ok : S w

theorem wp_region_in {P : Program} {id : Nat} {Q : Exit → Act → World → Prop} {a : Act} {w : World} {l : List Oper} (S : World → Prop) (hm : P.follows .mixedOrders = true) (hB : Region.lexB .any l.toArray = true) (hS : S w.drew)
    (h : wpQuiet P l.toArray (fun w' => ∃ x : WIn S, w' = x.w) (fun a' => ∀ w', (∃ x : WIn S, w' = x.w) → Q .normal a' w') l a) : (Code.region id l.toArray true).wp P Q a w :=
  wp_region_quiet (C := fun w' => ∃ x : WIn S, w' = x.w) hm hB ⟨⟨_, hS⟩, rfl⟩ (by simpa using h)

/-- Six cells of a block, and nothing that was there before has turned. -/
def Bx6 (w0 : World) (g : Nat) (v0 v1 v2 v3 v4 v5 : Value) (w' : World) : Prop :=
  w'.cell? ⟨g, 0, none⟩ = some v0 ∧ w'.cell? ⟨g, 1, none⟩ = some v1 ∧ w'.cell? ⟨g, 2, none⟩ = some v2 ∧ w'.cell? ⟨g, 3, none⟩ = some v3 ∧ w'.cell? ⟨g, 4, none⟩ = some v4 ∧ w'.cell? ⟨g, 5, none⟩ = some v5 ∧ Below w0.heap.size w0 w'

theorem Bx6.box (w : World) (v0 v1 v2 v3 v4 v5 : Value) (t : TypeId) : Bx6 w w.heap.size v0 v1 v2 v3 v4 v5 (w.alloc (.cells #[v0, v1, v2, v3, v4, v5] t)) := by
  have h : (w.alloc (.cells #[v0, v1, v2, v3, v4, v5] t)).heap[w.heap.size]? = some (.cells #[v0, v1, v2, v3, v4, v5] t) := heap_alloc_new w _
  refine ⟨?_, ?_, ?_, ?_, ?_, ?_, (Below.refl _ _).alloc (Nat.le_refl _) _⟩ <;> (unfold World.cell?; rw [h]; rfl)
theorem Bx6.drew {w0 w1 : World} {g : Nat} {v0 v1 v2 v3 v4 v5 : Value} (h : Bx6 w0 g v0 v1 v2 v3 v4 v5 w1) : Bx6 w0 g v0 v1 v2 v3 v4 v5 w1.drew := by
  obtain ⟨a, b, c, d, e, f, k⟩ := h
  exact ⟨a, b, c, d, e, f, k.drew⟩
theorem Bx6.on {w0 w1 w2 : World} {g : Nat} {v0 v1 v2 v3 v4 v5 : Value} (h : Bx6 w0 g v0 v1 v2 v3 v4 v5 w1) (hb : Below w1.heap.size w1 w2) : Bx6 w0 g v0 v1 v2 v3 v4 v5 w2 := by
  obtain ⟨a, b, c, d, e, f, k⟩ := h
  exact ⟨bel_keeps hb a, bel_keeps hb b, bel_keeps hb c, bel_keeps hb d, bel_keeps hb e, bel_keeps hb f, k.trans (hb.mono k.size)⟩
theorem Bx6.bel {w0 w1 : World} {g : Nat} {v0 v1 v2 v3 v4 v5 : Value} (h : Bx6 w0 g v0 v1 v2 v3 v4 v5 w1) : Below w0.heap.size w0 w1 := h.2.2.2.2.2.2

section
variable {w0 : World} {g : Nat} {v0 v1 v2 v3 v4 v5 : Value}
theorem in6_0 (x : WIn (Bx6 w0 g v0 v1 v2 v3 v4 v5)) : x.w.cell? ⟨g, 0, none⟩ = some v0 := x.ok.1
theorem in6_1 (x : WIn (Bx6 w0 g v0 v1 v2 v3 v4 v5)) : x.w.cell? ⟨g, 1, none⟩ = some v1 := x.ok.2.1
theorem in6_2 (x : WIn (Bx6 w0 g v0 v1 v2 v3 v4 v5)) : x.w.cell? ⟨g, 2, none⟩ = some v2 := x.ok.2.2.1
theorem in6_3 (x : WIn (Bx6 w0 g v0 v1 v2 v3 v4 v5)) : x.w.cell? ⟨g, 3, none⟩ = some v3 := x.ok.2.2.2.1
theorem in6_4 (x : WIn (Bx6 w0 g v0 v1 v2 v3 v4 v5)) : x.w.cell? ⟨g, 4, none⟩ = some v4 := x.ok.2.2.2.2.1
theorem in6_5 (x : WIn (Bx6 w0 g v0 v1 v2 v3 v4 v5)) : x.w.cell? ⟨g, 5, none⟩ = some v5 := x.ok.2.2.2.2.2.1
/-- A call that makes memory, inside such a region. -/
theorem Calls.in6 {P : Program} {f : FuncId} {args : Array Value} {v : Value} (x : WIn (Bx6 w0 g v0 v1 v2 v3 v4 v5)) (h : Calls P f args x.w fun e w' => e = .returned v ∧ Below x.w.heap.size x.w w') :
    Calls P f args x.w fun e w'' => e = .returned v ∧ ∃ y : WIn (Bx6 w0 g v0 v1 v2 v3 v4 v5), w'' = y.w :=
  h.mono fun _ w'' ⟨he, hb⟩ => ⟨he, ⟨w'', x.ok.on hb⟩, rfl⟩
theorem Calls.in6s {P : Program} {f : FuncId} {args : Array Value} {v : Value} (x : WIn (Bx6 w0 g v0 v1 v2 v3 v4 v5)) (h : Calls P f args x.w fun e w' => e = .returned v ∧ x.w = w') :
    Calls P f args x.w fun e w'' => e = .returned v ∧ ∃ y : WIn (Bx6 w0 g v0 v1 v2 v3 v4 v5), w'' = y.w :=
  h.mono fun _ _ ⟨he, hb⟩ => ⟨he, x, hb.symm⟩
end

/-- The worlds in which all that was there stands as it was. -/
def Bl (w0 w' : World) : Prop := Below w0.heap.size w0 w'
instance (w0 : World) : Nonempty (WIn (Bl w0)) := ⟨⟨w0, Below.refl _ _⟩⟩
theorem wp_region_bel {P : Program} {id : Nat} {Q : Exit → Act → World → Prop} {a : Act} {w : World} {l : List Oper} (hm : P.follows .mixedOrders = true) (hB : Region.lexB .any l.toArray = true)
    (h : wpQuiet P l.toArray (fun w' => ∃ x : WIn (Bl w), w' = x.w) (fun a' => ∀ w', (∃ x : WIn (Bl w), w' = x.w) → Q .normal a' w') l a) : (Code.region id l.toArray true).wp P Q a w :=
  wp_region_in (Bl w) hm hB (Below.refl _ _).drew h
section
variable {w0 : World}
theorem in_cell {b o : Nat} {v : Value} (h : w0.cell? ⟨b, o, none⟩ = some v) (x : WIn (Bl w0)) : x.w.cell? ⟨b, o, none⟩ = some v := bel_keeps x.ok h
theorem in_rd {ad : Option Addr} {cs : List Value} (h : RdC w0 ad cs) (x : WIn (Bl w0)) : RdC x.w ad cs := h.below x.ok
/-- A call that makes memory, inside such a region. -/
theorem Calls.inb {P : Program} {f : FuncId} {args : Array Value} {v : Value} {x : WIn (Bl w0)} (h : Calls P f args x.w fun e w' => e = .returned v ∧ Below x.w.heap.size x.w w') :
    Calls P f args x.w fun e w'' => e = .returned v ∧ ∃ y : WIn (Bl w0), w'' = y.w :=
  h.mono fun _ w'' ⟨he, hb⟩ => ⟨he, ⟨w'', x.ok.trans (hb.mono x.ok.size)⟩, rfl⟩
theorem Calls.inbs {P : Program} {f : FuncId} {args : Array Value} {v : Value} {x : WIn (Bl w0)} (h : Calls P f args x.w fun e w' => e = .returned v ∧ x.w = w') :
    Calls P f args x.w fun e w'' => e = .returned v ∧ ∃ y : WIn (Bl w0), w'' = y.w :=
  h.mono fun _ _ ⟨he, hb⟩ => ⟨he, x, hb.symm⟩
theorem Calls.inbd {P : Program} {f : FuncId} {args : Array Value} {v : Value} {x : WIn (Bl w0)} (h : Calls P f args x.w fun e w' => e = .returned v ∧ ∃ n, w' = x.w.drewN n) :
    Calls P f args x.w fun e w'' => e = .returned v ∧ ∃ y : WIn (Bl w0), w'' = y.w :=
  h.mono fun _ _ ⟨he, n, hb⟩ => ⟨he, ⟨x.w.drewN n, below_drewN x.ok n⟩, hb⟩
end
end Go.Proofs.YtigefmobejclaaaDoor
