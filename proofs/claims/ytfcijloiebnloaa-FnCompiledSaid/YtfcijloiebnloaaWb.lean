/- The circuit of a builder of words, and its two results. -/
import Derived.Test.YtfcijloiebnloaaBs
import Derived.Test.YtfcijloiebnloaaCopyC
import Derived.StillTailTactics
import Derived.Deep.RegionHeld3
import Derived.Deep.RegionLaw
namespace Go.Proofs.Ytfcijloiebnloaa
open Go.RowKit
set_option linter.unusedVariables false
set_option linter.unusedSimpArgs false

/-- From w0 on: a circuit under construction in the box bx, its outputs in a list of its own. -/
structure WB (w0 w : World) (bx : Nat) (G : List Gt) (g2 d2 : Nat) (os : List Int) : Prop where
  b : Bld w (w0.heap.size + 2) bx G (.slice (some ⟨g2, 0, none⟩) os.length d2)
  o : Own w w0.heap.size 3 1 (some ⟨g2, 0, none⟩) os.length d2 (I64 os)
  f : Frn w bx g2
  gg : w0.heap.size + 2 ≤ g2
  l : Below w0.heap.size w0 w
theorem Fr.cell {bx b o : Nat} {w w2 : World} {x : Value} (h : Fr bx w w2) (hf : Frn w bx b) (hc : w.cell? ⟨b, o, none⟩ = some x) : w2.cell? ⟨b, o, none⟩ = some x := (cell_blk (h b hf).1 o).trans hc
theorem Fr.free {bx b o : Nat} {w w2 : World} {x : Bool} (h : Fr bx w w2) (hf : Frn w bx b) (hc : w.frozen? ⟨b, o, none⟩ = x) : w2.frozen? ⟨b, o, none⟩ = x := (free_blk (h b hf).1 o).trans hc
theorem WB.start {w0 w1 w : World} {g1 d1 g2 d2 bx : Nat} {gs : List Gt} {os : List Int} (ho1 : Own w1 (w0.heap.size + 2) 109 3 (some ⟨g1, 0, none⟩) gs.length d1 (gtCells gs)) (ho2 : Own w1 (w0.heap.size + 2) 3 1 (some ⟨g2, 0, none⟩) os.length d2 (I64 os)) (hne : g1 ≠ g2)
    (hl : Below w0.heap.size w0 w) (hb : Below w1.heap.size w1 w) (hx : bx = w1.heap.size) (hlt : w1.heap.size < w.heap.size) (c0 : w.cell? ⟨bx, 0, none⟩ = some (.slice (some ⟨g1, 0, none⟩) gs.length d1)) (c1 : w.cell? ⟨bx, 1, none⟩ = some (.slice (some ⟨g2, 0, none⟩) os.length d2))
    (f0 : w.frozen? ⟨bx, 0, none⟩ = false) (f1 : w.frozen? ⟨bx, 1, none⟩ = false) : WB w0 w bx gs g2 d2 os := by
  subst hx
  have q1 := ho1.ge
  have q2 := ho2.ge
  have p1 := ho1.later ((Kp.refl _ _).below hb)
  have p2 := ho2.later ((Kp.refl _ _).below hb)
  exact ⟨⟨hlt, by omega, by omega, ⟨_, _, c0, p1, fun a e => by obtain rfl := Option.some.inj e; simp; omega⟩, c1, f0, f1⟩, p2.lo (by omega), ⟨by omega, by omega, by unfold gblk; rw [c0]; simpa using hne⟩, q2.1, hl⟩
theorem WB.on {w0 w w2 : World} {bx g2 d2 : Nat} {G G' : List Gt} {os : List Int} (h : WB w0 w bx G g2 d2 os) (hB : Bld w2 (w0.heap.size + 2) bx G' (.slice (some ⟨g2, 0, none⟩) os.length d2)) (hF : Fr bx w w2) (hL : Below (w0.heap.size + 2) w w2) : WB w0 w2 bx G' g2 d2 os :=
  ⟨hB, h.o.later (hF.kp h.f), hF.frn h.f, h.gg, h.l.trans (hL.mono (by omega))⟩
theorem WB.below {w0 w w2 : World} {bx g2 d2 : Nat} {G : List Gt} {os : List Int} (h : WB w0 w bx G g2 d2 os) (hL : Below w.heap.size w w2) : WB w0 w2 bx G g2 d2 os :=
  h.on (h.b.below hL) (Fr.below h.b hL) (hL.mono h.b.le)
theorem WB.fra {w0 w : World} {bx g2 d2 : Nat} {G : List Gt} {os xs : List Int} {ax : Option Addr} (h : WB w0 w bx G g2 d2 os) (hr : RdC w0 ax (I64 xs)) (hx : 0 < xs.length) : FrA w bx ax := by
  obtain ⟨b, off, rfl, hb, _⟩ := hr.elem 0 hx
  intro b' off' e
  cases e
  exact h.b.frn_lo (by omega)
/-- The two results: the circuit, and a list of wires. -/
def PostW (w0 w' : World) (e : Ending) (G : List Gt) (os ws : List Int) : Prop :=
  ∃ b1 d1 b2 d2 g c', e = .returned (.tuple #[.agg #[.slice b1 G.length d1, .slice b2 os.length d2], .slice g ws.length c']) ∧ Own w' w0.heap.size 109 3 b1 G.length d1 (gtCells G) ∧ Own w' w0.heap.size 3 1 b2 os.length d2 (I64 os) ∧ (∀ x y, b1 = some x → b2 = some y → x.block ≠ y.block) ∧
    Own w' w0.heap.size 3 1 g ws.length c' (I64 ws) ∧ (∀ x y, b1 = some x → g = some y → x.block ≠ y.block) ∧ (∀ x y, b2 = some x → g = some y → x.block ≠ y.block) ∧ Below w0.heap.size w0 w'
/-- The circuit, and a number. -/
def PostI (w0 w' : World) (e : Ending) (G : List Gt) (os : List Int) (x : Int) : Prop :=
  ∃ b1 d1 b2 d2, e = .returned (.tuple #[.agg #[.slice b1 G.length d1, .slice b2 os.length d2], .int .i64 x]) ∧ Own w' w0.heap.size 109 3 b1 G.length d1 (gtCells G) ∧ Own w' w0.heap.size 3 1 b2 os.length d2 (I64 os) ∧ (∀ x y, b1 = some x → b2 = some y → x.block ≠ y.block) ∧ Below w0.heap.size w0 w'
theorem WB.circ {w0 w w' : World} {bx g2 d2 : Nat} {G : List Gt} {os : List Int} (h : WB w0 w bx G g2 d2 os) {ad : Option Addr} {cap : Nat} (hc : w.cell? ⟨bx, 0, none⟩ = some (.slice ad G.length cap)) (hk : ∀ b, b ≠ w0.heap.size + 1 → Kp b w w') :
    Own w' w0.heap.size 109 3 ad G.length cap (gtCells G) ∧ Own w' w0.heap.size 3 1 (some ⟨g2, 0, none⟩) os.length d2 (I64 os) ∧ (∀ x y, ad = some x → (some ⟨g2, 0, none⟩ : Option Addr) = some y → x.block ≠ y.block) := by
  obtain ⟨ad', cap', hc', ho, hne⟩ := h.b.row
  rw [hc] at hc'
  injection Option.some.inj hc' with e1 e2 e3
  subst e1; subst e3
  refine ⟨(ho.lo (by omega)).keep fun x hx => hk _ (by have := ho.blk x hx; omega), h.o.keep fun x hx => hk _ ?_, ?_⟩
  · obtain rfl := Option.some.inj hx
    have hg := h.b.frn_lo (b := w0.heap.size + 1) (by omega)
    intro e
    have e2 : g2 = w0.heap.size + 1 := e
    have hf := h.f
    have q := h.gg
    omega
  · rintro x y rfl hy e
    obtain rfl := Option.some.inj hy
    have hf := h.f.2.2
    unfold gblk at hf
    rw [hc] at hf
    exact hf (by simpa using e)
theorem WB.postW {w0 w w' : World} {bx g2 d2 n c' lo' : Nat} {G : List Gt} {os ws : List Int} {g ad : Option Addr} {cap : Nat} (h : WB w0 w bx G g2 d2 os) (hc : w.cell? ⟨bx, 0, none⟩ = some (.slice ad G.length cap)) (hn : n = ws.length) (ho : Own w' lo' 3 1 g n c' (I64 ws)) (hg : ∀ y, g = some y → gblk w bx ≠ some y.block ∧ y.block ≠ g2) (hlo : w0.heap.size ≤ lo')
    (hk : ∀ b, b ≠ w0.heap.size + 1 → Kp b w w') (hb : Below w0.heap.size w0 w') : PostW w0 w' (.returned (.tuple #[.agg #[.slice ad G.length cap, .slice (some ⟨g2, 0, none⟩) os.length d2], .slice g n c'])) G os ws := by
  subst hn
  obtain ⟨h1, h2, h3⟩ := h.circ hc hk
  refine ⟨_, _, _, _, _, _, rfl, h1, h2, h3, ho.lo hlo, ?_, ?_, hb⟩
  · rintro x y rfl hy e
    have hf := (hg y hy).1
    unfold gblk at hf
    rw [hc] at hf
    exact hf (by simpa using e)
  · rintro x y hx hy e
    obtain rfl := Option.some.inj hx
    exact (hg y hy).2 e.symm
theorem WB.postI {w0 w w' : World} {bx g2 d2 : Nat} {G : List Gt} {os : List Int} {ad : Option Addr} {cap : Nat} {x : Int} (h : WB w0 w bx G g2 d2 os) (hc : w.cell? ⟨bx, 0, none⟩ = some (.slice ad G.length cap))
    (hk : ∀ b, b ≠ w0.heap.size + 1 → Kp b w w') (hb : Below w0.heap.size w0 w') : PostI w0 w' (.returned (.tuple #[.agg #[.slice ad G.length cap, .slice (some ⟨g2, 0, none⟩) os.length d2], .int .i64 x])) G os x := by
  obtain ⟨h1, h2, h3⟩ := h.circ hc hk
  exact ⟨_, _, _, _, rfl, h1, h2, h3, hb⟩
/-- What a builder of words gives, where it may not work. -/
def wP {A : Type} (b : Bool) (p : List Gt × A) (gs : List Gt) (z : A) : List Gt × A := if b = true then p else (gs, z)

end Go.Proofs.Ytfcijloiebnloaa
