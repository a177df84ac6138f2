/- Marks on circuits. -/
import Derived.Test.YtfcijloiebnloaaCirc
import Derived.Test.YtfcijloiebnloaaAppA
namespace Go.Proofs.Ytfcijloiebnloaa
open Go.RowKit
set_option linter.unusedVariables false
set_option linter.unusedSimpArgs false

theorem Own.kpg {w0 w1 : World} {lo e size : Nat} {ad : Option Addr} {n cap : Nat} {cs : List Value} (h : Own w0 lo e size ad n cap cs) {row : Option Nat} (hg : w0.grownBy w1 row) (hne : ∀ a, ad = some a → row ≠ some a.block) : Own w1 lo e size ad n cap cs :=
  h.keep fun a ha => (Kp.refl _ _).grown hg (hne a ha)

set_option maxHeartbeats 1000000 in
theorem markCircuit_any (n1 n2 : Nat) (cs1 cs2 : List Value) (lo lo2 l hi : Nat) (k0 : Int) (a1 a2 : Option Addr) (c1 c2 : Nat) (w : World) (hk0 : 0 ≤ k0) (hk1 : k0 ≤ 549755813888) (hm1 : n1 ≤ 1048576) (hm2 : n2 ≤ 1048576)
    (ho1 : Own w lo 109 3 a1 n1 c1 cs1) (ho2 : Own w lo2 3 1 a2 n2 c2 cs2) (hi1 : Ins a1 l hi) (hi2 : Ins a2 l hi) (hne : ∀ x y, a1 = some x → a2 = some y → x.block ≠ y.block) (h1 : l ≤ hi) (h3 : hi ≤ w.heap.size) :
    Calls Try.prog 18 #[.agg #[.slice a1 n1 c1, .slice a2 n2 c2], .int .i64 k0] w fun e w' => e = .returned (.int .i64 (k0 + (n1 * 3 : Nat) + n2)) ∧ Own w' lo 109 3 a1 n1 c1 (I64 (seqI k0 (n1 * 3))) ∧ Own w' lo2 3 1 a2 n2 c2 (I64 (seqI (k0 + (n1 * 3 : Nat)) n2)) ∧ Below l w w' ∧ Rng l hi w w' := by
  go_enter Try.func18, Try.ntmps18
  go_wp2_with fail
  refine (markGateS_any n1 _ _ k0 _ _ _ hk0 (by omega) hm1 (ho1.alloc _)).mono ?_
  rintro e w1 ⟨rfl, ho3, hg1⟩
  have z1 := hg1.size
  simp at z1
  have hb1 := below_of_grown hi1 (by simp; omega) hg1
  have hr1 := Rng.of_grown hi1 hg1
  have ho4 : Own w1 lo2 3 1 a2 n2 c2 cs2 := (ho2.alloc _).kpg hg1 fun a ha => map_ne_of fun b hb => hne b a hb ha
  have hkb : Kp w.heap.size (w.alloc (.cells #[.slice a1 n1 c1, .slice a2 n2 c2] 29)) w1 := hr1 _ (by omega)
  have k1 : w1.cell? ⟨w.heap.size, 1, none⟩ = some (.slice a2 n2 c2) := (World.cell?_of_block (w := w.alloc _) (a := ⟨w.heap.size, 1, none⟩) (hkb (by simp)).1).trans (by go_simp)
  go_wp2_with fail
  refine (markIntS_any n2 _ _ (k0 + (n1 * 3 : Nat)) _ _ _ (by omega) (by omega) hm2 ho4).mono ?_
  rintro e w2 ⟨rfl, ho5, hg2⟩
  have hb2 := below_of_grown hi2 (by omega) hg2
  have hr2 := Rng.of_grown hi2 hg2
  have ho6 : Own w2 lo 109 3 a1 n1 c1 (I64 (seqI k0 (n1 * 3))) := ho3.kpg hg2 fun a ha => map_ne_of fun b hb e => hne a b ha hb e.symm
  go_wp2_with fail
  go_ret
  exact ⟨rfl, ho6, ho5, (((Below.refl _ _).alloc (by omega) _).trans hb1).trans hb2, fun b hb => ((((Kp.refl b w).alloc _).rng hr1 (by omega)).rng hr2 (by omega))⟩

set_option maxHeartbeats 1000000 in
theorem heldCircuit_any (n1 n2 : Nat) (k0 : Int) (a1 a2 : Option Addr) (c1 c2 : Nat) (w : World) (hk0 : 0 ≤ k0) (hk1 : k0 ≤ 549755813888) (hm1 : n1 ≤ 1048576) (hm2 : n2 ≤ 1048576)
    (hr1 : RdC w a1 (I64 (seqI k0 (n1 * 3)))) (hr2 : RdC w a2 (I64 (seqI (k0 + (n1 * 3 : Nat)) n2))) :
    Calls Try.prog 20 #[.agg #[.slice a1 n1 c1, .slice a2 n2 c2], .int .i64 k0] w fun e w' => e = .returned (.int .i64 (k0 + (n1 * 3 : Nat) + n2)) ∧ Below w.heap.size w w' := by
  go_enter Try.func20, Try.ntmps20
  go_wp2_with fail
  refine (heldGateS_any n1 k0 _ _ _ hk0 (by omega) hm1 (hr1.below ((Below.refl _ _).alloc (Nat.le_refl _) _))).mono ?_
  rintro e _ ⟨rfl, rfl⟩
  go_wp2_with fail
  refine (heldIntS_any n2 (k0 + (n1 * 3 : Nat)) _ _ _ (by omega) (by omega) hm2 (hr2.below ((Below.refl _ _).alloc (Nat.le_refl _) _))).mono ?_
  rintro e _ ⟨rfl, rfl⟩
  go_wp2_with fail
  go_ret
  exact ⟨rfl, (Below.refl _ _).alloc (Nat.le_refl _) _⟩
end Go.Proofs.Ytfcijloiebnloaa
