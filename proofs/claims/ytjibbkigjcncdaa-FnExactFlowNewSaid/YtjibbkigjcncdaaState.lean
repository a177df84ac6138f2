/- Contracts of the laws' helpers over states and flows, and of StateOk. -/
import Derived.Test.YtjibbkigjcncdaaList
import Derived.Deep.RegionHeld3
namespace Go.Proofs.Ytjibbkigjcncdaa
open Go.RowKit

theorem Own.ge {w : World} {lo e size g n cap : Nat} {cs : List Value} (h : Own w lo e size (some ⟨g, 0, none⟩) n cap cs) : lo ≤ g ∧ g < w.heap.size := by
  have := h.blk _ rfl; exact ⟨this.2.2.1, this.2.2.2⟩
theorem Own.later {w w' : World} {lo e size g n cap : Nat} {cs : List Value} (h : Own w lo e size (some ⟨g, 0, none⟩) n cap cs) (hk : Kp g w w') : Own w' lo e size (some ⟨g, 0, none⟩) n cap cs :=
  h.keep fun a ha => by obtain rfl : (⟨g, 0, none⟩ : Addr) = a := Option.some.inj ha; exact hk



set_option maxHeartbeats 1000000 in
theorem markState_any (n1 n2 : Nat) (cs1 cs2 : List Value) (lo lo2 l mid hi : Nat) (k0 : Int) (a1 a2 : Option Addr) (c1 c2 : Nat) (w : World) (hk0 : 0 ≤ k0) (hk1 : k0 ≤ 549755813888) (hm1 : n1 ≤ 1048576) (hm2 : n2 ≤ 1048576)
    (ho1 : Own w lo 3 1 a1 n1 c1 cs1) (ho2 : Own w lo2 3 1 a2 n2 c2 cs2) (hi1 : Ins a1 l mid) (hi2 : Ins a2 mid hi) (h1 : l ≤ mid) (h2 : mid ≤ hi) (h3 : hi ≤ w.heap.size) :
    Calls Try.prog 30 #[.agg #[.slice a1 n1 c1, .slice a2 n2 c2], .int .i64 k0] w fun e w' => e = .returned (.int .i64 (k0 + n1 + n2)) ∧ Own w' lo 3 1 a1 n1 c1 (I64 (seqI k0 n1)) ∧ Own w' lo2 3 1 a2 n2 c2 (I64 (seqI (k0 + n1) n2)) ∧ Below l w w' ∧ Rng l hi w w' := by
  go_enter Try.func30, Try.ntmps30
  go_wp2_with fail
  refine (markIntS_rng n1 _ _ l mid k0 _ _ _ hk0 (by omega) hm1 (ho1.alloc _) hi1 (by simp; omega)).mono ?_
  rintro e w1 ⟨rfl, ho3, hb1, hr1⟩
  have z1 := hb1.size
  simp at z1
  have ho4 : Own w1 lo2 3 1 a2 n2 c2 cs2 := (ho2.alloc _).keep fun a ha => (Kp.refl _ _).rng hr1 (.inr (hi2 a ha).1)
  have hkb : Kp w.heap.size (w.alloc (.cells #[.slice a1 n1 c1, .slice a2 n2 c2] 40)) w1 := hr1 _ (by omega)
  have k1 : w1.cell? ⟨w.heap.size, 1, none⟩ = some (.slice a2 n2 c2) := (World.cell?_of_block (w := w.alloc _) (a := ⟨w.heap.size, 1, none⟩) (hkb (by simp)).1).trans (by go_simp)
  go_wp2_with fail
  refine (markIntS_rng n2 _ _ mid hi (k0 + n1) _ _ _ (by omega) (by omega) hm2 ho4 hi2 (by omega)).mono ?_
  rintro e w2 ⟨rfl, ho5, hb2, hr2⟩
  have ho6 : Own w2 lo 3 1 a1 n1 c1 (I64 (seqI k0 n1)) := ho3.keep fun a ha => (Kp.refl _ _).rng hr2 (.inl (hi1 a ha).2)
  go_wp2_with fail
  go_ret
  exact ⟨rfl, ho6, ho5, (((Below.refl _ _).alloc (by omega) _).trans hb1).trans (hb2.mono h1), fun b hb => ((((Kp.refl b w).alloc _).rng hr1 (by omega)).rng hr2 (by omega))⟩
set_option maxHeartbeats 1000000 in
theorem heldState_any (n1 n2 : Nat) (k0 : Int) (a1 a2 : Option Addr) (c1 c2 : Nat) (w : World) (hk0 : 0 ≤ k0) (hk1 : k0 ≤ 549755813888) (hm1 : n1 ≤ 1048576) (hm2 : n2 ≤ 1048576)
    (hr1 : RdC w a1 (I64 (seqI k0 n1))) (hr2 : RdC w a2 (I64 (seqI (k0 + n1) n2))) :
    Calls Try.prog 31 #[.agg #[.slice a1 n1 c1, .slice a2 n2 c2], .int .i64 k0] w fun e w' => e = .returned (.int .i64 (k0 + n1 + n2)) ∧ Below w.heap.size w w' := by
  go_enter Try.func31, Try.ntmps31
  go_wp2_with fail
  refine (heldIntS_any n1 k0 _ _ _ hk0 (by omega) hm1 (hr1.below (by (repeat (first | with_reducible exact Below.refl _ _ | (with_reducible refine bel_next ?_ ?_ (by assumption)) | (with_reducible refine Below.alloc ?_ ?_ _) | (with_reducible refine Below.drew ?_) | (with_reducible refine below_drewN ?_ _) | (with_reducible refine Below.setCell ?_ ?_ _))) <;> (first | omega | (simp; done) | (simp; omega))))).mono ?_
  rintro e w1 ⟨rfl, rfl⟩
  go_wp2_with fail
  refine (heldIntS_any n2 (k0 + n1) _ _ _ (by omega) (by omega) hm2 (hr2.below (by (repeat (first | with_reducible exact Below.refl _ _ | (with_reducible refine bel_next ?_ ?_ (by assumption)) | (with_reducible refine Below.alloc ?_ ?_ _) | (with_reducible refine Below.drew ?_) | (with_reducible refine below_drewN ?_ _) | (with_reducible refine Below.setCell ?_ ?_ _))) <;> (first | omega | (simp; done) | (simp; omega))))).mono ?_
  rintro e w1 ⟨rfl, rfl⟩
  go_wp2_with fail
  go_ret
  exact ⟨rfl, (by (repeat (first | with_reducible exact Below.refl _ _ | (with_reducible refine bel_next ?_ ?_ (by assumption)) | (with_reducible refine Below.alloc ?_ ?_ _) | (with_reducible refine Below.drew ?_) | (with_reducible refine below_drewN ?_ _) | (with_reducible refine Below.setCell ?_ ?_ _))) <;> (first | omega | (simp; done) | (simp; omega)))⟩
set_option maxHeartbeats 1000000 in
theorem eqState_same (xs ys : List Int) (a1 a2 b1 b2 : Option Addr) (c1 c2 d1 d2 : Nat) (w : World) (hm1 : xs.length ≤ 1048576) (hm2 : ys.length ≤ 1048576) (hr1 : RdC w a1 (I64 xs)) (hr2 : RdC w a2 (I64 ys)) (hs1 : RdC w b1 (I64 xs)) (hs2 : RdC w b2 (I64 ys)) :
    Calls Try.prog 29 #[.agg #[.slice a1 xs.length c1, .slice a2 ys.length c2], .agg #[.slice b1 xs.length d1, .slice b2 ys.length d2]] w fun e w' => e = .returned (.bool true) ∧ Below w.heap.size w w' := by
  go_enter Try.func29, Try.ntmps29
  go_wp2_with fail
  refine (eqIntS_same xs _ _ _ _ _ hm1 (hr1.below (by (repeat (first | with_reducible exact Below.refl _ _ | (with_reducible refine bel_next ?_ ?_ (by assumption)) | (with_reducible refine Below.alloc ?_ ?_ _) | (with_reducible refine Below.drew ?_) | (with_reducible refine below_drewN ?_ _) | (with_reducible refine Below.setCell ?_ ?_ _))) <;> (first | omega | (simp; done) | (simp; omega)))) (hs1.below (by (repeat (first | with_reducible exact Below.refl _ _ | (with_reducible refine bel_next ?_ ?_ (by assumption)) | (with_reducible refine Below.alloc ?_ ?_ _) | (with_reducible refine Below.drew ?_) | (with_reducible refine below_drewN ?_ _) | (with_reducible refine Below.setCell ?_ ?_ _))) <;> (first | omega | (simp; done) | (simp; omega))))).mono ?_
  rintro e w1 ⟨rfl, n1, rfl⟩
  go_wp2_with fail
  refine (eqIntS_same ys _ _ _ _ _ hm2 (hr2.below (by (repeat (first | with_reducible exact Below.refl _ _ | (with_reducible refine bel_next ?_ ?_ (by assumption)) | (with_reducible refine Below.alloc ?_ ?_ _) | (with_reducible refine Below.drew ?_) | (with_reducible refine below_drewN ?_ _) | (with_reducible refine Below.setCell ?_ ?_ _))) <;> (first | omega | (simp; done) | (simp; omega)))) (hs2.below (by (repeat (first | with_reducible exact Below.refl _ _ | (with_reducible refine bel_next ?_ ?_ (by assumption)) | (with_reducible refine Below.alloc ?_ ?_ _) | (with_reducible refine Below.drew ?_) | (with_reducible refine below_drewN ?_ _) | (with_reducible refine Below.setCell ?_ ?_ _))) <;> (first | omega | (simp; done) | (simp; omega))))).mono ?_
  rintro e w1 ⟨rfl, n2, rfl⟩
  go_wp2_with fail
  go_ret
  exact ⟨rfl, (by (repeat (first | with_reducible exact Below.refl _ _ | (with_reducible refine bel_next ?_ ?_ (by assumption)) | (with_reducible refine Below.alloc ?_ ?_ _) | (with_reducible refine Below.drew ?_) | (with_reducible refine below_drewN ?_ _) | (with_reducible refine Below.setCell ?_ ?_ _))) <;> (first | omega | (simp; done) | (simp; omega)))⟩

set_option maxHeartbeats 1000000 in
theorem markFlow_any (n1 n2 : Nat) (cs1 cs2 : List Value) (lo lo2 l mid hi : Nat) (k0 : Int) (a1 a2 : Option Addr) (c1 c2 : Nat) (w : World) (hk0 : 0 ≤ k0) (hk1 : k0 ≤ 549755813888) (hm1 : n1 ≤ 1048576) (hm2 : n2 ≤ 1048576)
    (ho1 : Own w lo 3 1 a1 n1 c1 cs1) (ho2 : Own w lo2 3 1 a2 n2 c2 cs2) (hi1 : Ins a1 l mid) (hi2 : Ins a2 mid hi) (h1 : l ≤ mid) (h2 : mid ≤ hi) (h3 : hi ≤ w.heap.size) :
    Calls Try.prog 25 #[.agg #[.slice a1 n1 c1, .slice a2 n2 c2], .int .i64 k0] w fun e w' => e = .returned (.int .i64 (k0 + n1 + n2)) ∧ Own w' lo 3 1 a1 n1 c1 (I64 (seqI k0 n1)) ∧ Own w' lo2 3 1 a2 n2 c2 (I64 (seqI (k0 + n1) n2)) ∧ Below l w w' ∧ Rng l hi w w' := by
  go_enter Try.func25, Try.ntmps25
  go_wp2_with fail
  refine (markIntS_rng n1 _ _ l mid k0 _ _ _ hk0 (by omega) hm1 (ho1.alloc _) hi1 (by simp; omega)).mono ?_
  rintro e w1 ⟨rfl, ho3, hb1, hr1⟩
  have z1 := hb1.size
  simp at z1
  have ho4 : Own w1 lo2 3 1 a2 n2 c2 cs2 := (ho2.alloc _).keep fun a ha => (Kp.refl _ _).rng hr1 (.inr (hi2 a ha).1)
  have hkb : Kp w.heap.size (w.alloc (.cells #[.slice a1 n1 c1, .slice a2 n2 c2] 35)) w1 := hr1 _ (by omega)
  have k1 : w1.cell? ⟨w.heap.size, 1, none⟩ = some (.slice a2 n2 c2) := (World.cell?_of_block (w := w.alloc _) (a := ⟨w.heap.size, 1, none⟩) (hkb (by simp)).1).trans (by go_simp)
  go_wp2_with fail
  refine (markIntS_rng n2 _ _ mid hi (k0 + n1) _ _ _ (by omega) (by omega) hm2 ho4 hi2 (by omega)).mono ?_
  rintro e w2 ⟨rfl, ho5, hb2, hr2⟩
  have ho6 : Own w2 lo 3 1 a1 n1 c1 (I64 (seqI k0 n1)) := ho3.keep fun a ha => (Kp.refl _ _).rng hr2 (.inl (hi1 a ha).2)
  go_wp2_with fail
  go_ret
  exact ⟨rfl, ho6, ho5, (((Below.refl _ _).alloc (by omega) _).trans hb1).trans (hb2.mono h1), fun b hb => ((((Kp.refl b w).alloc _).rng hr1 (by omega)).rng hr2 (by omega))⟩
set_option maxHeartbeats 1000000 in
theorem heldFlow_any (n1 n2 : Nat) (k0 : Int) (a1 a2 : Option Addr) (c1 c2 : Nat) (w : World) (hk0 : 0 ≤ k0) (hk1 : k0 ≤ 549755813888) (hm1 : n1 ≤ 1048576) (hm2 : n2 ≤ 1048576)
    (hr1 : RdC w a1 (I64 (seqI k0 n1))) (hr2 : RdC w a2 (I64 (seqI (k0 + n1) n2))) :
    Calls Try.prog 26 #[.agg #[.slice a1 n1 c1, .slice a2 n2 c2], .int .i64 k0] w fun e w' => e = .returned (.int .i64 (k0 + n1 + n2)) ∧ Below w.heap.size w w' := by
  go_enter Try.func26, Try.ntmps26
  go_wp2_with fail
  refine (heldIntS_any n1 k0 _ _ _ hk0 (by omega) hm1 (hr1.below (by (repeat (first | with_reducible exact Below.refl _ _ | (with_reducible refine bel_next ?_ ?_ (by assumption)) | (with_reducible refine Below.alloc ?_ ?_ _) | (with_reducible refine Below.drew ?_) | (with_reducible refine below_drewN ?_ _) | (with_reducible refine Below.setCell ?_ ?_ _))) <;> (first | omega | (simp; done) | (simp; omega))))).mono ?_
  rintro e w1 ⟨rfl, rfl⟩
  go_wp2_with fail
  refine (heldIntS_any n2 (k0 + n1) _ _ _ (by omega) (by omega) hm2 (hr2.below (by (repeat (first | with_reducible exact Below.refl _ _ | (with_reducible refine bel_next ?_ ?_ (by assumption)) | (with_reducible refine Below.alloc ?_ ?_ _) | (with_reducible refine Below.drew ?_) | (with_reducible refine below_drewN ?_ _) | (with_reducible refine Below.setCell ?_ ?_ _))) <;> (first | omega | (simp; done) | (simp; omega))))).mono ?_
  rintro e w1 ⟨rfl, rfl⟩
  go_wp2_with fail
  go_ret
  exact ⟨rfl, (by (repeat (first | with_reducible exact Below.refl _ _ | (with_reducible refine bel_next ?_ ?_ (by assumption)) | (with_reducible refine Below.alloc ?_ ?_ _) | (with_reducible refine Below.drew ?_) | (with_reducible refine below_drewN ?_ _) | (with_reducible refine Below.setCell ?_ ?_ _))) <;> (first | omega | (simp; done) | (simp; omega)))⟩
set_option maxHeartbeats 1000000 in
theorem eqFlow_same (xs ys : List Int) (a1 a2 b1 b2 : Option Addr) (c1 c2 d1 d2 : Nat) (w : World) (hm1 : xs.length ≤ 1048576) (hm2 : ys.length ≤ 1048576) (hr1 : RdC w a1 (I64 xs)) (hr2 : RdC w a2 (I64 ys)) (hs1 : RdC w b1 (I64 xs)) (hs2 : RdC w b2 (I64 ys)) :
    Calls Try.prog 24 #[.agg #[.slice a1 xs.length c1, .slice a2 ys.length c2], .agg #[.slice b1 xs.length d1, .slice b2 ys.length d2]] w fun e w' => e = .returned (.bool true) ∧ Below w.heap.size w w' := by
  go_enter Try.func24, Try.ntmps24
  go_wp2_with fail
  refine (eqIntS_same xs _ _ _ _ _ hm1 (hr1.below (by (repeat (first | with_reducible exact Below.refl _ _ | (with_reducible refine bel_next ?_ ?_ (by assumption)) | (with_reducible refine Below.alloc ?_ ?_ _) | (with_reducible refine Below.drew ?_) | (with_reducible refine below_drewN ?_ _) | (with_reducible refine Below.setCell ?_ ?_ _))) <;> (first | omega | (simp; done) | (simp; omega)))) (hs1.below (by (repeat (first | with_reducible exact Below.refl _ _ | (with_reducible refine bel_next ?_ ?_ (by assumption)) | (with_reducible refine Below.alloc ?_ ?_ _) | (with_reducible refine Below.drew ?_) | (with_reducible refine below_drewN ?_ _) | (with_reducible refine Below.setCell ?_ ?_ _))) <;> (first | omega | (simp; done) | (simp; omega))))).mono ?_
  rintro e w1 ⟨rfl, n1, rfl⟩
  go_wp2_with fail
  refine (eqIntS_same ys _ _ _ _ _ hm2 (hr2.below (by (repeat (first | with_reducible exact Below.refl _ _ | (with_reducible refine bel_next ?_ ?_ (by assumption)) | (with_reducible refine Below.alloc ?_ ?_ _) | (with_reducible refine Below.drew ?_) | (with_reducible refine below_drewN ?_ _) | (with_reducible refine Below.setCell ?_ ?_ _))) <;> (first | omega | (simp; done) | (simp; omega)))) (hs2.below (by (repeat (first | with_reducible exact Below.refl _ _ | (with_reducible refine bel_next ?_ ?_ (by assumption)) | (with_reducible refine Below.alloc ?_ ?_ _) | (with_reducible refine Below.drew ?_) | (with_reducible refine below_drewN ?_ _) | (with_reducible refine Below.setCell ?_ ?_ _))) <;> (first | omega | (simp; done) | (simp; omega))))).mono ?_
  rintro e w1 ⟨rfl, n2, rfl⟩
  go_wp2_with fail
  go_ret
  exact ⟨rfl, (by (repeat (first | with_reducible exact Below.refl _ _ | (with_reducible refine bel_next ?_ ?_ (by assumption)) | (with_reducible refine Below.alloc ?_ ?_ _) | (with_reducible refine Below.drew ?_) | (with_reducible refine below_drewN ?_ _) | (with_reducible refine Below.setCell ?_ ?_ _))) <;> (first | omega | (simp; done) | (simp; omega)))⟩


def stateOk (regs outs : List Int) : Bool := ((regs.length : Int) == 8) && allB regs 0 15 && allB outs 0 15



end Go.Proofs.Ytjibbkigjcncdaa
