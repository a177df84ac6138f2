/- Contracts of the laws' helpers over states and flows, and of StateOk. -/
import Derived.Test.YtfeffofoofmgcaaList
import Derived.Deep.RegionHeld3
namespace Go.Proofs.Ytfeffofoofmgcaa
open Go.RowKit


set_option maxHeartbeats 1000000 in
theorem toState_any (xs ys : List Int) (a1 a2 : Option Addr) (c1 c2 : Nat) (w : World) (hm1 : xs.length ≤ 1048576) (hm2 : ys.length ≤ 1048576) (hr1 : RdC w a1 (I64 xs)) (hr2 : RdC w a2 (I64 ys)) :
    Calls Try.prog 55 #[.agg #[.slice a1 xs.length c1, .slice a2 ys.length c2]] w fun e w' => ∃ g1 g2, e = .returned (.agg #[.slice (some ⟨g1, 0, none⟩) xs.length xs.length, .slice (some ⟨g2, 0, none⟩) ys.length ys.length]) ∧
      Own w' w.heap.size 3 1 (some ⟨g1, 0, none⟩) xs.length xs.length (I64 xs) ∧ Own w' w.heap.size 3 1 (some ⟨g2, 0, none⟩) ys.length ys.length (I64 ys) ∧ g1 < g2 ∧ Below w.heap.size w w' := by
  go_enter Try.func55, Try.ntmps55
  go_wp2_with fail
  refine (toIntS_own xs _ _ _ hm1 (hr1.below (by (repeat (first | with_reducible exact Below.refl _ _ | (with_reducible refine bel_next ?_ ?_ (by assumption)) | (with_reducible refine Below.alloc ?_ ?_ _) | (with_reducible refine Below.drew ?_) | (with_reducible refine below_drewN ?_ _) | (with_reducible refine Below.setCell ?_ ?_ _))) <;> (first | omega | (simp; done) | (simp; omega))))).mono ?_
  rintro e w1 ⟨g1, rfl, ho1, l1, l2, hb1⟩
  simp at l1
  have z1 := hb1.size; (try simp at z1); have y1_0 : w.heap.size < w1.heap.size := (by omega); have y1_1 : w.heap.size + 1 < w1.heap.size := (by omega); have y1_2 : w.heap.size + 1 + 1 < w1.heap.size := (by omega); have k1_0 := bel_keeps hb1 (b := w.heap.size) (o := 1) (v := .slice a2 ys.length c2) (by go_simp); have k1_1 := bel_keeps hb1 (b := w.heap.size + 1) (o := 0) (v := .slice none 0 0) (by go_simp); have k1_2 := bel_keeps hb1 (b := w.heap.size + 1) (o := 1) (v := .slice none 0 0) (by go_simp); have k1_3 := bel_keeps hb1 (b := w.heap.size + 1 + 1) (o := 0) (v := .slice none 0 0) (by go_simp); have k1_4 := bel_keeps hb1 (b := w.heap.size + 1 + 1) (o := 1) (v := .slice none 0 0) (by go_simp); have f1_0 := bel_free hb1 (b := w.heap.size + 1) (o := 0) (by first | omega | (simp; done) | (simp; omega)) (by go_simp); have f1_1 := bel_free hb1 (b := w.heap.size + 1) (o := 1) (by first | omega | (simp; done) | (simp; omega)) (by go_simp); have f1_2 := bel_free hb1 (b := w.heap.size + 1 + 1) (o := 0) (by first | omega | (simp; done) | (simp; omega)) (by go_simp); have f1_3 := bel_free hb1 (b := w.heap.size + 1 + 1) (o := 1) (by first | omega | (simp; done) | (simp; omega)) (by go_simp)
  go_wp2_with fail
  refine (toIntS_own ys _ _ _ hm2 (hr2.below (by (repeat (first | with_reducible exact Below.refl _ _ | (with_reducible refine bel_next ?_ ?_ (by assumption)) | (with_reducible refine Below.alloc ?_ ?_ _) | (with_reducible refine Below.drew ?_) | (with_reducible refine below_drewN ?_ _) | (with_reducible refine Below.setCell ?_ ?_ _))) <;> (first | omega | (simp; done) | (simp; omega))))).mono ?_
  rintro e w2 ⟨g2, rfl, ho2, l3, l4, hb2⟩
  simp at l3
  have z2 := hb2.size; (try simp at z2); have y2_0 : w.heap.size + 1 < w2.heap.size := (by omega); have y2_1 : w.heap.size + 1 + 1 < w2.heap.size := (by omega); have k2_0 := bel_keeps hb2 (b := w.heap.size + 1) (o := 0) (v := .slice none 0 0) (by go_simp); have k2_1 := bel_keeps hb2 (b := w.heap.size + 1) (o := 1) (v := .slice none 0 0) (by go_simp); have k2_2 := bel_keeps hb2 (b := w.heap.size + 1 + 1) (o := 0) (v := .slice (some ⟨g1, 0, none⟩) xs.length xs.length) (by go_simp); have k2_3 := bel_keeps hb2 (b := w.heap.size + 1 + 1) (o := 1) (v := .slice none 0 0) (by go_simp); have f2_0 := bel_free hb2 (b := w.heap.size + 1) (o := 0) (by first | omega | (simp; done) | (simp; omega)) (by go_simp); have f2_1 := bel_free hb2 (b := w.heap.size + 1) (o := 1) (by first | omega | (simp; done) | (simp; omega)) (by go_simp); have f2_2 := bel_free hb2 (b := w.heap.size + 1 + 1) (o := 0) (by first | omega | (simp; done) | (simp; omega)) (by go_simp); have f2_3 := bel_free hb2 (b := w.heap.size + 1 + 1) (o := 1) (by first | omega | (simp; done) | (simp; omega)) (by go_simp)
  go_wp2_with fail
  refine bodyPost_ret (v := .agg #[.slice (some ⟨g1, 0, none⟩) xs.length xs.length, .slice (some ⟨g2, 0, none⟩) ys.length ys.length]) (by simp [results, Try.results55, go_sem, k2_0, k2_1]) rfl ⟨g1, g2, rfl, ?_, ?_, by omega, ?_⟩
  · refine (ho1.lo (by simp; omega)).later ?_
    exact (by (repeat (first | with_reducible exact Kp.refl _ _ | (with_reducible refine Kp.below ?_ (by assumption)) | (with_reducible refine Kp.rng ?_ (by assumption) ?_) | (with_reducible refine Kp.alloc ?_ _) | (with_reducible refine Kp.drew ?_) | (with_reducible refine Kp.drewN ?_ _) | (with_reducible refine Kp.setCell ?_ _ ?_))) <;> (first | omega | (simp; done) | (simp; omega)))
  · refine (ho2.lo (by simp; omega)).later ?_
    exact (by (repeat (first | with_reducible exact Kp.refl _ _ | (with_reducible refine Kp.below ?_ (by assumption)) | (with_reducible refine Kp.rng ?_ (by assumption) ?_) | (with_reducible refine Kp.alloc ?_ _) | (with_reducible refine Kp.drew ?_) | (with_reducible refine Kp.drewN ?_ _) | (with_reducible refine Kp.setCell ?_ _ ?_))) <;> (first | omega | (simp; done) | (simp; omega)))
  · exact (by (repeat (first | with_reducible exact Below.refl _ _ | (with_reducible refine bel_next ?_ ?_ (by assumption)) | (with_reducible refine Below.alloc ?_ ?_ _) | (with_reducible refine Below.drew ?_) | (with_reducible refine below_drewN ?_ _) | (with_reducible refine Below.setCell ?_ ?_ _))) <;> (first | omega | (simp; done) | (simp; omega)))

set_option maxHeartbeats 1000000 in
theorem toFlow_any (xs ys : List Int) (a1 a2 : Option Addr) (c1 c2 : Nat) (w : World) (hm1 : xs.length ≤ 1048576) (hm2 : ys.length ≤ 1048576) (hr1 : RdC w a1 (I64 xs)) (hr2 : RdC w a2 (I64 ys)) :
    Calls Try.prog 32 #[.agg #[.slice a1 xs.length c1, .slice a2 ys.length c2]] w fun e w' => ∃ g1 g2, e = .returned (.agg #[.slice (some ⟨g1, 0, none⟩) xs.length xs.length, .slice (some ⟨g2, 0, none⟩) ys.length ys.length]) ∧
      Own w' w.heap.size 3 1 (some ⟨g1, 0, none⟩) xs.length xs.length (I64 xs) ∧ Own w' w.heap.size 3 1 (some ⟨g2, 0, none⟩) ys.length ys.length (I64 ys) ∧ g1 < g2 ∧ Below w.heap.size w w' := by
  go_enter Try.func32, Try.ntmps32
  go_wp2_with fail
  refine (toIntS_own xs _ _ _ hm1 (hr1.below (by (repeat (first | with_reducible exact Below.refl _ _ | (with_reducible refine bel_next ?_ ?_ (by assumption)) | (with_reducible refine Below.alloc ?_ ?_ _) | (with_reducible refine Below.drew ?_) | (with_reducible refine below_drewN ?_ _) | (with_reducible refine Below.setCell ?_ ?_ _))) <;> (first | omega | (simp; done) | (simp; omega))))).mono ?_
  rintro e w1 ⟨g1, rfl, ho1, l1, l2, hb1⟩
  simp at l1
  have z1 := hb1.size; (try simp at z1); have y1_0 : w.heap.size < w1.heap.size := (by omega); have y1_1 : w.heap.size + 1 < w1.heap.size := (by omega); have y1_2 : w.heap.size + 1 + 1 < w1.heap.size := (by omega); have k1_0 := bel_keeps hb1 (b := w.heap.size) (o := 1) (v := .slice a2 ys.length c2) (by go_simp); have k1_1 := bel_keeps hb1 (b := w.heap.size + 1) (o := 0) (v := .slice none 0 0) (by go_simp); have k1_2 := bel_keeps hb1 (b := w.heap.size + 1) (o := 1) (v := .slice none 0 0) (by go_simp); have k1_3 := bel_keeps hb1 (b := w.heap.size + 1 + 1) (o := 0) (v := .slice none 0 0) (by go_simp); have k1_4 := bel_keeps hb1 (b := w.heap.size + 1 + 1) (o := 1) (v := .slice none 0 0) (by go_simp); have f1_0 := bel_free hb1 (b := w.heap.size + 1) (o := 0) (by first | omega | (simp; done) | (simp; omega)) (by go_simp); have f1_1 := bel_free hb1 (b := w.heap.size + 1) (o := 1) (by first | omega | (simp; done) | (simp; omega)) (by go_simp); have f1_2 := bel_free hb1 (b := w.heap.size + 1 + 1) (o := 0) (by first | omega | (simp; done) | (simp; omega)) (by go_simp); have f1_3 := bel_free hb1 (b := w.heap.size + 1 + 1) (o := 1) (by first | omega | (simp; done) | (simp; omega)) (by go_simp)
  go_wp2_with fail
  refine (toIntS_own ys _ _ _ hm2 (hr2.below (by (repeat (first | with_reducible exact Below.refl _ _ | (with_reducible refine bel_next ?_ ?_ (by assumption)) | (with_reducible refine Below.alloc ?_ ?_ _) | (with_reducible refine Below.drew ?_) | (with_reducible refine below_drewN ?_ _) | (with_reducible refine Below.setCell ?_ ?_ _))) <;> (first | omega | (simp; done) | (simp; omega))))).mono ?_
  rintro e w2 ⟨g2, rfl, ho2, l3, l4, hb2⟩
  simp at l3
  have z2 := hb2.size; (try simp at z2); have y2_0 : w.heap.size + 1 < w2.heap.size := (by omega); have y2_1 : w.heap.size + 1 + 1 < w2.heap.size := (by omega); have k2_0 := bel_keeps hb2 (b := w.heap.size + 1) (o := 0) (v := .slice none 0 0) (by go_simp); have k2_1 := bel_keeps hb2 (b := w.heap.size + 1) (o := 1) (v := .slice none 0 0) (by go_simp); have k2_2 := bel_keeps hb2 (b := w.heap.size + 1 + 1) (o := 0) (v := .slice (some ⟨g1, 0, none⟩) xs.length xs.length) (by go_simp); have k2_3 := bel_keeps hb2 (b := w.heap.size + 1 + 1) (o := 1) (v := .slice none 0 0) (by go_simp); have f2_0 := bel_free hb2 (b := w.heap.size + 1) (o := 0) (by first | omega | (simp; done) | (simp; omega)) (by go_simp); have f2_1 := bel_free hb2 (b := w.heap.size + 1) (o := 1) (by first | omega | (simp; done) | (simp; omega)) (by go_simp); have f2_2 := bel_free hb2 (b := w.heap.size + 1 + 1) (o := 0) (by first | omega | (simp; done) | (simp; omega)) (by go_simp); have f2_3 := bel_free hb2 (b := w.heap.size + 1 + 1) (o := 1) (by first | omega | (simp; done) | (simp; omega)) (by go_simp)
  go_wp2_with fail
  refine bodyPost_ret (v := .agg #[.slice (some ⟨g1, 0, none⟩) xs.length xs.length, .slice (some ⟨g2, 0, none⟩) ys.length ys.length]) (by simp [results, Try.results32, go_sem, k2_0, k2_1]) rfl ⟨g1, g2, rfl, ?_, ?_, by omega, ?_⟩
  · refine (ho1.lo (by simp; omega)).later ?_
    exact (by (repeat (first | with_reducible exact Kp.refl _ _ | (with_reducible refine Kp.below ?_ (by assumption)) | (with_reducible refine Kp.rng ?_ (by assumption) ?_) | (with_reducible refine Kp.alloc ?_ _) | (with_reducible refine Kp.drew ?_) | (with_reducible refine Kp.drewN ?_ _) | (with_reducible refine Kp.setCell ?_ _ ?_))) <;> (first | omega | (simp; done) | (simp; omega)))
  · refine (ho2.lo (by simp; omega)).later ?_
    exact (by (repeat (first | with_reducible exact Kp.refl _ _ | (with_reducible refine Kp.below ?_ (by assumption)) | (with_reducible refine Kp.rng ?_ (by assumption) ?_) | (with_reducible refine Kp.alloc ?_ _) | (with_reducible refine Kp.drew ?_) | (with_reducible refine Kp.drewN ?_ _) | (with_reducible refine Kp.setCell ?_ _ ?_))) <;> (first | omega | (simp; done) | (simp; omega)))
  · exact (by (repeat (first | with_reducible exact Below.refl _ _ | (with_reducible refine bel_next ?_ ?_ (by assumption)) | (with_reducible refine Below.alloc ?_ ?_ _) | (with_reducible refine Below.drew ?_) | (with_reducible refine below_drewN ?_ _) | (with_reducible refine Below.setCell ?_ ?_ _))) <;> (first | omega | (simp; done) | (simp; omega)))

set_option maxHeartbeats 1000000 in
theorem markState_any (n1 n2 : Nat) (cs1 cs2 : List Value) (lo lo2 l mid hi : Nat) (k0 : Int) (a1 a2 : Option Addr) (c1 c2 : Nat) (w : World) (hk0 : 0 ≤ k0) (hk1 : k0 ≤ 549755813888) (hm1 : n1 ≤ 1048576) (hm2 : n2 ≤ 1048576)
    (ho1 : Own w lo 3 1 a1 n1 c1 cs1) (ho2 : Own w lo2 3 1 a2 n2 c2 cs2) (hi1 : Ins a1 l mid) (hi2 : Ins a2 mid hi) (h1 : l ≤ mid) (h2 : mid ≤ hi) (h3 : hi ≤ w.heap.size) :
    Calls Try.prog 60 #[.agg #[.slice a1 n1 c1, .slice a2 n2 c2], .int .i64 k0] w fun e w' => e = .returned (.int .i64 (k0 + n1 + n2)) ∧ Own w' lo 3 1 a1 n1 c1 (I64 (seqI k0 n1)) ∧ Own w' lo2 3 1 a2 n2 c2 (I64 (seqI (k0 + n1) n2)) ∧ Below l w w' ∧ Rng l hi w w' := by
  go_enter Try.func60, Try.ntmps60
  go_wp2_with fail
  refine (markIntS_rng n1 _ _ l mid k0 _ _ _ hk0 (by omega) hm1 (ho1.alloc _) hi1 (by simp; omega)).mono ?_
  rintro e w1 ⟨rfl, ho3, hb1, hr1⟩
  have z1 := hb1.size
  simp at z1
  have ho4 : Own w1 lo2 3 1 a2 n2 c2 cs2 := (ho2.alloc _).keep fun a ha => (Kp.refl _ _).rng hr1 (.inr (hi2 a ha).1)
  have hkb : Kp w.heap.size (w.alloc (.cells #[.slice a1 n1 c1, .slice a2 n2 c2] 57)) w1 := hr1 _ (by omega)
  have k1 : w1.cell? ⟨w.heap.size, 1, none⟩ = some (.slice a2 n2 c2) := (World.cell?_of_block (w := w.alloc _) (a := ⟨w.heap.size, 1, none⟩) (hkb (by simp)).1).trans (by go_simp)
  go_wp2_with fail
  refine (markIntS_rng n2 _ _ mid hi (k0 + n1) _ _ _ (by omega) (by omega) hm2 ho4 hi2 (by omega)).mono ?_
  rintro e w2 ⟨rfl, ho5, hb2, hr2⟩
  have ho6 : Own w2 lo 3 1 a1 n1 c1 (I64 (seqI k0 n1)) := ho3.keep fun a ha => (Kp.refl _ _).rng hr2 (.inl (hi1 a ha).2)
  go_wp2_with fail
  go_ret
  exact ⟨rfl, ho6, ho5, (((Below.refl _ _).alloc (by omega) _).trans hb1).trans (hb2.mono h1), fun b hb => ((((Kp.refl b w).alloc _).rng hr1 (by omega)).rng hr2 (by omega))⟩
set_option maxHeartbeats 1000000 in
theorem heldState_any (n1 n2 : Nat) (k0 : Int) (a1 a2 : Option Addr) (c1 c2 : Nat) (w : World) (hk0 : 0 ≤ k0) (hk1 : k0 ≤ 549755813888) (hm1 : n1 ≤ 1048576) (hm2 : n2 ≤ 1048576)
    (hr1 : RdC w a1 (I64 (seqI k0 n1))) (hr2 : RdC w a2 (I64 (seqI (k0 + n1) n2))) :
    Calls Try.prog 62 #[.agg #[.slice a1 n1 c1, .slice a2 n2 c2], .int .i64 k0] w fun e w' => e = .returned (.int .i64 (k0 + n1 + n2)) ∧ Below w.heap.size w w' := by
  go_enter Try.func62, Try.ntmps62
  go_wp2_with fail
  refine (heldIntS_any n1 k0 _ _ _ hk0 (by omega) hm1 (hr1.below (by (repeat (first | with_reducible exact Below.refl _ _ | (with_reducible refine bel_next ?_ ?_ (by assumption)) | (with_reducible refine Below.alloc ?_ ?_ _) | (with_reducible refine Below.drew ?_) | (with_reducible refine below_drewN ?_ _) | (with_reducible refine Below.setCell ?_ ?_ _))) <;> (first | omega | (simp; done) | (simp; omega))))).mono ?_
  rintro e w1 ⟨rfl, rfl⟩
  go_wp2_with fail
  refine (heldIntS_any n2 (k0 + n1) _ _ _ (by omega) (by omega) hm2 (hr2.below (by (repeat (first | with_reducible exact Below.refl _ _ | (with_reducible refine bel_next ?_ ?_ (by assumption)) | (with_reducible refine Below.alloc ?_ ?_ _) | (with_reducible refine Below.drew ?_) | (with_reducible refine below_drewN ?_ _) | (with_reducible refine Below.setCell ?_ ?_ _))) <;> (first | omega | (simp; done) | (simp; omega))))).mono ?_
  rintro e w1 ⟨rfl, rfl⟩
  go_wp2_with fail
  go_ret
  exact ⟨rfl, (by (repeat (first | with_reducible exact Below.refl _ _ | (with_reducible refine bel_next ?_ ?_ (by assumption)) | (with_reducible refine Below.alloc ?_ ?_ _) | (with_reducible refine Below.drew ?_) | (with_reducible refine below_drewN ?_ _) | (with_reducible refine Below.setCell ?_ ?_ _))) <;> (first | omega | (simp; done) | (simp; omega)))⟩
set_option maxHeartbeats 1000000 in
theorem eqState_same (xs ys : List Int) (a1 a2 b1 b2 : Option Addr) (c1 c2 d1 d2 : Nat) (w : World) (hm1 : xs.length ≤ 1048576) (hm2 : ys.length ≤ 1048576) (hr1 : RdC w a1 (I64 xs)) (hr2 : RdC w a2 (I64 ys)) (hs1 : RdC w b1 (I64 xs)) (hs2 : RdC w b2 (I64 ys)) :
    Calls Try.prog 58 #[.agg #[.slice a1 xs.length c1, .slice a2 ys.length c2], .agg #[.slice b1 xs.length d1, .slice b2 ys.length d2]] w fun e w' => e = .returned (.bool true) ∧ Below w.heap.size w w' := by
  go_enter Try.func58, Try.ntmps58
  go_wp2_with fail
  refine (eqIntS_same xs _ _ _ _ _ hm1 (hr1.below (by (repeat (first | with_reducible exact Below.refl _ _ | (with_reducible refine bel_next ?_ ?_ (by assumption)) | (with_reducible refine Below.alloc ?_ ?_ _) | (with_reducible refine Below.drew ?_) | (with_reducible refine below_drewN ?_ _) | (with_reducible refine Below.setCell ?_ ?_ _))) <;> (first | omega | (simp; done) | (simp; omega)))) (hs1.below (by (repeat (first | with_reducible exact Below.refl _ _ | (with_reducible refine bel_next ?_ ?_ (by assumption)) | (with_reducible refine Below.alloc ?_ ?_ _) | (with_reducible refine Below.drew ?_) | (with_reducible refine below_drewN ?_ _) | (with_reducible refine Below.setCell ?_ ?_ _))) <;> (first | omega | (simp; done) | (simp; omega))))).mono ?_
  rintro e w1 ⟨rfl, n1, rfl⟩
  go_wp2_with fail
  refine (eqIntS_same ys _ _ _ _ _ hm2 (hr2.below (by (repeat (first | with_reducible exact Below.refl _ _ | (with_reducible refine bel_next ?_ ?_ (by assumption)) | (with_reducible refine Below.alloc ?_ ?_ _) | (with_reducible refine Below.drew ?_) | (with_reducible refine below_drewN ?_ _) | (with_reducible refine Below.setCell ?_ ?_ _))) <;> (first | omega | (simp; done) | (simp; omega)))) (hs2.below (by (repeat (first | with_reducible exact Below.refl _ _ | (with_reducible refine bel_next ?_ ?_ (by assumption)) | (with_reducible refine Below.alloc ?_ ?_ _) | (with_reducible refine Below.drew ?_) | (with_reducible refine below_drewN ?_ _) | (with_reducible refine Below.setCell ?_ ?_ _))) <;> (first | omega | (simp; done) | (simp; omega))))).mono ?_
  rintro e w1 ⟨rfl, n2, rfl⟩
  go_wp2_with fail
  go_ret
  exact ⟨rfl, (by (repeat (first | with_reducible exact Below.refl _ _ | (with_reducible refine bel_next ?_ ?_ (by assumption)) | (with_reducible refine Below.alloc ?_ ?_ _) | (with_reducible refine Below.drew ?_) | (with_reducible refine below_drewN ?_ _) | (with_reducible refine Below.setCell ?_ ?_ _))) <;> (first | omega | (simp; done) | (simp; omega)))⟩
set_option maxHeartbeats 1000000 in
theorem szState_any (n1 n2 : Nat) (a1 a2 : Option Addr) (c1 c2 : Nat) (w : World) (hm1 : n1 ≤ maxLen) (hm2 : n2 ≤ maxLen) (l : Int) (h0 : 0 ≤ l) (h1 : l ≤ 1048576) :
    Calls Try.prog 52 #[.agg #[.slice a1 n1 c1, .slice a2 n2 c2], .int .i64 l] w fun e w' => e = .returned (.int .i64 (if (n1 : Int) + n2 ≤ l then l - n1 - n2 else -1)) ∧ Below w.heap.size w w' := by
  by_cases q1 : (n1 : Int) ≤ l
  · by_cases q2 : (n1 : Int) + n2 ≤ l
    · rw [if_pos q2]
      have e1 : (if (n1 : Int) ≤ l then l - (n1 : Int) else -1) = l - n1 := if_pos q1
      have e2 : (if (n2 : Int) ≤ l - n1 then l - (n1 : Int) - n2 else -1) = l - n1 - n2 := if_pos (by omega)
      have E1 := Lib.hid e1
      have E2 := Lib.hid e2
      clear e1 e2
      go_enter Try.func52, Try.ntmps52
      go_wp2_with fail
      refine (szIntS_any n1 _ _ l _ hm1 h0 h1).mono ?_
      rintro e w1 ⟨rfl, rfl⟩
      rw [E1.out]
      go_wp2_with fail
      refine (szIntS_any n2 _ _ (l - n1) _ hm2 (by omega) (by omega)).mono ?_
      rintro e w1 ⟨rfl, rfl⟩
      rw [E2.out]
      go_wp2_with fail
      go_ret
      exact ⟨rfl, (by (repeat (first | with_reducible exact Below.refl _ _ | (with_reducible refine bel_next ?_ ?_ (by assumption)) | (with_reducible refine Below.alloc ?_ ?_ _) | (with_reducible refine Below.drew ?_) | (with_reducible refine below_drewN ?_ _) | (with_reducible refine Below.setCell ?_ ?_ _))) <;> (first | omega | (simp; done) | (simp; omega)))⟩
    · rw [if_neg q2]
      have e1 : (if (n1 : Int) ≤ l then l - (n1 : Int) else -1) = l - n1 := if_pos q1
      have e2 : (if (n2 : Int) ≤ l - n1 then l - (n1 : Int) - n2 else -1) = -1 := if_neg (by omega)
      have E1 := Lib.hid e1
      have E2 := Lib.hid e2
      clear e1 e2
      go_enter Try.func52, Try.ntmps52
      go_wp2_with fail
      refine (szIntS_any n1 _ _ l _ hm1 h0 h1).mono ?_
      rintro e w1 ⟨rfl, rfl⟩
      rw [E1.out]
      go_wp2_with fail
      refine (szIntS_any n2 _ _ (l - n1) _ hm2 (by omega) (by omega)).mono ?_
      rintro e w1 ⟨rfl, rfl⟩
      rw [E2.out]
      go_wp2_with fail
      go_ret
      exact ⟨rfl, (by (repeat (first | with_reducible exact Below.refl _ _ | (with_reducible refine bel_next ?_ ?_ (by assumption)) | (with_reducible refine Below.alloc ?_ ?_ _) | (with_reducible refine Below.drew ?_) | (with_reducible refine below_drewN ?_ _) | (with_reducible refine Below.setCell ?_ ?_ _))) <;> (first | omega | (simp; done) | (simp; omega)))⟩
  · rw [if_neg (by omega)]
    have e1 : (if (n1 : Int) ≤ l then l - (n1 : Int) else -1) = -1 := if_neg q1
    have E1 := Lib.hid e1
    clear e1
    go_enter Try.func52, Try.ntmps52
    go_wp2_with fail
    refine (szIntS_any n1 _ _ l _ hm1 h0 h1).mono ?_
    rintro e w1 ⟨rfl, rfl⟩
    rw [E1.out]
    go_wp2_with fail
    go_ret
    exact ⟨rfl, (by (repeat (first | with_reducible exact Below.refl _ _ | (with_reducible refine bel_next ?_ ?_ (by assumption)) | (with_reducible refine Below.alloc ?_ ?_ _) | (with_reducible refine Below.drew ?_) | (with_reducible refine below_drewN ?_ _) | (with_reducible refine Below.setCell ?_ ?_ _))) <;> (first | omega | (simp; done) | (simp; omega)))⟩

set_option maxHeartbeats 1000000 in
theorem markFlow_any (n1 n2 : Nat) (cs1 cs2 : List Value) (lo lo2 l mid hi : Nat) (k0 : Int) (a1 a2 : Option Addr) (c1 c2 : Nat) (w : World) (hk0 : 0 ≤ k0) (hk1 : k0 ≤ 549755813888) (hm1 : n1 ≤ 1048576) (hm2 : n2 ≤ 1048576)
    (ho1 : Own w lo 3 1 a1 n1 c1 cs1) (ho2 : Own w lo2 3 1 a2 n2 c2 cs2) (hi1 : Ins a1 l mid) (hi2 : Ins a2 mid hi) (h1 : l ≤ mid) (h2 : mid ≤ hi) (h3 : hi ≤ w.heap.size) :
    Calls Try.prog 36 #[.agg #[.slice a1 n1 c1, .slice a2 n2 c2], .int .i64 k0] w fun e w' => e = .returned (.int .i64 (k0 + n1 + n2)) ∧ Own w' lo 3 1 a1 n1 c1 (I64 (seqI k0 n1)) ∧ Own w' lo2 3 1 a2 n2 c2 (I64 (seqI (k0 + n1) n2)) ∧ Below l w w' ∧ Rng l hi w w' := by
  go_enter Try.func36, Try.ntmps36
  go_wp2_with fail
  refine (markIntS_rng n1 _ _ l mid k0 _ _ _ hk0 (by omega) hm1 (ho1.alloc _) hi1 (by simp; omega)).mono ?_
  rintro e w1 ⟨rfl, ho3, hb1, hr1⟩
  have z1 := hb1.size
  simp at z1
  have ho4 : Own w1 lo2 3 1 a2 n2 c2 cs2 := (ho2.alloc _).keep fun a ha => (Kp.refl _ _).rng hr1 (.inr (hi2 a ha).1)
  have hkb : Kp w.heap.size (w.alloc (.cells #[.slice a1 n1 c1, .slice a2 n2 c2] 35)) w1 := hr1 _ (by omega)
  have k1 : w1.cell? ⟨w.heap.size, 1, none⟩ = some (.slice a2 n2 c2) := (World.cell?_of_block (w := w.alloc _) (a := ⟨w.heap.size, 1, none⟩) (hkb (by simp)).1).trans (by go_simp)
  go_wp2_with fail
  refine (markIntS_rng n2 _ _ mid hi (k0 + n1) _ _ _ (by omega) (by omega) hm2 ho4 hi2 (by omega)).mono ?_
  rintro e w2 ⟨rfl, ho5, hb2, hr2⟩
  have ho6 : Own w2 lo 3 1 a1 n1 c1 (I64 (seqI k0 n1)) := ho3.keep fun a ha => (Kp.refl _ _).rng hr2 (.inl (hi1 a ha).2)
  go_wp2_with fail
  go_ret
  exact ⟨rfl, ho6, ho5, (((Below.refl _ _).alloc (by omega) _).trans hb1).trans (hb2.mono h1), fun b hb => ((((Kp.refl b w).alloc _).rng hr1 (by omega)).rng hr2 (by omega))⟩
set_option maxHeartbeats 1000000 in
theorem heldFlow_any (n1 n2 : Nat) (k0 : Int) (a1 a2 : Option Addr) (c1 c2 : Nat) (w : World) (hk0 : 0 ≤ k0) (hk1 : k0 ≤ 549755813888) (hm1 : n1 ≤ 1048576) (hm2 : n2 ≤ 1048576)
    (hr1 : RdC w a1 (I64 (seqI k0 n1))) (hr2 : RdC w a2 (I64 (seqI (k0 + n1) n2))) :
    Calls Try.prog 37 #[.agg #[.slice a1 n1 c1, .slice a2 n2 c2], .int .i64 k0] w fun e w' => e = .returned (.int .i64 (k0 + n1 + n2)) ∧ Below w.heap.size w w' := by
  go_enter Try.func37, Try.ntmps37
  go_wp2_with fail
  refine (heldIntS_any n1 k0 _ _ _ hk0 (by omega) hm1 (hr1.below (by (repeat (first | with_reducible exact Below.refl _ _ | (with_reducible refine bel_next ?_ ?_ (by assumption)) | (with_reducible refine Below.alloc ?_ ?_ _) | (with_reducible refine Below.drew ?_) | (with_reducible refine below_drewN ?_ _) | (with_reducible refine Below.setCell ?_ ?_ _))) <;> (first | omega | (simp; done) | (simp; omega))))).mono ?_
  rintro e w1 ⟨rfl, rfl⟩
  go_wp2_with fail
  refine (heldIntS_any n2 (k0 + n1) _ _ _ (by omega) (by omega) hm2 (hr2.below (by (repeat (first | with_reducible exact Below.refl _ _ | (with_reducible refine bel_next ?_ ?_ (by assumption)) | (with_reducible refine Below.alloc ?_ ?_ _) | (with_reducible refine Below.drew ?_) | (with_reducible refine below_drewN ?_ _) | (with_reducible refine Below.setCell ?_ ?_ _))) <;> (first | omega | (simp; done) | (simp; omega))))).mono ?_
  rintro e w1 ⟨rfl, rfl⟩
  go_wp2_with fail
  go_ret
  exact ⟨rfl, (by (repeat (first | with_reducible exact Below.refl _ _ | (with_reducible refine bel_next ?_ ?_ (by assumption)) | (with_reducible refine Below.alloc ?_ ?_ _) | (with_reducible refine Below.drew ?_) | (with_reducible refine below_drewN ?_ _) | (with_reducible refine Below.setCell ?_ ?_ _))) <;> (first | omega | (simp; done) | (simp; omega)))⟩
set_option maxHeartbeats 1000000 in
theorem eqFlow_same (xs ys : List Int) (a1 a2 b1 b2 : Option Addr) (c1 c2 d1 d2 : Nat) (w : World) (hm1 : xs.length ≤ 1048576) (hm2 : ys.length ≤ 1048576) (hr1 : RdC w a1 (I64 xs)) (hr2 : RdC w a2 (I64 ys)) (hs1 : RdC w b1 (I64 xs)) (hs2 : RdC w b2 (I64 ys)) :
    Calls Try.prog 35 #[.agg #[.slice a1 xs.length c1, .slice a2 ys.length c2], .agg #[.slice b1 xs.length d1, .slice b2 ys.length d2]] w fun e w' => e = .returned (.bool true) ∧ Below w.heap.size w w' := by
  go_enter Try.func35, Try.ntmps35
  go_wp2_with fail
  refine (eqIntS_same xs _ _ _ _ _ hm1 (hr1.below (by (repeat (first | with_reducible exact Below.refl _ _ | (with_reducible refine bel_next ?_ ?_ (by assumption)) | (with_reducible refine Below.alloc ?_ ?_ _) | (with_reducible refine Below.drew ?_) | (with_reducible refine below_drewN ?_ _) | (with_reducible refine Below.setCell ?_ ?_ _))) <;> (first | omega | (simp; done) | (simp; omega)))) (hs1.below (by (repeat (first | with_reducible exact Below.refl _ _ | (with_reducible refine bel_next ?_ ?_ (by assumption)) | (with_reducible refine Below.alloc ?_ ?_ _) | (with_reducible refine Below.drew ?_) | (with_reducible refine below_drewN ?_ _) | (with_reducible refine Below.setCell ?_ ?_ _))) <;> (first | omega | (simp; done) | (simp; omega))))).mono ?_
  rintro e w1 ⟨rfl, n1, rfl⟩
  go_wp2_with fail
  refine (eqIntS_same ys _ _ _ _ _ hm2 (hr2.below (by (repeat (first | with_reducible exact Below.refl _ _ | (with_reducible refine bel_next ?_ ?_ (by assumption)) | (with_reducible refine Below.alloc ?_ ?_ _) | (with_reducible refine Below.drew ?_) | (with_reducible refine below_drewN ?_ _) | (with_reducible refine Below.setCell ?_ ?_ _))) <;> (first | omega | (simp; done) | (simp; omega)))) (hs2.below (by (repeat (first | with_reducible exact Below.refl _ _ | (with_reducible refine bel_next ?_ ?_ (by assumption)) | (with_reducible refine Below.alloc ?_ ?_ _) | (with_reducible refine Below.drew ?_) | (with_reducible refine below_drewN ?_ _) | (with_reducible refine Below.setCell ?_ ?_ _))) <;> (first | omega | (simp; done) | (simp; omega))))).mono ?_
  rintro e w1 ⟨rfl, n2, rfl⟩
  go_wp2_with fail
  go_ret
  exact ⟨rfl, (by (repeat (first | with_reducible exact Below.refl _ _ | (with_reducible refine bel_next ?_ ?_ (by assumption)) | (with_reducible refine Below.alloc ?_ ?_ _) | (with_reducible refine Below.drew ?_) | (with_reducible refine below_drewN ?_ _) | (with_reducible refine Below.setCell ?_ ?_ _))) <;> (first | omega | (simp; done) | (simp; omega)))⟩
set_option maxHeartbeats 1000000 in
theorem szFlow_any (n1 n2 : Nat) (a1 a2 : Option Addr) (c1 c2 : Nat) (w : World) (hm1 : n1 ≤ maxLen) (hm2 : n2 ≤ maxLen) (l : Int) (h0 : 0 ≤ l) (h1 : l ≤ 1048576) :
    Calls Try.prog 30 #[.agg #[.slice a1 n1 c1, .slice a2 n2 c2], .int .i64 l] w fun e w' => e = .returned (.int .i64 (if (n1 : Int) + n2 ≤ l then l - n1 - n2 else -1)) ∧ Below w.heap.size w w' := by
  by_cases q1 : (n1 : Int) ≤ l
  · by_cases q2 : (n1 : Int) + n2 ≤ l
    · rw [if_pos q2]
      have e1 : (if (n1 : Int) ≤ l then l - (n1 : Int) else -1) = l - n1 := if_pos q1
      have e2 : (if (n2 : Int) ≤ l - n1 then l - (n1 : Int) - n2 else -1) = l - n1 - n2 := if_pos (by omega)
      have E1 := Lib.hid e1
      have E2 := Lib.hid e2
      clear e1 e2
      go_enter Try.func30, Try.ntmps30
      go_wp2_with fail
      refine (szIntS_any n1 _ _ l _ hm1 h0 h1).mono ?_
      rintro e w1 ⟨rfl, rfl⟩
      rw [E1.out]
      go_wp2_with fail
      refine (szIntS_any n2 _ _ (l - n1) _ hm2 (by omega) (by omega)).mono ?_
      rintro e w1 ⟨rfl, rfl⟩
      rw [E2.out]
      go_wp2_with fail
      go_ret
      exact ⟨rfl, (by (repeat (first | with_reducible exact Below.refl _ _ | (with_reducible refine bel_next ?_ ?_ (by assumption)) | (with_reducible refine Below.alloc ?_ ?_ _) | (with_reducible refine Below.drew ?_) | (with_reducible refine below_drewN ?_ _) | (with_reducible refine Below.setCell ?_ ?_ _))) <;> (first | omega | (simp; done) | (simp; omega)))⟩
    · rw [if_neg q2]
      have e1 : (if (n1 : Int) ≤ l then l - (n1 : Int) else -1) = l - n1 := if_pos q1
      have e2 : (if (n2 : Int) ≤ l - n1 then l - (n1 : Int) - n2 else -1) = -1 := if_neg (by omega)
      have E1 := Lib.hid e1
      have E2 := Lib.hid e2
      clear e1 e2
      go_enter Try.func30, Try.ntmps30
      go_wp2_with fail
      refine (szIntS_any n1 _ _ l _ hm1 h0 h1).mono ?_
      rintro e w1 ⟨rfl, rfl⟩
      rw [E1.out]
      go_wp2_with fail
      refine (szIntS_any n2 _ _ (l - n1) _ hm2 (by omega) (by omega)).mono ?_
      rintro e w1 ⟨rfl, rfl⟩
      rw [E2.out]
      go_wp2_with fail
      go_ret
      exact ⟨rfl, (by (repeat (first | with_reducible exact Below.refl _ _ | (with_reducible refine bel_next ?_ ?_ (by assumption)) | (with_reducible refine Below.alloc ?_ ?_ _) | (with_reducible refine Below.drew ?_) | (with_reducible refine below_drewN ?_ _) | (with_reducible refine Below.setCell ?_ ?_ _))) <;> (first | omega | (simp; done) | (simp; omega)))⟩
  · rw [if_neg (by omega)]
    have e1 : (if (n1 : Int) ≤ l then l - (n1 : Int) else -1) = -1 := if_neg q1
    have E1 := Lib.hid e1
    clear e1
    go_enter Try.func30, Try.ntmps30
    go_wp2_with fail
    refine (szIntS_any n1 _ _ l _ hm1 h0 h1).mono ?_
    rintro e w1 ⟨rfl, rfl⟩
    rw [E1.out]
    go_wp2_with fail
    go_ret
    exact ⟨rfl, (by (repeat (first | with_reducible exact Below.refl _ _ | (with_reducible refine bel_next ?_ ?_ (by assumption)) | (with_reducible refine Below.alloc ?_ ?_ _) | (with_reducible refine Below.drew ?_) | (with_reducible refine below_drewN ?_ _) | (with_reducible refine Below.setCell ?_ ?_ _))) <;> (first | omega | (simp; done) | (simp; omega)))⟩


def stateOk (regs outs : List Int) : Bool := ((regs.length : Int) == 8) && allB regs 0 15 && allB outs 0 15

set_option maxHeartbeats 1000000 in
theorem sStateOk_any (xs ys : List Int) (a1 a2 : Option Addr) (c1 c2 : Nat) (w : World) (hm1 : xs.length ≤ maxLen) (hm2 : ys.length ≤ maxLen) (hr1 : RdC w a1 (I64 xs)) (hr2 : RdC w a2 (I64 ys)) :
    Calls Try.prog 96 #[.agg #[.slice a1 xs.length c1, .slice a2 ys.length c2]] w fun e w' => e = .returned (.bool (stateOk xs ys)) ∧ Below w.heap.size w w' := by
  cases h8 : ((xs.length : Int) == 8) <;> cases hx : allB xs 0 15
  all_goals
    go_enter Try.func96, Try.ntmps96
    go_wp2_with (first | (go_at_call_of 113 (Value.slice a1 xs.length c1); refine (l12All_any xs _ _ _ hm1 (hr1.below ((Below.refl _ _).alloc (Nat.le_refl _) _))).mono ?_; rintro e w' ⟨rfl, rfl⟩) | (go_at_call_of 113 (Value.slice a2 ys.length c2); refine (l12All_any ys _ _ _ hm2 (hr2.below ((Below.refl _ _).alloc (Nat.le_refl _) _))).mono ?_; rintro e w' ⟨rfl, rfl⟩))
    go_ret
    exact ⟨ret_bool (by simp [stateOk, h8, hx]), (by (repeat (first | with_reducible exact Below.refl _ _ | (with_reducible refine bel_next ?_ ?_ (by assumption)) | (with_reducible refine Below.alloc ?_ ?_ _) | (with_reducible refine Below.drew ?_) | (with_reducible refine below_drewN ?_ _) | (with_reducible refine Below.setCell ?_ ?_ _))) <;> (first | omega | (simp; done) | (simp; omega)))⟩

set_option maxHeartbeats 1000000 in
theorem iStateOk_any (xs ys : List Int) (a1 a2 : Option Addr) (c1 c2 : Nat) (w : World) (hm1 : xs.length ≤ maxLen) (hm2 : ys.length ≤ maxLen) (hr1 : RdC w a1 (I64 xs)) (hr2 : RdC w a2 (I64 ys)) :
    Calls Try.prog 75 #[.agg #[.slice a1 xs.length c1, .slice a2 ys.length c2]] w fun e w' => e = .returned (.bool (stateOk xs ys)) ∧ Below w.heap.size w w' := by
  cases h8 : ((xs.length : Int) == 8) <;> cases hx : allB xs 0 15
  all_goals
    go_enter Try.func75, Try.ntmps75
    go_wp2_with (first | (go_at_call_of 108 (Value.slice a1 xs.length c1); refine (areNibbles_any xs _ _ _ hm1 (hr1.below ((Below.refl _ _).alloc (Nat.le_refl _) _))).mono ?_; rintro e w' ⟨rfl, rfl⟩) | (go_at_call_of 108 (Value.slice a2 ys.length c2); refine (areNibbles_any ys _ _ _ hm2 (hr2.below ((Below.refl _ _).alloc (Nat.le_refl _) _))).mono ?_; rintro e w' ⟨rfl, rfl⟩))
    go_ret
    exact ⟨ret_bool (by simp [stateOk, h8, hx]), (by (repeat (first | with_reducible exact Below.refl _ _ | (with_reducible refine bel_next ?_ ?_ (by assumption)) | (with_reducible refine Below.alloc ?_ ?_ _) | (with_reducible refine Below.drew ?_) | (with_reducible refine below_drewN ?_ _) | (with_reducible refine Below.setCell ?_ ?_ _))) <;> (first | omega | (simp; done) | (simp; omega)))⟩

end Go.Proofs.Ytfeffofoofmgcaa
