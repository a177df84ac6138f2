/- Copies of circuits. -/
import Derived.Test.YtfcijloiebnloaaAppA
import Derived.Deep.RegionHeld3
import Derived.Deep.RegionLaw
namespace Go.Proofs.Ytfcijloiebnloaa
open Go.RowKit
set_option linter.unusedVariables false
set_option linter.unusedSimpArgs false

theorem RdC.none_len {w : World} {cs : List Value} (h : RdC w none cs) : cs = [] := by
  rcases h with h | ⟨b, off, h1, _⟩
  · exact h
  · cases h1
theorem gt_none {w : World} {ad : Option Addr} {xs : List Gt} (h : RdC w ad (gtCells xs)) : ad = none → xs.length = 0 := by
  rintro rfl
  have := congrArg List.length h.none_len
  rw [gtCells_length, List.length_nil] at this; omega
theorem int_none {w : World} {ad : Option Addr} {xs : List Int} (h : RdC w ad (I64 xs)) : ad = none → xs.length = 0 := by
  rintro rfl
  have := congrArg List.length h.none_len
  simpa using this

set_option maxRecDepth 20000 in
set_option maxHeartbeats 4000000 in
theorem copyCircuit_any (xs : List Gt) (ys : List Int) (a1 a2 : Option Addr) (c1 c2 : Nat) (w : World) (hm1 : xs.length ≤ 1048576) (hm2 : ys.length ≤ 1048576) (hr1 : RdC w a1 (gtCells xs)) (hr2 : RdC w a2 (I64 ys)) :
    Calls Try.prog 56 #[.agg #[.slice a1 xs.length c1, .slice a2 ys.length c2]] w fun e w' => ∃ g1 d1 g2 d2, e = .returned (.agg #[.slice (some ⟨g1, 0, none⟩) xs.length d1, .slice (some ⟨g2, 0, none⟩) ys.length d2]) ∧
      Own w' w.heap.size 109 3 (some ⟨g1, 0, none⟩) xs.length d1 (gtCells xs) ∧ Own w' w.heap.size 3 1 (some ⟨g2, 0, none⟩) ys.length d2 (I64 ys) ∧ g1 ≠ g2 ∧ Below w.heap.size w w' := by
  have HN1 := Lib.hid (gt_none hr1)
  have HN2 := Lib.hid (int_none hr2)
  have HR1 := Lib.hid hr1
  have HR2 := Lib.hid hr2
  clear hr1 hr2
  go_enter Try.func56, Try.ntmps56
  go_wp2_with fail
  go_region_held3 (fun w' => w'.cell? ⟨w.heap.size, 0, none⟩ = some (.slice a1 xs.length c1) ∧ w'.cell? ⟨w.heap.size, 1, none⟩ = some (.slice a2 ys.length c2))
    (first | go_keep)
    (first | (refine step_copy _ rfl el_gate (.tmp 3) (.tmp 5) rfl w.heap.size _ 0 (gtCells xs) a1 xs.length c1 (by rfl) (by rfl) ?_ (gtCells_length xs) ?_ (gtCells_one xs) HN1.out (by omega) (by omega) ?_ ?_; ((first | (refine Own.drew (own_last _ _ _ _ _ ?_ ?_) <;> (first | rfl | (simp; done) | (simp; omega) | omega)) | (refine own_last _ _ _ _ _ ?_ ?_ <;> (first | rfl | (simp; done) | (simp; omega) | omega)) | (refine Own.drew (Own.alloc (own_last _ _ _ _ _ ?_ ?_) _) <;> (first | rfl | (simp; done) | (simp; omega) | omega)) | (refine Own.later (Own.drew (own_last _ _ _ _ _ ?_ ?_)) (Kp.grown (Kp.refl _ _) hg2 ?_) <;> (first | rfl | (simp; done) | (simp; omega) | omega)) | (refine Own.later (Own.drew (Own.alloc (own_last _ _ _ _ _ ?_ ?_) _)) (Kp.grown (Kp.refl _ _) hg2 ?_) <;> (first | rfl | (simp; done) | (simp; omega) | omega)))); (exact HR1.out.below (by (repeat (first | with_reducible exact Below.refl _ _ | (with_reducible refine bel_next ?_ ?_ (by assumption)) | (with_reducible refine Below.alloc ?_ ?_ _) | (with_reducible refine Below.drew ?_) | (with_reducible refine below_drewN ?_ _) | (with_reducible refine Below.setCell ?_ ?_ _))) <;> (first | omega | (simp; done) | (simp; omega)))); ((first | (focus (simp; done)) | (focus (simp; omega)) | (focus omega))); intro g1 d1 v1 ho1 hb1 hg1 hat1; have z1 := hb1.size; (try simp at z1); have y1_0 : w.heap.size < v1.heap.size := (by omega); have y1_1 : w.heap.size + 1 < v1.heap.size := (by omega); have k1_0 := grown_cell hg1 (b := w.heap.size) (o := 0) (x := .slice a1 xs.length c1) (by first | (simp; done) | (simp; omega) | omega) (by first | (go_simp; done) | assumption); have k1_1 := grown_cell hg1 (b := w.heap.size) (o := 1) (x := .slice a2 ys.length c2) (by first | (simp; done) | (simp; omega) | omega) (by first | (go_simp; done) | assumption); have k1_2 := grown_cell hg1 (b := w.heap.size + 1) (o := 0) (x := .slice none 0 0) (by first | (simp; done) | (simp; omega) | omega) (by first | (go_simp; done) | assumption); have k1_3 := grown_cell hg1 (b := w.heap.size + 1) (o := 1) (x := .slice none 0 0) (by first | (simp; done) | (simp; omega) | omega) (by first | (go_simp; done) | assumption); have f1_0 := grown_free hg1 (b := w.heap.size + 1) (o := 0) (by first | (simp; done) | (simp; omega) | omega) (by first | (simp; done) | (simp; omega) | omega) (by first | (go_simp; done) | assumption); have f1_1 := grown_free hg1 (b := w.heap.size + 1) (o := 1) (by first | (simp; done) | (simp; omega) | omega) (by first | (simp; done) | (simp; omega) | omega) (by first | (go_simp; done) | assumption)) | (go_at_call 96; refine (ints_any ys _ _ _ hm2 (HR2.out.below (by (repeat (first | with_reducible exact Below.refl _ _ | (with_reducible refine bel_next ?_ ?_ (by assumption)) | (with_reducible refine Below.alloc ?_ ?_ _) | (with_reducible refine Below.drew ?_) | (with_reducible refine below_drewN ?_ _) | (with_reducible refine Below.setCell ?_ ?_ _))) <;> (first | omega | (simp; done) | (simp; omega))))).mono ?_; rintro e v2 ⟨g2, d2, rfl, ho2, ge2a, ge2b, hb2⟩; have z2 := hb2.size; (try simp at z2); (try simp at ge2a); have y2_0 : w.heap.size < v2.heap.size := (by omega); have y2_1 : w.heap.size + 1 < v2.heap.size := (by omega); have k2_0 := bel_keeps hb2 (b := w.heap.size) (o := 0) (v := .slice a1 xs.length c1) (by first | (go_simp; done) | assumption); have k2_1 := bel_keeps hb2 (b := w.heap.size) (o := 1) (v := .slice a2 ys.length c2) (by first | (go_simp; done) | assumption); have k2_2 := bel_keeps hb2 (b := w.heap.size + 1) (o := 0) (v := .slice none 0 0) (by first | (go_simp; done) | assumption); have k2_3 := bel_keeps hb2 (b := w.heap.size + 1) (o := 1) (v := .slice none 0 0) (by first | (go_simp; done) | assumption); have f2_0 := bel_free hb2 (b := w.heap.size + 1) (o := 0) (by first | omega | (simp; done) | (simp; omega)) (by first | (go_simp; done) | assumption); have f2_1 := bel_free hb2 (b := w.heap.size + 1) (o := 1) (by first | omega | (simp; done) | (simp; omega)) (by first | (go_simp; done) | assumption)))
  all_goals
    go_wp2_with fail
    refine bodyPost_ret (v := .agg #[.slice (some ⟨g1, 0, none⟩) xs.length d1, .slice (some ⟨g2, 0, none⟩) ys.length d2]) (by simp [results, Try.results56, go_sem, k2_2, k2_3]) rfl ⟨g1, d1, g2, d2, rfl, ?_, ?_, ?_, ?_⟩
    all_goals (try simp at hat1)
    all_goals (try simp at hat2)
    all_goals have q1 := ho1.ge
    all_goals have q2 := ho2.ge
    · exact (ho1.lo (by first | omega | (simp; done) | (simp; omega))).later (by (repeat (first | with_reducible exact Kp.refl _ _ | (with_reducible refine Kp.rng ?_ (by assumption) ?_) | (with_reducible refine Kp.below ?_ (by assumption)) | (with_reducible refine Kp.grown ?_ (by assumption) ?_) | (with_reducible refine Kp.alloc ?_ _) | (with_reducible refine Kp.drew ?_) | (with_reducible refine Kp.drewN ?_ _) | (with_reducible refine Kp.setCell ?_ _ ?_))) <;> (first | omega | (simp; done) | (simp; omega)))
    · exact (ho2.lo (by first | omega | (simp; done) | (simp; omega))).later (by (repeat (first | with_reducible exact Kp.refl _ _ | (with_reducible refine Kp.rng ?_ (by assumption) ?_) | (with_reducible refine Kp.below ?_ (by assumption)) | (with_reducible refine Kp.grown ?_ (by assumption) ?_) | (with_reducible refine Kp.alloc ?_ _) | (with_reducible refine Kp.drew ?_) | (with_reducible refine Kp.drewN ?_ _) | (with_reducible refine Kp.setCell ?_ _ ?_))) <;> (first | omega | (simp; done) | (simp; omega)))
    · omega
    · exact (by (repeat (first | with_reducible exact Below.refl _ _ | (with_reducible refine bel_next ?_ ?_ (by assumption)) | (with_reducible refine Below.alloc ?_ ?_ _) | (with_reducible refine Below.drew ?_) | (with_reducible refine below_drewN ?_ _) | (with_reducible refine Below.setCell ?_ ?_ _))) <;> (first | omega | (simp; done) | (simp; omega)))
end Go.Proofs.Ytfcijloiebnloaa
