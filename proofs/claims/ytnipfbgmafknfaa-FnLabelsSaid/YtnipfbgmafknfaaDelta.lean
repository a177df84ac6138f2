/- Contracts of DeltaOf and InputZero. -/
import Derived.Test.YtnipfbgmafknfaaTape
namespace Go.Proofs.Ytnipfbgmafknfaa
open Go.RowKit

def deltaLive (s a : Int) : Bool := tapeOk s a && decide (a ≤ 900000)
def deltaVal (s a : Int) : Int := bits BinOp.or IntKind.i64 (keyedF s 7 a / 256 % 65536) 1
def inputZero (s a k : Int) : Int := if tapeOk s a && inB k 0 1000000 then keyedF (keyedF s 9 k) 7 0 / 256 % 65536 else -1

theorem live_of_delta {s a : Int} (h : deltaLive s a = true) : tapeOk s a = true ∧ a ≤ 900000 ∧ 0 ≤ a ∧ tapeLive s a = true := by
  have h1 : tapeOk s a = true ∧ a ≤ 900000 := by simpa [deltaLive] using h
  have h2 : inB s 0 4294967295 = true ∧ inB a 0 1000000 = true := by simpa [tapeOk] using h1.1
  have h3 := inB_iff.1 h2.2
  refine ⟨h1.1, h1.2, h3.1, ?_⟩
  have : (a == 1000000) = false := by simp; omega
  simp [tapeLive, h1.1, this]
theorem live_fork (s k : Int) : tapeLive (keyedF s 9 k) 0 = true := by
  have h := keyedF_range s 9 k
  have h1 : inB (keyedF s 9 k) 0 4294967295 = true := inB_iff.2 h
  simp only [tapeLive, tapeOk, h1, Bool.true_and]; rfl
theorem no_delta {s a : Int} (h : deltaLive s a = false) : tapeOk s a = false ∨ (tapeOk s a = true ∧ 900000 < a) := by
  cases h1 : tapeOk s a
  · exact .inl rfl
  · refine .inr ⟨rfl, ?_⟩
    have : decide (a ≤ 900000) = false := by simpa [deltaLive, h1] using h
    simpa using this

set_option maxHeartbeats 400000 in
theorem l06Tape_any (s a : Int) (w : World) :
    Calls Try.prog 54 #[.agg #[.int .i64 s, .int .i64 a]] w fun e w' => e = .returned (.bool (deltaLive s a)) ∧ Below w.heap.size w w' := by
  cases h1 : tapeOk s a
  all_goals
    go_enter Try.func54, Try.ntmps54
    go_wp2_with (go_at_call 56; refine (sTapeOk_any _ _ _).mono ?_; rintro e w' ⟨rfl, rfl⟩)
    all_goals go_ret
    all_goals exact ⟨ret_bool (by simp [deltaLive, h1]), (by (repeat (first | with_reducible exact Below.refl _ _ | (with_reducible refine bel_next ?_ ?_ (by assumption)) | (with_reducible refine Below.alloc ?_ ?_ _) | (with_reducible refine Below.drew ?_) | (with_reducible refine below_drewN ?_ _) | (with_reducible refine Below.setCell ?_ ?_ _))) <;> (first | omega | (simp; done) | (simp; omega)))⟩
set_option maxHeartbeats 1000000 in
theorem sDeltaOf_no (s a : Int) (w : World) (hl : deltaLive s a = false) :
    Calls Try.prog 20 #[.agg #[.int .i64 s, .int .i64 a]] w fun e w' => e = .returned (.tuple #[.int .i64 0, .agg #[.int .i64 s, .int .i64 a]]) ∧ Below w.heap.size w w' := by
  go_enter Try.func20, Try.ntmps20
  go_wp2_with (go_at_call 54; refine (l06Tape_any _ _ _).mono ?_; rintro e w1 ⟨rfl, hb1⟩; have z1 := hb1.size; (try simp at z1); have y1_0 : w.heap.size < w1.heap.size := (by omega); have y1_1 : w.heap.size + 1 < w1.heap.size := (by omega); have k1_0 := bel_keeps hb1 (b := w.heap.size) (o := 0) (v := .int .i64 s) (by go_simp); have k1_1 := bel_keeps hb1 (b := w.heap.size) (o := 1) (v := .int .i64 a) (by go_simp); have k1_2 := bel_keeps hb1 (b := w.heap.size + 1) (o := 0) (v := .int .i64 0) (by go_simp); have k1_3 := bel_keeps hb1 (b := w.heap.size + 1) (o := 1) (v := .int .i64 0) (by go_simp); have f1_0 := bel_free hb1 (b := w.heap.size + 1) (o := 0) (by first | omega | (simp; done) | (simp; omega)) (by go_simp); have f1_1 := bel_free hb1 (b := w.heap.size + 1) (o := 1) (by first | omega | (simp; done) | (simp; omega)) (by go_simp))
  go_region
  all_goals go_wp2
  all_goals exact bodyPost_ret (v := .tuple #[.int .i64 0, .agg #[.int .i64 s, .int .i64 a]]) (by simp [results, Try.results20, go_sem, k1_2, k1_3]) rfl ⟨rfl, (by (repeat (first | with_reducible exact Below.refl _ _ | (with_reducible refine bel_next ?_ ?_ (by assumption)) | (with_reducible refine Below.alloc ?_ ?_ _) | (with_reducible refine Below.drew ?_) | (with_reducible refine below_drewN ?_ _) | (with_reducible refine Below.setCell ?_ ?_ _))) <;> (first | omega | (simp; done) | (simp; omega)))⟩
set_option maxHeartbeats 1000000 in
theorem sDeltaOf_yes (s a : Int) (w : World) (hl : deltaLive s a = true) :
    Calls Try.prog 20 #[.agg #[.int .i64 s, .int .i64 a]] w fun e w' => e = .returned (.tuple #[.int .i64 (deltaVal s a), .agg #[.int .i64 s, .int .i64 (a + 1)]]) ∧ Below w.heap.size w w' := by
  obtain ⟨hok, h9, h0, hlive⟩ := live_of_delta hl
  have HL := Lib.hid hlive
  clear hlive
  go_enter Try.func20, Try.ntmps20
  go_wp2_with (first | (go_at_call 54; refine (l06Tape_any _ _ _).mono ?_; rintro e w1 ⟨rfl, hb1⟩; have z1 := hb1.size; (try simp at z1); have y1_0 : w.heap.size < w1.heap.size := (by omega); have y1_1 : w.heap.size + 1 < w1.heap.size := (by omega); have k1_0 := bel_keeps hb1 (b := w.heap.size) (o := 0) (v := .int .i64 s) (by go_simp); have k1_1 := bel_keeps hb1 (b := w.heap.size) (o := 1) (v := .int .i64 a) (by go_simp); have k1_2 := bel_keeps hb1 (b := w.heap.size + 1) (o := 0) (v := .int .i64 0) (by go_simp); have k1_3 := bel_keeps hb1 (b := w.heap.size + 1) (o := 1) (v := .int .i64 0) (by go_simp); have f1_0 := bel_free hb1 (b := w.heap.size + 1) (o := 0) (by first | omega | (simp; done) | (simp; omega)) (by go_simp); have f1_1 := bel_free hb1 (b := w.heap.size + 1) (o := 1) (by first | omega | (simp; done) | (simp; omega)) (by go_simp)) | (go_at_call 55; refine (sTapeBelow_yes _ _ 65536 _ rfl HL.out).mono ?_; rintro e w2 ⟨rfl, hb2⟩; have z2 := hb2.size; (try simp at z2); have y2_0 : w.heap.size + 1 < w2.heap.size := (by omega); have k2_0 := bel_keeps hb2 (b := w.heap.size + 1) (o := 0) (v := .int .i64 0) (by go_simp); have k2_1 := bel_keeps hb2 (b := w.heap.size + 1) (o := 1) (v := .int .i64 0) (by go_simp); have f2_0 := bel_free hb2 (b := w.heap.size + 1) (o := 0) (by first | omega | (simp; done) | (simp; omega)) (by go_simp); have f2_1 := bel_free hb2 (b := w.heap.size + 1) (o := 1) (by first | omega | (simp; done) | (simp; omega)) (by go_simp)))
  go_region
  all_goals go_wp2_with fail
  all_goals exact bodyPost_ret (v := .tuple #[.int .i64 (deltaVal s a), .agg #[.int .i64 s, .int .i64 (a + 1)]]) (by simp [results, Try.results20, go_sem, deltaVal, k2_0, k2_1, y2_0]) rfl ⟨rfl, (by (repeat (first | with_reducible exact Below.refl _ _ | (with_reducible refine bel_next ?_ ?_ (by assumption)) | (with_reducible refine Below.alloc ?_ ?_ _) | (with_reducible refine Below.drew ?_) | (with_reducible refine below_drewN ?_ _) | (with_reducible refine Below.setCell ?_ ?_ _))) <;> (first | omega | (simp; done) | (simp; omega)))⟩
set_option maxHeartbeats 1000000 in
theorem sInputZero_any (s a k : Int) (w : World) :
    Calls Try.prog 23 #[.agg #[.int .i64 s, .int .i64 a], .int .i64 k] w fun e w' => e = .returned (.int .i64 (inputZero s a k)) ∧ Below w.heap.size w w' := by
  have HL := Lib.hid (live_fork s k)
  cases h1 : tapeOk s a <;> cases h2 : inB k 0 1000000
  case true.true =>
    have hf : forkSeed s a k = keyedF s 9 k := by simp [forkSeed, h1, h2]
    have HF := Lib.hid hf
    clear hf
    go_enter Try.func23, Try.ntmps23
    go_wp2_with (first | (go_at_call 56; refine (sTapeOk_any _ _ _).mono ?_; rintro e w' ⟨rfl, rfl⟩) | (go_at_call 57; refine (l01In_any _ _ _ _).mono ?_; rintro e w' ⟨rfl, rfl⟩) | (go_at_call 58; refine (sTapeFork_any _ _ _ _).mono ?_; rintro e w1 ⟨rfl, hb1⟩; rw [HF.out]; have z1 := hb1.size; (try simp at z1)) | (go_at_call 55; refine (sTapeBelow_yes _ _ 65536 _ rfl HL.out).mono ?_; rintro e w2 ⟨rfl, hb2⟩; have z2 := hb2.size; (try simp at z2)))
    go_ret
    exact ⟨ret_int (by simp [inputZero, h1, h2]), (by (repeat (first | with_reducible exact Below.refl _ _ | (with_reducible refine bel_next ?_ ?_ (by assumption)) | (with_reducible refine Below.alloc ?_ ?_ _) | (with_reducible refine Below.drew ?_) | (with_reducible refine below_drewN ?_ _) | (with_reducible refine Below.setCell ?_ ?_ _))) <;> (first | omega | (simp; done) | (simp; omega)))⟩
  all_goals
    go_enter Try.func23, Try.ntmps23
    go_wp2_with (first | (go_at_call 56; refine (sTapeOk_any _ _ _).mono ?_; rintro e w' ⟨rfl, rfl⟩) | (go_at_call 57; refine (l01In_any _ _ _ _).mono ?_; rintro e w' ⟨rfl, rfl⟩))
    go_ret
    exact ⟨ret_int (by simp [inputZero, h1, h2]), (by (repeat (first | with_reducible exact Below.refl _ _ | (with_reducible refine bel_next ?_ ?_ (by assumption)) | (with_reducible refine Below.alloc ?_ ?_ _) | (with_reducible refine Below.drew ?_) | (with_reducible refine below_drewN ?_ _) | (with_reducible refine Below.setCell ?_ ?_ _))) <;> (first | omega | (simp; done) | (simp; omega)))⟩
set_option maxHeartbeats 1000000 in
theorem iDeltaOf_no (s a : Int) (w : World) (hl : deltaLive s a = false) :
    Calls Try.prog 15 #[.agg #[.int .i64 s, .int .i64 a]] w fun e w' => e = .returned (.tuple #[.int .i64 0, .agg #[.int .i64 s, .int .i64 a]]) ∧ Below w.heap.size w w' := by
  rcases no_delta hl with h | ⟨h, h2⟩
  all_goals
    clear hl
    go_enter Try.func15, Try.ntmps15
    go_wp2_with (go_at_call 49; refine (iTapeOk_any _ _ _).mono ?_; rintro e w' ⟨rfl, rfl⟩)
    go_region
    all_goals go_wp2
    all_goals exact bodyPost_ret (v := .tuple #[.int .i64 0, .agg #[.int .i64 s, .int .i64 a]]) (by simp [results, Try.results15, go_sem]) rfl ⟨rfl, (by (repeat (first | with_reducible exact Below.refl _ _ | (with_reducible refine bel_next ?_ ?_ (by assumption)) | (with_reducible refine Below.alloc ?_ ?_ _) | (with_reducible refine Below.drew ?_) | (with_reducible refine below_drewN ?_ _) | (with_reducible refine Below.setCell ?_ ?_ _))) <;> (first | omega | (simp; done) | (simp; omega)))⟩
set_option maxHeartbeats 1000000 in
theorem iDeltaOf_yes (s a : Int) (w : World) (hl : deltaLive s a = true) :
    Calls Try.prog 15 #[.agg #[.int .i64 s, .int .i64 a]] w fun e w' => e = .returned (.tuple #[.int .i64 (deltaVal s a), .agg #[.int .i64 s, .int .i64 (a + 1)]]) ∧ Below w.heap.size w w' := by
  obtain ⟨hok, h9, h0, hlive⟩ := live_of_delta hl
  have HL := Lib.hid hlive
  clear hlive
  go_enter Try.func15, Try.ntmps15
  go_wp2_with (first | (go_at_call 49; refine (iTapeOk_any _ _ _).mono ?_; rintro e w' ⟨rfl, rfl⟩) | (go_at_call 50; refine (iTapeBelow_yes _ _ 65536 _ rfl HL.out).mono ?_; rintro e w2 ⟨rfl, hb2⟩; have z2 := hb2.size; (try simp at z2); have y2_0 : w.heap.size + 1 < w2.heap.size := (by omega); have k2_0 := bel_keeps hb2 (b := w.heap.size + 1) (o := 0) (v := .int .i64 0) (by go_simp); have k2_1 := bel_keeps hb2 (b := w.heap.size + 1) (o := 1) (v := .int .i64 0) (by go_simp); have f2_0 := bel_free hb2 (b := w.heap.size + 1) (o := 0) (by first | omega | (simp; done) | (simp; omega)) (by go_simp); have f2_1 := bel_free hb2 (b := w.heap.size + 1) (o := 1) (by first | omega | (simp; done) | (simp; omega)) (by go_simp)))
  go_region
  all_goals go_wp2_with fail
  all_goals exact bodyPost_ret (v := .tuple #[.int .i64 (deltaVal s a), .agg #[.int .i64 s, .int .i64 (a + 1)]]) (by simp [results, Try.results15, go_sem, deltaVal, k2_0, k2_1, y2_0]) rfl ⟨rfl, (by (repeat (first | with_reducible exact Below.refl _ _ | (with_reducible refine bel_next ?_ ?_ (by assumption)) | (with_reducible refine Below.alloc ?_ ?_ _) | (with_reducible refine Below.drew ?_) | (with_reducible refine below_drewN ?_ _) | (with_reducible refine Below.setCell ?_ ?_ _))) <;> (first | omega | (simp; done) | (simp; omega)))⟩
set_option maxHeartbeats 1000000 in
theorem iInputZero_any (s a k : Int) (w : World) :
    Calls Try.prog 24 #[.agg #[.int .i64 s, .int .i64 a], .int .i64 k] w fun e w' => e = .returned (.int .i64 (inputZero s a k)) ∧ Below w.heap.size w w' := by
  have HL := Lib.hid (live_fork s k)
  cases h1 : tapeOk s a <;> cases h2 : inB k 0 1000000
  case true.true =>
    have hf : forkSeed s a k = keyedF s 9 k := by simp [forkSeed, h1, h2]
    have HF := Lib.hid hf
    clear hf
    go_enter Try.func24, Try.ntmps24
    go_wp2_with (first | (go_at_call 49; refine (iTapeOk_any _ _ _).mono ?_; rintro e w' ⟨rfl, rfl⟩) | (go_at_call 52; refine (within_any _ _ _ _).mono ?_; rintro e w' ⟨rfl, rfl⟩) | (go_at_call 59; refine (iTapeFork_any _ _ _ _).mono ?_; rintro e w1 ⟨rfl, hb1⟩; rw [HF.out]; have z1 := hb1.size; (try simp at z1)) | (go_at_call 50; refine (iTapeBelow_yes _ _ 65536 _ rfl HL.out).mono ?_; rintro e w2 ⟨rfl, hb2⟩; have z2 := hb2.size; (try simp at z2)))
    go_ret
    exact ⟨ret_int (by simp [inputZero, h1, h2]), (by (repeat (first | with_reducible exact Below.refl _ _ | (with_reducible refine bel_next ?_ ?_ (by assumption)) | (with_reducible refine Below.alloc ?_ ?_ _) | (with_reducible refine Below.drew ?_) | (with_reducible refine below_drewN ?_ _) | (with_reducible refine Below.setCell ?_ ?_ _))) <;> (first | omega | (simp; done) | (simp; omega)))⟩
  all_goals
    go_enter Try.func24, Try.ntmps24
    go_wp2_with (first | (go_at_call 49; refine (iTapeOk_any _ _ _).mono ?_; rintro e w' ⟨rfl, rfl⟩) | (go_at_call 52; refine (within_any _ _ _ _).mono ?_; rintro e w' ⟨rfl, rfl⟩))
    go_ret
    exact ⟨ret_int (by simp [inputZero, h1, h2]), (by (repeat (first | with_reducible exact Below.refl _ _ | (with_reducible refine bel_next ?_ ?_ (by assumption)) | (with_reducible refine Below.alloc ?_ ?_ _) | (with_reducible refine Below.drew ?_) | (with_reducible refine below_drewN ?_ _) | (with_reducible refine Below.setCell ?_ ?_ _))) <;> (first | omega | (simp; done) | (simp; omega)))⟩
set_option maxHeartbeats 2000000 in
theorem walk_FnExactDeltaOf (w : World) (s a : Int) : Calls Try.prog 5 #[.agg #[.int .i64 s, .int .i64 a]] w fun e w' => e = .returned (.bool true) ∧ Below w.heap.size w w' := by
  cases hl : deltaLive s a
  · have HL := Lib.hid hl
    clear hl
    go_enter Try.func5, Try.ntmps5
    go_wp2_with fail
    refine (toTape_any _ _ _).mono ?_
    rintro e w1 ⟨rfl, hb1⟩
    have z1 := hb1.size; (try simp at z1); have y1_0 : w.heap.size < w1.heap.size := (by omega); have k1_0 := bel_keeps hb1 (b := w.heap.size) (o := 0) (v := .int .i64 s) (by go_simp); have k1_1 := bel_keeps hb1 (b := w.heap.size) (o := 1) (v := .int .i64 a) (by go_simp)
    go_wp2_with fail
    refine (sDeltaOf_no _ _ _ HL.out).mono ?_
    rintro e w2 ⟨rfl, hb2⟩
    have z2 := hb2.size; (try simp at z2); have y2_0 : w.heap.size < w2.heap.size := (by omega); have k2_0 := bel_keeps hb2 (b := w.heap.size) (o := 0) (v := .int .i64 s) (by go_simp); have k2_1 := bel_keeps hb2 (b := w.heap.size) (o := 1) (v := .int .i64 a) (by go_simp)
    go_wp2_with fail
    refine (toTape_any _ _ _).mono ?_
    rintro e w3 ⟨rfl, hb3⟩
    have z3 := hb3.size; (try simp at z3); have y3_0 : w.heap.size < w3.heap.size := (by omega); have y3_1 : w2.heap.size < w3.heap.size := (by omega); have k3_0 := bel_keeps hb3 (b := w.heap.size) (o := 0) (v := .int .i64 s) (by go_simp); have k3_1 := bel_keeps hb3 (b := w.heap.size) (o := 1) (v := .int .i64 a) (by go_simp); have k3_2 := bel_keeps hb3 (b := w2.heap.size) (o := 0) (v := .int .i64 s) (by go_simp); have k3_3 := bel_keeps hb3 (b := w2.heap.size) (o := 1) (v := .int .i64 a) (by go_simp)
    go_wp2_with fail
    refine (iDeltaOf_no _ _ _ HL.out).mono ?_
    rintro e w4 ⟨rfl, hb4⟩
    have z4 := hb4.size; (try simp at z4); have y4_0 : w.heap.size < w4.heap.size := (by omega); have y4_1 : w2.heap.size < w4.heap.size := (by omega); have k4_0 := bel_keeps hb4 (b := w.heap.size) (o := 0) (v := .int .i64 s) (by go_simp); have k4_1 := bel_keeps hb4 (b := w.heap.size) (o := 1) (v := .int .i64 a) (by go_simp); have k4_2 := bel_keeps hb4 (b := w2.heap.size) (o := 0) (v := .int .i64 s) (by go_simp); have k4_3 := bel_keeps hb4 (b := w2.heap.size) (o := 1) (v := .int .i64 a) (by go_simp)
    go_wp2_with fail
    refine (eqTape_same _ _ _).mono ?_
    rintro e w5 ⟨rfl, hb5⟩
    have z5 := hb5.size; (try simp at z5)
    go_wp2_with fail
    go_ret
    exact ⟨rfl, (by (repeat (first | with_reducible exact Below.refl _ _ | (with_reducible refine bel_next ?_ ?_ (by assumption)) | (with_reducible refine Below.alloc ?_ ?_ _) | (with_reducible refine Below.drew ?_) | (with_reducible refine below_drewN ?_ _) | (with_reducible refine Below.setCell ?_ ?_ _))) <;> (first | omega | (simp; done) | (simp; omega)))⟩
  · have HL := Lib.hid hl
    clear hl
    go_enter Try.func5, Try.ntmps5
    go_wp2_with fail
    refine (toTape_any _ _ _).mono ?_
    rintro e w1 ⟨rfl, hb1⟩
    have z1 := hb1.size; (try simp at z1); have y1_0 : w.heap.size < w1.heap.size := (by omega); have k1_0 := bel_keeps hb1 (b := w.heap.size) (o := 0) (v := .int .i64 s) (by go_simp); have k1_1 := bel_keeps hb1 (b := w.heap.size) (o := 1) (v := .int .i64 a) (by go_simp)
    go_wp2_with fail
    refine (sDeltaOf_yes _ _ _ HL.out).mono ?_
    rintro e w2 ⟨rfl, hb2⟩
    have z2 := hb2.size; (try simp at z2); have y2_0 : w.heap.size < w2.heap.size := (by omega); have k2_0 := bel_keeps hb2 (b := w.heap.size) (o := 0) (v := .int .i64 s) (by go_simp); have k2_1 := bel_keeps hb2 (b := w.heap.size) (o := 1) (v := .int .i64 a) (by go_simp)
    go_wp2_with fail
    refine (toTape_any _ _ _).mono ?_
    rintro e w3 ⟨rfl, hb3⟩
    have z3 := hb3.size; (try simp at z3); have y3_0 : w.heap.size < w3.heap.size := (by omega); have y3_1 : w2.heap.size < w3.heap.size := (by omega); have k3_0 := bel_keeps hb3 (b := w.heap.size) (o := 0) (v := .int .i64 s) (by go_simp); have k3_1 := bel_keeps hb3 (b := w.heap.size) (o := 1) (v := .int .i64 a) (by go_simp); have k3_2 := bel_keeps hb3 (b := w2.heap.size) (o := 0) (v := .int .i64 s) (by go_simp); have k3_3 := bel_keeps hb3 (b := w2.heap.size) (o := 1) (v := .int .i64 (a + 1)) (by go_simp)
    go_wp2_with fail
    refine (iDeltaOf_yes _ _ _ HL.out).mono ?_
    rintro e w4 ⟨rfl, hb4⟩
    have z4 := hb4.size; (try simp at z4); have y4_0 : w.heap.size < w4.heap.size := (by omega); have y4_1 : w2.heap.size < w4.heap.size := (by omega); have k4_0 := bel_keeps hb4 (b := w.heap.size) (o := 0) (v := .int .i64 s) (by go_simp); have k4_1 := bel_keeps hb4 (b := w.heap.size) (o := 1) (v := .int .i64 a) (by go_simp); have k4_2 := bel_keeps hb4 (b := w2.heap.size) (o := 0) (v := .int .i64 s) (by go_simp); have k4_3 := bel_keeps hb4 (b := w2.heap.size) (o := 1) (v := .int .i64 (a + 1)) (by go_simp)
    go_wp2_with fail
    refine (eqTape_same _ _ _).mono ?_
    rintro e w5 ⟨rfl, hb5⟩
    have z5 := hb5.size; (try simp at z5)
    go_wp2_with fail
    go_ret
    exact ⟨rfl, (by (repeat (first | with_reducible exact Below.refl _ _ | (with_reducible refine bel_next ?_ ?_ (by assumption)) | (with_reducible refine Below.alloc ?_ ?_ _) | (with_reducible refine Below.drew ?_) | (with_reducible refine below_drewN ?_ _) | (with_reducible refine Below.setCell ?_ ?_ _))) <;> (first | omega | (simp; done) | (simp; omega)))⟩
set_option maxHeartbeats 2000000 in
theorem walk_FnExactInputZero (w : World) (s a k : Int) (_wk : (Lit.int .i64 k).wf = true) : Calls Try.prog 6 #[.agg #[.int .i64 s, .int .i64 a], .int .i64 k] w fun e w' => e = .returned (.bool true) ∧ Below w.heap.size w w' := by
  go_enter Try.func6, Try.ntmps6
  go_wp2_with fail
  refine (toTape_any _ _ _).mono ?_
  rintro e w1 ⟨rfl, hb1⟩
  have z1 := hb1.size; (try simp at z1); have y1_0 : w.heap.size < w1.heap.size := (by omega); have k1_0 := bel_keeps hb1 (b := w.heap.size) (o := 0) (v := .int .i64 s) (by go_simp); have k1_1 := bel_keeps hb1 (b := w.heap.size) (o := 1) (v := .int .i64 a) (by go_simp)
  go_wp2_with fail
  refine (sInputZero_any _ _ _ _).mono ?_
  rintro e w2 ⟨rfl, hb2⟩
  have z2 := hb2.size; (try simp at z2); have y2_0 : w.heap.size < w2.heap.size := (by omega); have k2_0 := bel_keeps hb2 (b := w.heap.size) (o := 0) (v := .int .i64 s) (by go_simp); have k2_1 := bel_keeps hb2 (b := w.heap.size) (o := 1) (v := .int .i64 a) (by go_simp)
  go_wp2_with fail
  refine (toTape_any _ _ _).mono ?_
  rintro e w3 ⟨rfl, hb3⟩
  have z3 := hb3.size; (try simp at z3); have y3_0 : w.heap.size < w3.heap.size := (by omega); have k3_0 := bel_keeps hb3 (b := w.heap.size) (o := 0) (v := .int .i64 s) (by go_simp); have k3_1 := bel_keeps hb3 (b := w.heap.size) (o := 1) (v := .int .i64 a) (by go_simp)
  go_wp2_with fail
  refine (iInputZero_any _ _ _ _).mono ?_
  rintro e w4 ⟨rfl, hb4⟩
  have z4 := hb4.size; (try simp at z4); have y4_0 : w.heap.size < w4.heap.size := (by omega); have k4_0 := bel_keeps hb4 (b := w.heap.size) (o := 0) (v := .int .i64 s) (by go_simp); have k4_1 := bel_keeps hb4 (b := w.heap.size) (o := 1) (v := .int .i64 a) (by go_simp)
  go_wp2_with fail
  go_ret
  exact ⟨rfl, (by (repeat (first | with_reducible exact Below.refl _ _ | (with_reducible refine bel_next ?_ ?_ (by assumption)) | (with_reducible refine Below.alloc ?_ ?_ _) | (with_reducible refine Below.drew ?_) | (with_reducible refine below_drewN ?_ _) | (with_reducible refine Below.setCell ?_ ?_ _))) <;> (first | omega | (simp; done) | (simp; omega)))⟩
end Go.Proofs.Ytnipfbgmafknfaa
