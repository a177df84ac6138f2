/- Contracts of the functions over tapes. -/
import Derived.Test.YtnipfbgmafknfaaWord
import Derived.RegionTactic
import Derived.Deep.RegionHeld3
import Derived.ChangeAlike
namespace Go.Proofs.Ytnipfbgmafknfaa
open Go.RowKit

def tapeOk (s a : Int) : Bool := inB s 0 4294967295 && inB a 0 1000000

set_option maxHeartbeats 400000 in
theorem toTape_any (s a : Int) (w : World) :
    Calls Try.prog 21 #[.agg #[.int .i64 s, .int .i64 a]] w fun e w' => e = .returned (.agg #[.int .i64 s, .int .i64 a]) ∧ Below w.heap.size w w' := by
  go_enter Try.func21, Try.ntmps21
  go_wp2
  exact bodyPost_ret (v := .agg #[.int .i64 s, .int .i64 a]) (by simp [results, Try.results21, go_sem]) rfl ⟨rfl, (by (repeat (first | with_reducible exact Below.refl _ _ | (with_reducible refine bel_next ?_ ?_ (by assumption)) | (with_reducible refine Below.alloc ?_ ?_ _) | (with_reducible refine Below.drew ?_) | (with_reducible refine below_drewN ?_ _) | (with_reducible refine Below.setCell ?_ ?_ _))) <;> (first | omega | (simp; done) | (simp; omega)))⟩
set_option maxHeartbeats 400000 in
theorem eqTape_same (s a : Int) (w : World) :
    Calls Try.prog 22 #[.agg #[.int .i64 s, .int .i64 a], .agg #[.int .i64 s, .int .i64 a]] w fun e w' => e = .returned (.bool true) ∧ Below w.heap.size w w' := by
  go_enter Try.func22, Try.ntmps22
  go_wp2
  go_ret
  exact ⟨rfl, (by (repeat (first | with_reducible exact Below.refl _ _ | (with_reducible refine bel_next ?_ ?_ (by assumption)) | (with_reducible refine Below.alloc ?_ ?_ _) | (with_reducible refine Below.drew ?_) | (with_reducible refine below_drewN ?_ _) | (with_reducible refine Below.setCell ?_ ?_ _))) <;> (first | omega | (simp; done) | (simp; omega)))⟩
set_option maxHeartbeats 400000 in
theorem sTapeOk_any (s a : Int) (w : World) :
    Calls Try.prog 56 #[.agg #[.int .i64 s, .int .i64 a]] w fun e w' => e = .returned (.bool (tapeOk s a)) ∧ w' = w.alloc (.cells #[.int .i64 s, .int .i64 a] 28) := by
  cases h1 : inB s 0 4294967295
  all_goals
    go_enter Try.func56, Try.ntmps56
    go_wp2_with (first | (go_at_call 70; refine (sIsWord_any _ _).mono ?_; rintro e w' ⟨rfl, rfl⟩) | (go_at_call 57; refine (l01In_any _ _ _ _).mono ?_; rintro e w' ⟨rfl, rfl⟩))
    go_ret
    exact ⟨ret_bool (by simp [tapeOk, h1]), rfl⟩
set_option maxHeartbeats 400000 in
theorem iTapeOk_any (s a : Int) (w : World) :
    Calls Try.prog 49 #[.agg #[.int .i64 s, .int .i64 a]] w fun e w' => e = .returned (.bool (tapeOk s a)) ∧ w' = w.alloc (.cells #[.int .i64 s, .int .i64 a] 28) := by
  cases h1 : inB s 0 4294967295
  all_goals
    go_enter Try.func49, Try.ntmps49
    go_wp2_with (first | (go_at_call 66; refine (iIsWord_any _ _).mono ?_; rintro e w' ⟨rfl, rfl⟩) | (go_at_call 52; refine (within_any _ _ _ _).mono ?_; rintro e w' ⟨rfl, rfl⟩))
    go_ret
    exact ⟨ret_bool (by simp [tapeOk, h1]), rfl⟩

def tapeLive (s a : Int) : Bool := tapeOk s a && !(a == 1000000)
def tapeVal (s a n : Int) : Int := if inB n 1 65536 && tapeLive s a then keyedF s 7 a / 256 % n else 0
def tapeAt (s a n : Int) : Int := if inB n 1 65536 && tapeLive s a then a + 1 else a
def forkSeed (s a n : Int) : Int := if tapeOk s a && inB n 0 1000000 then keyedF s 9 n else 0

set_option maxHeartbeats 1000000 in
theorem sTapeWord_no (s a : Int) (w : World) (hl : tapeLive s a = false) :
    Calls Try.prog 69 #[.agg #[.int .i64 s, .int .i64 a]] w fun e w' => e = .returned (.tuple #[.int .i64 0, .agg #[.int .i64 s, .int .i64 a]]) ∧ Below w.heap.size w w' := by
  cases hok : tapeOk s a
  · go_enter Try.func69, Try.ntmps69
    go_wp2_with (go_at_call 56; refine (sTapeOk_any _ _ _).mono ?_; rintro e w' ⟨rfl, rfl⟩)
    go_region
    all_goals go_wp2
    all_goals exact bodyPost_ret (v := .tuple #[.int .i64 0, .agg #[.int .i64 s, .int .i64 a]]) (by simp [results, Try.results69, go_sem]) rfl ⟨rfl, (by (repeat (first | with_reducible exact Below.refl _ _ | (with_reducible refine bel_next ?_ ?_ (by assumption)) | (with_reducible refine Below.alloc ?_ ?_ _) | (with_reducible refine Below.drew ?_) | (with_reducible refine below_drewN ?_ _) | (with_reducible refine Below.setCell ?_ ?_ _))) <;> (first | omega | (simp; done) | (simp; omega)))⟩
  · have hm : (a == 1000000) = true := by simpa [tapeLive, hok] using hl
    have hm' : a = 1000000 := by simpa using hm
    clear hl hm
    subst hm'
    go_enter Try.func69, Try.ntmps69
    go_wp2_with (go_at_call 56; refine (sTapeOk_any _ _ _).mono ?_; rintro e w' ⟨rfl, rfl⟩)
    go_region
    all_goals go_wp2
    all_goals exact bodyPost_ret (v := .tuple #[.int .i64 0, .agg #[.int .i64 s, .int .i64 1000000]]) (by simp [results, Try.results69, go_sem]) rfl ⟨rfl, (by (repeat (first | with_reducible exact Below.refl _ _ | (with_reducible refine bel_next ?_ ?_ (by assumption)) | (with_reducible refine Below.alloc ?_ ?_ _) | (with_reducible refine Below.drew ?_) | (with_reducible refine below_drewN ?_ _) | (with_reducible refine Below.setCell ?_ ?_ _))) <;> (first | omega | (simp; done) | (simp; omega)))⟩
set_option maxHeartbeats 1000000 in
theorem sTapeWord_yes (s a : Int) (w : World) (hl : tapeLive s a = true) :
    Calls Try.prog 69 #[.agg #[.int .i64 s, .int .i64 a]] w fun e w' => e = .returned (.tuple #[.int .i64 (keyedF s 7 a), .agg #[.int .i64 s, .int .i64 (a + 1)]]) ∧ Below w.heap.size w w' := by
  have h1 : tapeOk s a = true ∧ (a == 1000000) = false := by simpa [tapeLive] using hl
  obtain ⟨hok, hm⟩ := h1
  have h2 : inB s 0 4294967295 = true ∧ inB a 0 1000000 = true := by simpa [tapeOk] using hok
  obtain ⟨a0, a1⟩ := inB_iff.1 h2.2
  clear h2 hl
  go_enter Try.func69, Try.ntmps69
  go_wp2_with (first | (go_at_call 56; refine (sTapeOk_any _ _ _).mono ?_; rintro e w' ⟨rfl, rfl⟩) | (go_at_call 71; refine (sKeyed_any _ _ _ _).mono ?_; rintro e w' ⟨rfl, rfl⟩))
  have hw : IntKind.i64.wrap (a + 1) = a + 1 := wrap_i64_id (by omega) (by omega)
  go_region_held3 (fun w' => w'.cell? ⟨w.heap.size, 0, none⟩ = some (.int .i64 s) ∧ w'.cell? ⟨w.heap.size, 1, none⟩ = some (.int .i64 a)) (go_keep)
    (((go_at_call 71; refine (sKeyed_any _ _ _ _).mono ?_; rintro e w' ⟨rfl, rfl⟩)))
  all_goals clear hw
  all_goals go_wp2_with fail
  all_goals exact bodyPost_ret (v := .tuple #[.int .i64 (keyedF s 7 a), .agg #[.int .i64 s, .int .i64 (a + 1)]]) (by simp [results, Try.results69, go_sem]) rfl ⟨rfl, (by (repeat (first | with_reducible exact Below.refl _ _ | (with_reducible refine bel_next ?_ ?_ (by assumption)) | (with_reducible refine Below.alloc ?_ ?_ _) | (with_reducible refine Below.drew ?_) | (with_reducible refine below_drewN ?_ _) | (with_reducible refine Below.setCell ?_ ?_ _))) <;> (first | omega | (simp; done) | (simp; omega)))⟩
set_option maxHeartbeats 1000000 in
theorem iTapeWord_no (s a : Int) (w : World) (hl : tapeLive s a = false) :
    Calls Try.prog 67 #[.agg #[.int .i64 s, .int .i64 a]] w fun e w' => e = .returned (.tuple #[.int .i64 0, .agg #[.int .i64 s, .int .i64 a]]) ∧ Below w.heap.size w w' := by
  cases hok : tapeOk s a
  · go_enter Try.func67, Try.ntmps67
    go_wp2_with (go_at_call 49; refine (iTapeOk_any _ _ _).mono ?_; rintro e w' ⟨rfl, rfl⟩)
    go_region
    all_goals go_wp2
    all_goals exact bodyPost_ret (v := .tuple #[.int .i64 0, .agg #[.int .i64 s, .int .i64 a]]) (by simp [results, Try.results67, go_sem]) rfl ⟨rfl, (by (repeat (first | with_reducible exact Below.refl _ _ | (with_reducible refine bel_next ?_ ?_ (by assumption)) | (with_reducible refine Below.alloc ?_ ?_ _) | (with_reducible refine Below.drew ?_) | (with_reducible refine below_drewN ?_ _) | (with_reducible refine Below.setCell ?_ ?_ _))) <;> (first | omega | (simp; done) | (simp; omega)))⟩
  · have hm : (a == 1000000) = true := by simpa [tapeLive, hok] using hl
    have hm' : a = 1000000 := by simpa using hm
    clear hl hm
    subst hm'
    go_enter Try.func67, Try.ntmps67
    go_wp2_with (go_at_call 49; refine (iTapeOk_any _ _ _).mono ?_; rintro e w' ⟨rfl, rfl⟩)
    go_region
    all_goals go_wp2
    all_goals exact bodyPost_ret (v := .tuple #[.int .i64 0, .agg #[.int .i64 s, .int .i64 1000000]]) (by simp [results, Try.results67, go_sem]) rfl ⟨rfl, (by (repeat (first | with_reducible exact Below.refl _ _ | (with_reducible refine bel_next ?_ ?_ (by assumption)) | (with_reducible refine Below.alloc ?_ ?_ _) | (with_reducible refine Below.drew ?_) | (with_reducible refine below_drewN ?_ _) | (with_reducible refine Below.setCell ?_ ?_ _))) <;> (first | omega | (simp; done) | (simp; omega)))⟩
set_option maxHeartbeats 1000000 in
theorem iTapeWord_yes (s a : Int) (w : World) (hl : tapeLive s a = true) :
    Calls Try.prog 67 #[.agg #[.int .i64 s, .int .i64 a]] w fun e w' => e = .returned (.tuple #[.int .i64 (keyedF s 7 a), .agg #[.int .i64 s, .int .i64 (a + 1)]]) ∧ Below w.heap.size w w' := by
  have h1 : tapeOk s a = true ∧ (a == 1000000) = false := by simpa [tapeLive] using hl
  obtain ⟨hok, hm⟩ := h1
  have h2 : inB s 0 4294967295 = true ∧ inB a 0 1000000 = true := by simpa [tapeOk] using hok
  obtain ⟨a0, a1⟩ := inB_iff.1 h2.2
  clear h2 hl
  go_enter Try.func67, Try.ntmps67
  go_wp2_with (first | (go_at_call 49; refine (iTapeOk_any _ _ _).mono ?_; rintro e w' ⟨rfl, rfl⟩) | (go_at_call 53; refine (iKeyed_any _ _ _ _).mono ?_; rintro e w' ⟨rfl, rfl⟩))
  have hw : IntKind.i64.wrap (a + 1) = a + 1 := wrap_i64_id (by omega) (by omega)
  go_region_held3 (fun w' => w'.cell? ⟨w.heap.size, 0, none⟩ = some (.int .i64 s) ∧ w'.cell? ⟨w.heap.size, 1, none⟩ = some (.int .i64 a)) (go_keep)
    (((go_at_call 53; refine (iKeyed_any _ _ _ _).mono ?_; rintro e w' ⟨rfl, rfl⟩)))
  all_goals clear hw
  all_goals go_wp2_with fail
  all_goals exact bodyPost_ret (v := .tuple #[.int .i64 (keyedF s 7 a), .agg #[.int .i64 s, .int .i64 (a + 1)]]) (by simp [results, Try.results67, go_sem]) rfl ⟨rfl, (by (repeat (first | with_reducible exact Below.refl _ _ | (with_reducible refine bel_next ?_ ?_ (by assumption)) | (with_reducible refine Below.alloc ?_ ?_ _) | (with_reducible refine Below.drew ?_) | (with_reducible refine below_drewN ?_ _) | (with_reducible refine Below.setCell ?_ ?_ _))) <;> (first | omega | (simp; done) | (simp; omega)))⟩
set_option maxHeartbeats 1000000 in
theorem sTapeBelow_no (s a n : Int) (w : World) (hl : (inB n 1 65536 && tapeLive s a) = false) :
    Calls Try.prog 55 #[.agg #[.int .i64 s, .int .i64 a], .int .i64 n] w fun e w' => e = .returned (.tuple #[.int .i64 0, .agg #[.int .i64 s, .int .i64 a]]) ∧ Below w.heap.size w w' := by
  cases hn : inB n 1 65536
  · clear hl
    go_enter Try.func55, Try.ntmps55
    go_wp2_with (first | (go_at_call 57; refine (l01In_any _ _ _ _).mono ?_; rintro e w' ⟨rfl, rfl⟩) | (go_at_call 56; refine (sTapeOk_any _ _ _).mono ?_; rintro e w' ⟨rfl, rfl⟩))
    go_region
    all_goals go_wp2
    all_goals exact bodyPost_ret (v := .tuple #[.int .i64 0, .agg #[.int .i64 s, .int .i64 a]]) (by simp [results, Try.results55, go_sem]) rfl ⟨rfl, (by (repeat (first | with_reducible exact Below.refl _ _ | (with_reducible refine bel_next ?_ ?_ (by assumption)) | (with_reducible refine Below.alloc ?_ ?_ _) | (with_reducible refine Below.drew ?_) | (with_reducible refine below_drewN ?_ _) | (with_reducible refine Below.setCell ?_ ?_ _))) <;> (first | omega | (simp; done) | (simp; omega)))⟩
  rw [hn, Bool.true_and] at hl
  · have HL := Lib.hid hl
    clear hl
    obtain ⟨n0, n1⟩ := inB_iff.1 hn
    go_enter Try.func55, Try.ntmps55
    go_wp2_with (first | (go_at_call 57; refine (l01In_any _ _ _ _).mono ?_; rintro e w' ⟨rfl, rfl⟩) | (go_at_call 69; refine (sTapeWord_no _ _ _ HL.out).mono ?_; rintro e w1 ⟨rfl, hb1⟩; have z1 := hb1.size; (try simp at z1); have y1_0 : w.heap.size + 1 < w1.heap.size := (by omega); have k1_0 := bel_keeps hb1 (b := w.heap.size + 1) (o := 0) (v := .int .i64 0) (by go_simp); have k1_1 := bel_keeps hb1 (b := w.heap.size + 1) (o := 1) (v := .int .i64 0) (by go_simp); have f1_0 := bel_free hb1 (b := w.heap.size + 1) (o := 0) (by first | omega | (simp; done) | (simp; omega)) (by go_simp); have f1_1 := bel_free hb1 (b := w.heap.size + 1) (o := 1) (by first | omega | (simp; done) | (simp; omega)) (by go_simp)))
    go_region
    all_goals go_wp2_with fail
    all_goals exact bodyPost_ret (v := .tuple #[.int .i64 0, .agg #[.int .i64 s, .int .i64 a]]) (by simp [results, Try.results55, go_sem, k1_0, k1_1, y1_0]) rfl ⟨rfl, (by (repeat (first | with_reducible exact Below.refl _ _ | (with_reducible refine bel_next ?_ ?_ (by assumption)) | (with_reducible refine Below.alloc ?_ ?_ _) | (with_reducible refine Below.drew ?_) | (with_reducible refine below_drewN ?_ _) | (with_reducible refine Below.setCell ?_ ?_ _))) <;> (first | omega | (simp; done) | (simp; omega)))⟩
set_option maxHeartbeats 1000000 in
theorem sTapeBelow_yes (s a n : Int) (w : World) (hn : inB n 1 65536 = true) (hl : tapeLive s a = true) :
    Calls Try.prog 55 #[.agg #[.int .i64 s, .int .i64 a], .int .i64 n] w fun e w' => e = .returned (.tuple #[.int .i64 (keyedF s 7 a / 256 % n), .agg #[.int .i64 s, .int .i64 (a + 1)]]) ∧ Below w.heap.size w w' := by
  have HL := Lib.hid hl
  obtain ⟨n0, n1⟩ := inB_iff.1 hn
  obtain ⟨r0, r1⟩ := keyedF_range s 7 a
  clear hl
  go_enter Try.func55, Try.ntmps55
  go_wp2_with (first | (go_at_call 57; refine (l01In_any _ _ _ _).mono ?_; rintro e w' ⟨rfl, rfl⟩) | (go_at_call 56; refine (sTapeOk_any _ _ _).mono ?_; rintro e w' ⟨rfl, rfl⟩) | (go_at_call 69; refine (sTapeWord_yes _ _ _ HL.out).mono ?_; rintro e w1 ⟨rfl, hb1⟩; have z1 := hb1.size; (try simp at z1); have y1_0 : w.heap.size + 1 < w1.heap.size := (by omega); have k1_0 := bel_keeps hb1 (b := w.heap.size + 1) (o := 0) (v := .int .i64 0) (by go_simp); have k1_1 := bel_keeps hb1 (b := w.heap.size + 1) (o := 1) (v := .int .i64 0) (by go_simp); have f1_0 := bel_free hb1 (b := w.heap.size + 1) (o := 0) (by first | omega | (simp; done) | (simp; omega)) (by go_simp); have f1_1 := bel_free hb1 (b := w.heap.size + 1) (o := 1) (by first | omega | (simp; done) | (simp; omega)) (by go_simp)))
  go_region
  all_goals go_wp2_with fail
  all_goals exact bodyPost_ret (v := .tuple #[.int .i64 (keyedF s 7 a / 256 % n), .agg #[.int .i64 s, .int .i64 (a + 1)]]) (by simp [results, Try.results55, go_sem, k1_0, k1_1, y1_0]) rfl ⟨rfl, (by (repeat (first | with_reducible exact Below.refl _ _ | (with_reducible refine bel_next ?_ ?_ (by assumption)) | (with_reducible refine Below.alloc ?_ ?_ _) | (with_reducible refine Below.drew ?_) | (with_reducible refine below_drewN ?_ _) | (with_reducible refine Below.setCell ?_ ?_ _))) <;> (first | omega | (simp; done) | (simp; omega)))⟩
set_option maxHeartbeats 1000000 in
theorem sTapeFork_any (s a n : Int) (w : World) :
    Calls Try.prog 58 #[.agg #[.int .i64 s, .int .i64 a], .int .i64 n] w fun e w' => e = .returned (.agg #[.int .i64 (forkSeed s a n), .int .i64 0]) ∧ Below w.heap.size w w' := by
  unfold forkSeed
  cases h1 : tapeOk s a <;> cases h2 : inB n 0 1000000
  all_goals
    go_enter Try.func58, Try.ntmps58
    go_wp2_with (first | (go_at_call 56; refine (sTapeOk_any _ _ _).mono ?_; rintro e w' ⟨rfl, rfl⟩) | (go_at_call 57; refine (l01In_any _ _ _ _).mono ?_; rintro e w' ⟨rfl, rfl⟩) | (go_at_call 71; refine (sKeyed_any _ _ _ _).mono ?_; rintro e w' ⟨rfl, rfl⟩))
    exact bodyPost_ret (v := .agg #[.int .i64 _, .int .i64 0]) (by simp [results, Try.results58, go_sem]) rfl ⟨rfl, (by (repeat (first | with_reducible exact Below.refl _ _ | (with_reducible refine bel_next ?_ ?_ (by assumption)) | (with_reducible refine Below.alloc ?_ ?_ _) | (with_reducible refine Below.drew ?_) | (with_reducible refine below_drewN ?_ _) | (with_reducible refine Below.setCell ?_ ?_ _))) <;> (first | omega | (simp; done) | (simp; omega)))⟩
set_option maxHeartbeats 1000000 in
theorem iTapeBelow_no (s a n : Int) (w : World) (hl : (inB n 1 65536 && tapeLive s a) = false) :
    Calls Try.prog 50 #[.agg #[.int .i64 s, .int .i64 a], .int .i64 n] w fun e w' => e = .returned (.tuple #[.int .i64 0, .agg #[.int .i64 s, .int .i64 a]]) ∧ Below w.heap.size w w' := by
  cases hn : inB n 1 65536
  · clear hl
    go_enter Try.func50, Try.ntmps50
    go_wp2_with (first | (go_at_call 52; refine (within_any _ _ _ _).mono ?_; rintro e w' ⟨rfl, rfl⟩) | (go_at_call 49; refine (iTapeOk_any _ _ _).mono ?_; rintro e w' ⟨rfl, rfl⟩))
    go_region
    all_goals go_wp2
    all_goals exact bodyPost_ret (v := .tuple #[.int .i64 0, .agg #[.int .i64 s, .int .i64 a]]) (by simp [results, Try.results50, go_sem]) rfl ⟨rfl, (by (repeat (first | with_reducible exact Below.refl _ _ | (with_reducible refine bel_next ?_ ?_ (by assumption)) | (with_reducible refine Below.alloc ?_ ?_ _) | (with_reducible refine Below.drew ?_) | (with_reducible refine below_drewN ?_ _) | (with_reducible refine Below.setCell ?_ ?_ _))) <;> (first | omega | (simp; done) | (simp; omega)))⟩
  rw [hn, Bool.true_and] at hl
  · cases hok : tapeOk s a
    · go_enter Try.func50, Try.ntmps50
      go_wp2_with (first | (go_at_call 52; refine (within_any _ _ _ _).mono ?_; rintro e w' ⟨rfl, rfl⟩) | (go_at_call 49; refine (iTapeOk_any _ _ _).mono ?_; rintro e w' ⟨rfl, rfl⟩))
      go_region
      all_goals go_wp2
      all_goals exact bodyPost_ret (v := .tuple #[.int .i64 0, .agg #[.int .i64 s, .int .i64 a]]) (by simp [results, Try.results50, go_sem]) rfl ⟨rfl, (by (repeat (first | with_reducible exact Below.refl _ _ | (with_reducible refine bel_next ?_ ?_ (by assumption)) | (with_reducible refine Below.alloc ?_ ?_ _) | (with_reducible refine Below.drew ?_) | (with_reducible refine below_drewN ?_ _) | (with_reducible refine Below.setCell ?_ ?_ _))) <;> (first | omega | (simp; done) | (simp; omega)))⟩
    · have hm : (a == 1000000) = true := by simpa [tapeLive, hok] using hl
      have hm' : a = 1000000 := by simpa using hm
      clear hl hm
      subst hm'
      go_enter Try.func50, Try.ntmps50
      go_wp2_with (first | (go_at_call 52; refine (within_any _ _ _ _).mono ?_; rintro e w' ⟨rfl, rfl⟩) | (go_at_call 49; refine (iTapeOk_any _ _ _).mono ?_; rintro e w' ⟨rfl, rfl⟩))
      go_region
      all_goals go_wp2
      all_goals exact bodyPost_ret (v := .tuple #[.int .i64 0, .agg #[.int .i64 s, .int .i64 1000000]]) (by simp [results, Try.results50, go_sem]) rfl ⟨rfl, (by (repeat (first | with_reducible exact Below.refl _ _ | (with_reducible refine bel_next ?_ ?_ (by assumption)) | (with_reducible refine Below.alloc ?_ ?_ _) | (with_reducible refine Below.drew ?_) | (with_reducible refine below_drewN ?_ _) | (with_reducible refine Below.setCell ?_ ?_ _))) <;> (first | omega | (simp; done) | (simp; omega)))⟩
set_option maxHeartbeats 1000000 in
theorem iTapeBelow_yes (s a n : Int) (w : World) (hn : inB n 1 65536 = true) (hl : tapeLive s a = true) :
    Calls Try.prog 50 #[.agg #[.int .i64 s, .int .i64 a], .int .i64 n] w fun e w' => e = .returned (.tuple #[.int .i64 (keyedF s 7 a / 256 % n), .agg #[.int .i64 s, .int .i64 (a + 1)]]) ∧ Below w.heap.size w w' := by
  have HL := Lib.hid hl
  have h1 : tapeOk s a = true ∧ (a == 1000000) = false := by simpa [tapeLive] using hl
  obtain ⟨hok, hm⟩ := h1
  obtain ⟨n0, n1⟩ := inB_iff.1 hn
  obtain ⟨r0, r1⟩ := keyedF_range s 7 a
  clear hl
  go_enter Try.func50, Try.ntmps50
  go_wp2_with (first | (go_at_call 52; refine (within_any _ _ _ _).mono ?_; rintro e w' ⟨rfl, rfl⟩) | (go_at_call 49; refine (iTapeOk_any _ _ _).mono ?_; rintro e w' ⟨rfl, rfl⟩) | (go_at_call 67; refine (iTapeWord_yes _ _ _ HL.out).mono ?_; rintro e w1 ⟨rfl, hb1⟩; have z1 := hb1.size; (try simp at z1); have y1_0 : w.heap.size + 1 < w1.heap.size := (by omega); have k1_0 := bel_keeps hb1 (b := w.heap.size + 1) (o := 0) (v := .int .i64 0) (by go_simp); have k1_1 := bel_keeps hb1 (b := w.heap.size + 1) (o := 1) (v := .int .i64 0) (by go_simp); have f1_0 := bel_free hb1 (b := w.heap.size + 1) (o := 0) (by first | omega | (simp; done) | (simp; omega)) (by go_simp); have f1_1 := bel_free hb1 (b := w.heap.size + 1) (o := 1) (by first | omega | (simp; done) | (simp; omega)) (by go_simp)))
  go_region
  all_goals go_wp2_with fail
  all_goals exact bodyPost_ret (v := .tuple #[.int .i64 (keyedF s 7 a / 256 % n), .agg #[.int .i64 s, .int .i64 (a + 1)]]) (by simp [results, Try.results50, go_sem, k1_0, k1_1, y1_0]) rfl ⟨rfl, (by (repeat (first | with_reducible exact Below.refl _ _ | (with_reducible refine bel_next ?_ ?_ (by assumption)) | (with_reducible refine Below.alloc ?_ ?_ _) | (with_reducible refine Below.drew ?_) | (with_reducible refine below_drewN ?_ _) | (with_reducible refine Below.setCell ?_ ?_ _))) <;> (first | omega | (simp; done) | (simp; omega)))⟩
set_option maxHeartbeats 1000000 in
theorem iTapeFork_any (s a n : Int) (w : World) :
    Calls Try.prog 59 #[.agg #[.int .i64 s, .int .i64 a], .int .i64 n] w fun e w' => e = .returned (.agg #[.int .i64 (forkSeed s a n), .int .i64 0]) ∧ Below w.heap.size w w' := by
  unfold forkSeed
  cases h1 : tapeOk s a <;> cases h2 : inB n 0 1000000
  all_goals
    go_enter Try.func59, Try.ntmps59
    go_wp2_with (first | (go_at_call 49; refine (iTapeOk_any _ _ _).mono ?_; rintro e w' ⟨rfl, rfl⟩) | (go_at_call 52; refine (within_any _ _ _ _).mono ?_; rintro e w' ⟨rfl, rfl⟩) | (go_at_call 53; refine (iKeyed_any _ _ _ _).mono ?_; rintro e w' ⟨rfl, rfl⟩))
    exact bodyPost_ret (v := .agg #[.int .i64 _, .int .i64 0]) (by simp [results, Try.results59, go_sem]) rfl ⟨rfl, (by (repeat (first | with_reducible exact Below.refl _ _ | (with_reducible refine bel_next ?_ ?_ (by assumption)) | (with_reducible refine Below.alloc ?_ ?_ _) | (with_reducible refine Below.drew ?_) | (with_reducible refine below_drewN ?_ _) | (with_reducible refine Below.setCell ?_ ?_ _))) <;> (first | omega | (simp; done) | (simp; omega)))⟩
end Go.Proofs.Ytnipfbgmafknfaa
