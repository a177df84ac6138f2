/- A statement as text: the walk of the program's FormatStmt. -/
import Derived.Test.YtigefmobejclaaaDoorFmtB
namespace Go.Proofs.YtigefmobejclaaaDoor
open Go.RowKit
set_option linter.unusedVariables false
set_option linter.unusedSimpArgs false

theorem strV_word (k : Nat) (h : k < (strV opW).length) : (strV opW)[k] = .string (bA (wordB (k : Int))) := by
  have h' : k < opW.length := by simpa using h
  simp only [strV, List.getElem_map]
  congr 2
  unfold wordB
  rw [show ((k : Int)).toNat = k by omega, List.getD_eq_getElem?_getD, List.getElem?_eq_getElem h', Option.getD_some]
/-- A word of the table, read. -/
theorem LaidW.at {w : World} (h : LaidW w) : ∃ b off c, w.cell? ⟨0, 0, none⟩ = some (.slice (some ⟨b, off, none⟩) 14 c) ∧ ∀ k : Nat, k < 14 → w.cell? ⟨b, off + k, none⟩ = some (.string (bA (wordB (k : Int)))) := by
  obtain ⟨b, off, c, h1, h2⟩ := h.opw
  refine ⟨b, off, c, h1, fun k hk => ?_⟩
  rcases h2 with h0 | ⟨b', off', h3, h4⟩
  · simp [strV, opW] at h0
  · cases h3
    have hl : k < (strV opW).length := by simpa [opW] using hk
    rw [h4 k hl, strV_word k hl]

theorem iFormat_bad (s : St) (hok : stOk s = false) (w : World) :
    Calls Tryd.prog 10 #[stV s] w fun e w' => e = .returned (.tuple #[.string (bA []), .bool false]) ∧ Below w.heap.size w w' := by
  have HOK := Lib.hid hok
  clear hok
  have HS := Lib.hid (fun W => iStmtOk_any s W)
  obtain ⟨op, dst, a, b, c, n⟩ := s
  unfold stV at HS ⊢
  simp only at HS ⊢
  go_enter Tryd.func10, Tryd.ntmps10
  go_wp2_with (go_at_call 31; refine (HS.out _).mono ?_; rintro e w1 ⟨rfl, hb1⟩; rw [HOK.out])
  go_ret2
  exact ⟨rfl, (by (repeat (first | with_reducible exact Below.refl _ _ | (with_reducible refine bel_next ?_ ?_ (by assumption)) | (with_reducible refine Below.alloc ?_ ?_ _) | (with_reducible refine Below.drew ?_) | (with_reducible refine below_drewN ?_ _) | (with_reducible refine Below.setCell ?_ ?_ _))) <;> (first | omega | (simp; done) | (simp; omega)))⟩
theorem sFormat_bad (s : St) (hok : stOk s = false) (w : World) :
    Calls Tryd.prog 8 #[stV s] w fun e w' => e = .returned (.tuple #[.string (bA []), .bool false]) ∧ Below w.heap.size w w' := by
  have HOK := Lib.hid hok
  clear hok
  have HS := Lib.hid (fun W => sStmtOk_any s W)
  obtain ⟨op, dst, a, b, c, n⟩ := s
  unfold stV at HS ⊢
  simp only at HS ⊢
  go_enter Tryd.func8, Tryd.ntmps8
  go_wp2_with (go_at_call 27; refine (HS.out _).mono ?_; rintro e w1 ⟨rfl, hb1⟩; rw [HOK.out])
  go_ret2
  exact ⟨rfl, (by (repeat (first | with_reducible exact Below.refl _ _ | (with_reducible refine bel_next ?_ ?_ (by assumption)) | (with_reducible refine Below.alloc ?_ ?_ _) | (with_reducible refine Below.drew ?_) | (with_reducible refine below_drewN ?_ _) | (with_reducible refine Below.setCell ?_ ?_ _))) <;> (first | omega | (simp; done) | (simp; omega)))⟩

set_option maxHeartbeats 8000000 in
theorem iFormat_const (dst : Int) (n : Int) (hok : stOk ⟨1, dst, 0, 0, 0, n⟩ = true) (hdst0 : 0 ≤ dst) (hdst1 : dst < 16) (hn0 : 0 ≤ n) (hn1 : n < 16) (w : World) (hw : LaidW w) :
    Calls Tryd.prog 10 #[stV ⟨1, dst, 0, 0, 0, n⟩] w fun e w' => e = .returned (.tuple #[.string (bA (fmtS ⟨1, dst, 0, 0, 0, n⟩)), .bool true]) ∧ Below w.heap.size w w' := by
  have HOK := Lib.hid hok
  have hl_dst : (dig dst).length ≤ 10 := dig_len (by omega)
  have hl_n : (dig n).length ≤ 10 := dig_len (by omega)
  have hlw := wordB_len 1
  have hf : bA (fmtS ⟨1, dst, 0, 0, 0, n⟩) = bA (wordB 1) ++ bA [32, 114] ++ bA (dig dst) ++ bA [32] ++ bA (dig n) := by
    rw [← bA_append, ← bA_append, ← bA_append, ← bA_append]; congr 1
    show wordB 1 ++ (argsF ⟨1, dst, 0, 0, 0, n⟩).flatMap (fun x => 32 :: x) = _
    rw [args_op1 (s := ⟨1, dst, 0, 0, 0, n⟩) rfl]; simp
  rw [hf]
  clear hf hok
  obtain ⟨ob, oo, oc, ho, hcw⟩ := hw.at
  have g0 := hcw 1 (by omega)
  clear hcw
  have HB : Hid (inB 1 3 9 = false) := Lib.hid (by decide)
  have hlo := lt_of_cell ho
  have hlg := lt_of_cell g0
  simp only at hlo hlg
  unfold stV
  go_enter Tryd.func10, Tryd.ntmps10
  go_wp2_with (first | (go_at_call 31; refine (iStmtOk_any ⟨1, dst, 0, 0, 0, n⟩ _).mono ?_; rintro e w1 ⟨rfl, hb1⟩; rw [HOK.out]; have z1 := hb1.size; (try simp at z1); have y1_0 : w.heap.size < w1.heap.size := (by omega); have k1_0 := bel_keeps hb1 (b := w.heap.size) (o := 0) (v := .int .i64 1) (by go_simp); have k1_1 := bel_keeps hb1 (b := w.heap.size) (o := 1) (v := .int .i64 dst) (by go_simp); have k1_2 := bel_keeps hb1 (b := w.heap.size) (o := 5) (v := .int .i64 n) (by go_simp); have p1 := bel_keeps hb1 (b := 0) (o := 0) (v := .slice (some ⟨ob, oo, none⟩) 14 oc) (by go_simp); have g1 := bel_keeps hb1 (b := ob) (o := oo + 1) (v := .string (bA (wordB 1))) (by go_simp)) | (go_at_call 32; refine (isBinary_any _ _).mono ?_; rintro e w' ⟨rfl, rfl⟩; rw [HB.out]))
  refine wp_loop_rounds 2 ?_
  rw [rounds_succ]
  go_wp2_with (go_at_call 33; refine (iFormatInt_small dst (by omega) (by omega) _).mono ?_; rintro e w' ⟨rfl, rfl⟩)
  rw [rounds_succ]
  go_wp2_with (go_at_call 33; refine (iFormatInt_small n (by omega) (by omega) _).mono ?_; rintro e w' ⟨rfl, rfl⟩)
  go_ret2
  exact ⟨rfl, (by (repeat (first | with_reducible exact Below.refl _ _ | (with_reducible refine bel_next ?_ ?_ (by assumption)) | (with_reducible refine Below.alloc ?_ ?_ _) | (with_reducible refine Below.drew ?_) | (with_reducible refine below_drewN ?_ _) | (with_reducible refine Below.setCell ?_ ?_ _))) <;> (first | omega | (simp; done) | (simp; omega)))⟩

set_option maxHeartbeats 8000000 in
theorem iFormat_input (dst : Int) (a : Int) (n : Int) (hok : stOk ⟨2, dst, a, 0, 0, n⟩ = true) (hdst0 : 0 ≤ dst) (hdst1 : dst < 16) (ha0 : 0 ≤ a) (ha1 : a < 16) (hn0 : 0 ≤ n) (hn1 : n < 16) (w : World) (hw : LaidW w) :
    Calls Tryd.prog 10 #[stV ⟨2, dst, a, 0, 0, n⟩] w fun e w' => e = .returned (.tuple #[.string (bA (fmtS ⟨2, dst, a, 0, 0, n⟩)), .bool true]) ∧ Below w.heap.size w w' := by
  have HOK := Lib.hid hok
  have hl_dst : (dig dst).length ≤ 10 := dig_len (by omega)
  have hl_a : (dig a).length ≤ 10 := dig_len (by omega)
  have hl_n : (dig n).length ≤ 10 := dig_len (by omega)
  have hlw := wordB_len 2
  have hf : bA (fmtS ⟨2, dst, a, 0, 0, n⟩) = bA (wordB 2) ++ bA [32, 114] ++ bA (dig dst) ++ bA [32, 112] ++ bA (dig a) ++ bA [32] ++ bA (dig n) := by
    rw [← bA_append, ← bA_append, ← bA_append, ← bA_append, ← bA_append, ← bA_append]; congr 1
    show wordB 2 ++ (argsF ⟨2, dst, a, 0, 0, n⟩).flatMap (fun x => 32 :: x) = _
    rw [args_op2 (s := ⟨2, dst, a, 0, 0, n⟩) rfl]; simp
  rw [hf]
  clear hf hok
  obtain ⟨ob, oo, oc, ho, hcw⟩ := hw.at
  have g0 := hcw 2 (by omega)
  clear hcw
  have HB : Hid (inB 2 3 9 = false) := Lib.hid (by decide)
  have hlo := lt_of_cell ho
  have hlg := lt_of_cell g0
  simp only at hlo hlg
  unfold stV
  go_enter Tryd.func10, Tryd.ntmps10
  go_wp2_with (first | (go_at_call 31; refine (iStmtOk_any ⟨2, dst, a, 0, 0, n⟩ _).mono ?_; rintro e w1 ⟨rfl, hb1⟩; rw [HOK.out]; have z1 := hb1.size; (try simp at z1); have y1_0 : w.heap.size < w1.heap.size := (by omega); have k1_0 := bel_keeps hb1 (b := w.heap.size) (o := 0) (v := .int .i64 2) (by go_simp); have k1_1 := bel_keeps hb1 (b := w.heap.size) (o := 1) (v := .int .i64 dst) (by go_simp); have k1_2 := bel_keeps hb1 (b := w.heap.size) (o := 2) (v := .int .i64 a) (by go_simp); have k1_3 := bel_keeps hb1 (b := w.heap.size) (o := 5) (v := .int .i64 n) (by go_simp); have p1 := bel_keeps hb1 (b := 0) (o := 0) (v := .slice (some ⟨ob, oo, none⟩) 14 oc) (by go_simp); have g1 := bel_keeps hb1 (b := ob) (o := oo + 2) (v := .string (bA (wordB 2))) (by go_simp)) | (go_at_call 32; refine (isBinary_any _ _).mono ?_; rintro e w' ⟨rfl, rfl⟩; rw [HB.out]))
  refine wp_loop_rounds 2 ?_
  rw [rounds_succ]
  go_wp2_with (go_at_call 33; refine (iFormatInt_small dst (by omega) (by omega) _).mono ?_; rintro e w' ⟨rfl, rfl⟩)
  rw [rounds_succ]
  go_wp2_with fail
  refine (iFormatInt_small a (by omega) (by omega) _).mono ?_; rintro e w' ⟨rfl, rfl⟩
  go_wp2_with fail
  refine (iFormatInt_small n (by omega) (by omega) _).mono ?_; rintro e w' ⟨rfl, rfl⟩
  go_wp2_with fail
  go_ret2
  exact ⟨rfl, (by (repeat (first | with_reducible exact Below.refl _ _ | (with_reducible refine bel_next ?_ ?_ (by assumption)) | (with_reducible refine Below.alloc ?_ ?_ _) | (with_reducible refine Below.drew ?_) | (with_reducible refine below_drewN ?_ _) | (with_reducible refine Below.setCell ?_ ?_ _))) <;> (first | omega | (simp; done) | (simp; omega)))⟩

set_option maxHeartbeats 8000000 in
theorem iFormat_bin (k : Nat) (dst : Int) (a : Int) (b : Int) (hok : stOk ⟨(k : Int), dst, a, b, 0, 0⟩ = true) (hdst0 : 0 ≤ dst) (hdst1 : dst < 16) (ha0 : 0 ≤ a) (ha1 : a < 16) (hb0 : 0 ≤ b) (hb1 : b < 16) (hop0 : 3 ≤ k) (hop1 : k ≤ 9) (w : World) (hw : LaidW w) :
    Calls Tryd.prog 10 #[stV ⟨(k : Int), dst, a, b, 0, 0⟩] w fun e w' => e = .returned (.tuple #[.string (bA (fmtS ⟨(k : Int), dst, a, b, 0, 0⟩)), .bool true]) ∧ Below w.heap.size w w' := by
  have HOK := Lib.hid hok
  have hl_dst : (dig dst).length ≤ 10 := dig_len (by omega)
  have hl_a : (dig a).length ≤ 10 := dig_len (by omega)
  have hl_b : (dig b).length ≤ 10 := dig_len (by omega)
  have hlw := wordB_len (k : Int)
  have hf : bA (fmtS ⟨(k : Int), dst, a, b, 0, 0⟩) = bA (wordB (k : Int)) ++ bA [32, 114] ++ bA (dig dst) ++ bA [32, 114] ++ bA (dig a) ++ bA [32, 114] ++ bA (dig b) := by
    rw [← bA_append, ← bA_append, ← bA_append, ← bA_append, ← bA_append, ← bA_append]; congr 1
    show wordB (k : Int) ++ (argsF ⟨(k : Int), dst, a, b, 0, 0⟩).flatMap (fun x => 32 :: x) = _
    rw [args_op39 (s := ⟨(k : Int), dst, a, b, 0, 0⟩) (show (3 : Int) ≤ (k : Int) by omega) (show (k : Int) ≤ 9 by omega)]; simp
  rw [hf]
  clear hf hok
  obtain ⟨ob, oo, oc, ho, hcw⟩ := hw.at
  have g0 := hcw k (by omega)
  clear hcw
  have q1 : ((k : Int) == 1) = false := by simp; omega
  have q2 : ((k : Int) == 2) = false := by simp; omega
  have q10 : ((k : Int) == 10) = false := by simp; omega
  have q11 : ((k : Int) == 11) = false := by simp; omega
  have q12 : ((k : Int) == 12) = false := by simp; omega
  have HB : Hid (inB (k : Int) 3 9 = true) := Lib.hid (inB_iff.2 ⟨by omega, by omega⟩)
  have hlo := lt_of_cell ho
  have hlg := lt_of_cell g0
  simp only at hlo hlg
  unfold stV
  go_enter Tryd.func10, Tryd.ntmps10
  go_wp2_with (first | (go_at_call 31; refine (iStmtOk_any ⟨(k : Int), dst, a, b, 0, 0⟩ _).mono ?_; rintro e w1 ⟨rfl, hb1⟩; rw [HOK.out]; have z1 := hb1.size; (try simp at z1); have y1_0 : w.heap.size < w1.heap.size := (by omega); have k1_0 := bel_keeps hb1 (b := w.heap.size) (o := 0) (v := .int .i64 (k : Int)) (by go_simp); have k1_1 := bel_keeps hb1 (b := w.heap.size) (o := 1) (v := .int .i64 dst) (by go_simp); have k1_2 := bel_keeps hb1 (b := w.heap.size) (o := 2) (v := .int .i64 a) (by go_simp); have k1_3 := bel_keeps hb1 (b := w.heap.size) (o := 3) (v := .int .i64 b) (by go_simp); have p1 := bel_keeps hb1 (b := 0) (o := 0) (v := .slice (some ⟨ob, oo, none⟩) 14 oc) (by go_simp); have g1 := bel_keeps hb1 (b := ob) (o := oo + k) (v := .string (bA (wordB (k : Int)))) (by go_simp)) | (go_at_call 32; refine (isBinary_any _ _).mono ?_; rintro e w' ⟨rfl, rfl⟩; rw [HB.out]))
  refine wp_loop_rounds 4 ?_
  rw [rounds_succ]
  go_wp2_with (go_at_call 33; refine (iFormatInt_small dst (by omega) (by omega) _).mono ?_; rintro e w' ⟨rfl, rfl⟩)
  rw [rounds_succ]
  go_wp2_with (go_at_call 33; refine (iFormatInt_small a (by omega) (by omega) _).mono ?_; rintro e w' ⟨rfl, rfl⟩)
  rw [rounds_succ]
  go_wp2_with (go_at_call 33; refine (iFormatInt_small b (by omega) (by omega) _).mono ?_; rintro e w' ⟨rfl, rfl⟩)
  rw [rounds_succ]
  go_wp2_with fail
  go_ret2
  exact ⟨rfl, (by (repeat (first | with_reducible exact Below.refl _ _ | (with_reducible refine bel_next ?_ ?_ (by assumption)) | (with_reducible refine Below.alloc ?_ ?_ _) | (with_reducible refine Below.drew ?_) | (with_reducible refine below_drewN ?_ _) | (with_reducible refine Below.setCell ?_ ?_ _))) <;> (first | omega | (simp; done) | (simp; omega)))⟩

set_option maxHeartbeats 8000000 in
theorem iFormat_mux (dst : Int) (a : Int) (b : Int) (c : Int) (hok : stOk ⟨10, dst, a, b, c, 0⟩ = true) (hdst0 : 0 ≤ dst) (hdst1 : dst < 16) (ha0 : 0 ≤ a) (ha1 : a < 16) (hb0 : 0 ≤ b) (hb1 : b < 16) (hc0 : 0 ≤ c) (hc1 : c < 16) (w : World) (hw : LaidW w) :
    Calls Tryd.prog 10 #[stV ⟨10, dst, a, b, c, 0⟩] w fun e w' => e = .returned (.tuple #[.string (bA (fmtS ⟨10, dst, a, b, c, 0⟩)), .bool true]) ∧ Below w.heap.size w w' := by
  have HOK := Lib.hid hok
  have hl_dst : (dig dst).length ≤ 10 := dig_len (by omega)
  have hl_a : (dig a).length ≤ 10 := dig_len (by omega)
  have hl_b : (dig b).length ≤ 10 := dig_len (by omega)
  have hl_c : (dig c).length ≤ 10 := dig_len (by omega)
  have hlw := wordB_len 10
  have hf : bA (fmtS ⟨10, dst, a, b, c, 0⟩) = bA (wordB 10) ++ bA [32, 114] ++ bA (dig dst) ++ bA [32, 114] ++ bA (dig a) ++ bA [32, 114] ++ bA (dig b) ++ bA [32, 114] ++ bA (dig c) := by
    rw [← bA_append, ← bA_append, ← bA_append, ← bA_append, ← bA_append, ← bA_append, ← bA_append, ← bA_append]; congr 1
    show wordB 10 ++ (argsF ⟨10, dst, a, b, c, 0⟩).flatMap (fun x => 32 :: x) = _
    rw [args_op10 (s := ⟨10, dst, a, b, c, 0⟩) rfl]; simp
  rw [hf]
  clear hf hok
  obtain ⟨ob, oo, oc, ho, hcw⟩ := hw.at
  have g0 := hcw 10 (by omega)
  clear hcw
  have HB : Hid (inB 10 3 9 = false) := Lib.hid (by decide)
  have hlo := lt_of_cell ho
  have hlg := lt_of_cell g0
  simp only at hlo hlg
  unfold stV
  go_enter Tryd.func10, Tryd.ntmps10
  go_wp2_with (first | (go_at_call 31; refine (iStmtOk_any ⟨10, dst, a, b, c, 0⟩ _).mono ?_; rintro e w1 ⟨rfl, hb1⟩; rw [HOK.out]; have z1 := hb1.size; (try simp at z1); have y1_0 : w.heap.size < w1.heap.size := (by omega); have k1_0 := bel_keeps hb1 (b := w.heap.size) (o := 0) (v := .int .i64 10) (by go_simp); have k1_1 := bel_keeps hb1 (b := w.heap.size) (o := 1) (v := .int .i64 dst) (by go_simp); have k1_2 := bel_keeps hb1 (b := w.heap.size) (o := 2) (v := .int .i64 a) (by go_simp); have k1_3 := bel_keeps hb1 (b := w.heap.size) (o := 3) (v := .int .i64 b) (by go_simp); have k1_4 := bel_keeps hb1 (b := w.heap.size) (o := 4) (v := .int .i64 c) (by go_simp); have p1 := bel_keeps hb1 (b := 0) (o := 0) (v := .slice (some ⟨ob, oo, none⟩) 14 oc) (by go_simp); have g1 := bel_keeps hb1 (b := ob) (o := oo + 10) (v := .string (bA (wordB 10))) (by go_simp)) | (go_at_call 32; refine (isBinary_any _ _).mono ?_; rintro e w' ⟨rfl, rfl⟩; rw [HB.out]))
  refine wp_loop_rounds 5 ?_
  rw [rounds_succ]
  go_wp2_with (go_at_call 33; refine (iFormatInt_small dst (by omega) (by omega) _).mono ?_; rintro e w' ⟨rfl, rfl⟩)
  rw [rounds_succ]
  go_wp2_with (go_at_call 33; refine (iFormatInt_small a (by omega) (by omega) _).mono ?_; rintro e w' ⟨rfl, rfl⟩)
  rw [rounds_succ]
  go_wp2_with (go_at_call 33; refine (iFormatInt_small b (by omega) (by omega) _).mono ?_; rintro e w' ⟨rfl, rfl⟩)
  rw [rounds_succ]
  go_wp2_with (go_at_call 33; refine (iFormatInt_small c (by omega) (by omega) _).mono ?_; rintro e w' ⟨rfl, rfl⟩)
  rw [rounds_succ]
  go_wp2_with fail
  go_ret2
  exact ⟨rfl, (by (repeat (first | with_reducible exact Below.refl _ _ | (with_reducible refine bel_next ?_ ?_ (by assumption)) | (with_reducible refine Below.alloc ?_ ?_ _) | (with_reducible refine Below.drew ?_) | (with_reducible refine below_drewN ?_ _) | (with_reducible refine Below.setCell ?_ ?_ _))) <;> (first | omega | (simp; done) | (simp; omega)))⟩

set_option maxHeartbeats 8000000 in
theorem iFormat_out (a : Int) (hok : stOk ⟨11, 0, a, 0, 0, 0⟩ = true) (ha0 : 0 ≤ a) (ha1 : a < 16) (w : World) (hw : LaidW w) :
    Calls Tryd.prog 10 #[stV ⟨11, 0, a, 0, 0, 0⟩] w fun e w' => e = .returned (.tuple #[.string (bA (fmtS ⟨11, 0, a, 0, 0, 0⟩)), .bool true]) ∧ Below w.heap.size w w' := by
  have HOK := Lib.hid hok
  have hl_a : (dig a).length ≤ 10 := dig_len (by omega)
  have hlw := wordB_len 11
  have hf : bA (fmtS ⟨11, 0, a, 0, 0, 0⟩) = bA (wordB 11) ++ bA [32, 114] ++ bA (dig a) := by
    rw [← bA_append, ← bA_append]; congr 1
    show wordB 11 ++ (argsF ⟨11, 0, a, 0, 0, 0⟩).flatMap (fun x => 32 :: x) = _
    rw [args_op11 (s := ⟨11, 0, a, 0, 0, 0⟩) rfl]; simp
  rw [hf]
  clear hf hok
  obtain ⟨ob, oo, oc, ho, hcw⟩ := hw.at
  have g0 := hcw 11 (by omega)
  clear hcw
  have HB : Hid (inB 11 3 9 = false) := Lib.hid (by decide)
  have hlo := lt_of_cell ho
  have hlg := lt_of_cell g0
  simp only at hlo hlg
  unfold stV
  go_enter Tryd.func10, Tryd.ntmps10
  go_wp2_with (first | (go_at_call 31; refine (iStmtOk_any ⟨11, 0, a, 0, 0, 0⟩ _).mono ?_; rintro e w1 ⟨rfl, hb1⟩; rw [HOK.out]; have z1 := hb1.size; (try simp at z1); have y1_0 : w.heap.size < w1.heap.size := (by omega); have k1_0 := bel_keeps hb1 (b := w.heap.size) (o := 0) (v := .int .i64 11) (by go_simp); have k1_1 := bel_keeps hb1 (b := w.heap.size) (o := 2) (v := .int .i64 a) (by go_simp); have p1 := bel_keeps hb1 (b := 0) (o := 0) (v := .slice (some ⟨ob, oo, none⟩) 14 oc) (by go_simp); have g1 := bel_keeps hb1 (b := ob) (o := oo + 11) (v := .string (bA (wordB 11))) (by go_simp)) | (go_at_call 32; refine (isBinary_any _ _).mono ?_; rintro e w' ⟨rfl, rfl⟩; rw [HB.out]))
  refine wp_loop_rounds 2 ?_
  rw [rounds_succ]
  go_wp2_with (go_at_call 33; refine (iFormatInt_small a (by omega) (by omega) _).mono ?_; rintro e w' ⟨rfl, rfl⟩)
  rw [rounds_succ]
  go_wp2_with fail
  go_ret2
  exact ⟨rfl, (by (repeat (first | with_reducible exact Below.refl _ _ | (with_reducible refine bel_next ?_ ?_ (by assumption)) | (with_reducible refine Below.alloc ?_ ?_ _) | (with_reducible refine Below.drew ?_) | (with_reducible refine below_drewN ?_ _) | (with_reducible refine Below.setCell ?_ ?_ _))) <;> (first | omega | (simp; done) | (simp; omega)))⟩

set_option maxHeartbeats 8000000 in
theorem iFormat_loop (n : Int) (hok : stOk ⟨12, 0, 0, 0, 0, n⟩ = true) (hn0 : 0 ≤ n) (hn1 : n < 16) (w : World) (hw : LaidW w) :
    Calls Tryd.prog 10 #[stV ⟨12, 0, 0, 0, 0, n⟩] w fun e w' => e = .returned (.tuple #[.string (bA (fmtS ⟨12, 0, 0, 0, 0, n⟩)), .bool true]) ∧ Below w.heap.size w w' := by
  have HOK := Lib.hid hok
  have hl_n : (dig n).length ≤ 10 := dig_len (by omega)
  have hlw := wordB_len 12
  have hf : bA (fmtS ⟨12, 0, 0, 0, 0, n⟩) = bA (wordB 12) ++ bA [32] ++ bA (dig n) := by
    rw [← bA_append, ← bA_append]; congr 1
    show wordB 12 ++ (argsF ⟨12, 0, 0, 0, 0, n⟩).flatMap (fun x => 32 :: x) = _
    rw [args_op12 (s := ⟨12, 0, 0, 0, 0, n⟩) rfl]; simp
  rw [hf]
  clear hf hok
  obtain ⟨ob, oo, oc, ho, hcw⟩ := hw.at
  have g0 := hcw 12 (by omega)
  clear hcw
  have HB : Hid (inB 12 3 9 = false) := Lib.hid (by decide)
  have hlo := lt_of_cell ho
  have hlg := lt_of_cell g0
  simp only at hlo hlg
  unfold stV
  go_enter Tryd.func10, Tryd.ntmps10
  go_wp2_with (first | (go_at_call 31; refine (iStmtOk_any ⟨12, 0, 0, 0, 0, n⟩ _).mono ?_; rintro e w1 ⟨rfl, hb1⟩; rw [HOK.out]; have z1 := hb1.size; (try simp at z1); have y1_0 : w.heap.size < w1.heap.size := (by omega); have k1_0 := bel_keeps hb1 (b := w.heap.size) (o := 0) (v := .int .i64 12) (by go_simp); have k1_1 := bel_keeps hb1 (b := w.heap.size) (o := 5) (v := .int .i64 n) (by go_simp); have p1 := bel_keeps hb1 (b := 0) (o := 0) (v := .slice (some ⟨ob, oo, none⟩) 14 oc) (by go_simp); have g1 := bel_keeps hb1 (b := ob) (o := oo + 12) (v := .string (bA (wordB 12))) (by go_simp)) | (go_at_call 32; refine (isBinary_any _ _).mono ?_; rintro e w' ⟨rfl, rfl⟩; rw [HB.out]))
  refine wp_loop_rounds 1 ?_
  rw [rounds_succ]
  go_wp2_with (go_at_call 33; refine (iFormatInt_small n (by omega) (by omega) _).mono ?_; rintro e w' ⟨rfl, rfl⟩)
  go_ret2
  exact ⟨rfl, (by (repeat (first | with_reducible exact Below.refl _ _ | (with_reducible refine bel_next ?_ ?_ (by assumption)) | (with_reducible refine Below.alloc ?_ ?_ _) | (with_reducible refine Below.drew ?_) | (with_reducible refine below_drewN ?_ _) | (with_reducible refine Below.setCell ?_ ?_ _))) <;> (first | omega | (simp; done) | (simp; omega)))⟩

set_option maxHeartbeats 8000000 in
theorem iFormat_end (hok : stOk ⟨13, 0, 0, 0, 0, 0⟩ = true) (w : World) (hw : LaidW w) :
    Calls Tryd.prog 10 #[stV ⟨13, 0, 0, 0, 0, 0⟩] w fun e w' => e = .returned (.tuple #[.string (bA (fmtS ⟨13, 0, 0, 0, 0, 0⟩)), .bool true]) ∧ Below w.heap.size w w' := by
  have HOK := Lib.hid hok
  have hlw := wordB_len 13
  have hf : bA (fmtS ⟨13, 0, 0, 0, 0, 0⟩) = bA (wordB 13) := by
    unfold fmtS; rw [args_op13 (s := ⟨13, 0, 0, 0, 0, 0⟩) rfl]; simp
  rw [hf]
  clear hf hok
  obtain ⟨ob, oo, oc, ho, hcw⟩ := hw.at
  have g0 := hcw 13 (by omega)
  clear hcw
  have HB : Hid (inB 13 3 9 = false) := Lib.hid (by decide)
  have hlo := lt_of_cell ho
  have hlg := lt_of_cell g0
  simp only at hlo hlg
  unfold stV
  go_enter Tryd.func10, Tryd.ntmps10
  go_wp2_with (first | (go_at_call 31; refine (iStmtOk_any ⟨13, 0, 0, 0, 0, 0⟩ _).mono ?_; rintro e w1 ⟨rfl, hb1⟩; rw [HOK.out]; have z1 := hb1.size; (try simp at z1); have y1_0 : w.heap.size < w1.heap.size := (by omega); have k1_0 := bel_keeps hb1 (b := w.heap.size) (o := 0) (v := .int .i64 13) (by go_simp); have p1 := bel_keeps hb1 (b := 0) (o := 0) (v := .slice (some ⟨ob, oo, none⟩) 14 oc) (by go_simp); have g1 := bel_keeps hb1 (b := ob) (o := oo + 13) (v := .string (bA (wordB 13))) (by go_simp)) | (go_at_call 32; refine (isBinary_any _ _).mono ?_; rintro e w' ⟨rfl, rfl⟩; rw [HB.out]))
  refine wp_loop_rounds 1 ?_
  rw [rounds_succ]
  go_wp2_with fail
  go_ret2
  exact ⟨rfl, (by (repeat (first | with_reducible exact Below.refl _ _ | (with_reducible refine bel_next ?_ ?_ (by assumption)) | (with_reducible refine Below.alloc ?_ ?_ _) | (with_reducible refine Below.drew ?_) | (with_reducible refine below_drewN ?_ _) | (with_reducible refine Below.setCell ?_ ?_ _))) <;> (first | omega | (simp; done) | (simp; omega)))⟩
end Go.Proofs.YtigefmobejclaaaDoor
