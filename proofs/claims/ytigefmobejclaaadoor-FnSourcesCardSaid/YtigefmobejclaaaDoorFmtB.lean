/- A statement as text: the walk of the reference's FormatStmt. -/
import Derived.Test.YtigefmobejclaaaDoorFmtA
import Derived.Test.YtigefmobejclaaaDoorQuiet
namespace Go.Proofs.YtigefmobejclaaaDoor
open Go.RowKit
set_option linter.unusedVariables false
set_option linter.unusedSimpArgs false

set_option maxHeartbeats 4000000 in
theorem l09Word_any (op : Int) (h0 : 0 ≤ op) (h1 : op ≤ 13) (w : World) :
    Calls Tryd.prog 28 #[.int .i64 op] w fun e w' => e = .returned (.string (bA (wordB op))) ∧ Below w.heap.size w w' := by
  have : op = 0 ∨ op = 1 ∨ op = 2 ∨ op = 3 ∨ op = 4 ∨ op = 5 ∨ op = 6 ∨ op = 7 ∨ op = 8 ∨ op = 9 ∨ op = 10 ∨ op = 11 ∨ op = 12 ∨ op = 13 := by omega
  rcases this with rfl | rfl | rfl | rfl | rfl | rfl | rfl | rfl | rfl | rfl | rfl | rfl | rfl | rfl
  all_goals
    go_enter Tryd.func28, Tryd.ntmps28
    go_wp2
    go_ret
    exact ⟨rfl, (Below.refl _ _).alloc (Nat.le_refl _) _⟩

theorem l09Reg_any (x : Int) (h0 : 0 ≤ x) (h1 : x ≤ 1000000000) (w : World) :
    Calls Tryd.prog 29 #[.int .i64 x] w fun e w' => e = .returned (.string (bA (32 :: 114 :: dig x))) ∧ Below w.heap.size w w' := by
  have hl := dig_len h1
  have hc : (bA [32, 114] ++ bA (dig x)) = bA (32 :: 114 :: dig x) := (bA_append [32, 114] (dig x)).symm
  rw [← hc]
  clear hc
  go_enter Tryd.func29, Tryd.ntmps29
  go_wp2_with (go_at_call 30; refine (sFormatInt_any x h0 h1 _).mono ?_; rintro e w' ⟨rfl, hb⟩)
  go_ret
  exact ⟨rfl, hb⟩

theorem wordB_len (op : Int) : (wordB op).length ≤ 5 := by
  unfold wordB
  by_cases h : op.toNat < opW.length
  · rw [List.getD_eq_getElem?_getD, List.getElem?_eq_getElem h, Option.getD_some]
    have key : ∀ y ∈ opW, y.length ≤ 5 := by decide
    exact key _ (List.getElem_mem h)
  · rw [List.getD_eq_getElem?_getD, List.getElem?_eq_none (by omega)]; simp

set_option maxHeartbeats 4000000 in
theorem sFormat_const (dst : Int) (n : Int) (hok : stOk ⟨1, dst, 0, 0, 0, n⟩ = true) (hdst0 : 0 ≤ dst) (hdst1 : dst < 16) (hn0 : 0 ≤ n) (hn1 : n < 16) (w : World) :
    Calls Tryd.prog 8 #[stV ⟨1, dst, 0, 0, 0, n⟩] w fun e w' => e = .returned (.tuple #[.string (bA (fmtS ⟨1, dst, 0, 0, 0, n⟩)), .bool true]) ∧ Below w.heap.size w w' := by
  have HOK := Lib.hid hok
  have hl_dst : (dig dst).length ≤ 10 := dig_len (by omega)
  have hl_n : (dig n).length ≤ 10 := dig_len (by omega)
  have hlw := wordB_len 1
  have hf : bA (fmtS ⟨1, dst, 0, 0, 0, n⟩) = bA (wordB 1) ++ bA (32 :: 114 :: dig dst) ++ bA [32] ++ bA (dig n) := by
    rw [← bA_append, ← bA_append, ← bA_append]; congr 1
    show wordB 1 ++ (argsF ⟨1, dst, 0, 0, 0, n⟩).flatMap (fun x => 32 :: x) = _
    rw [args_op1 (s := ⟨1, dst, 0, 0, 0, n⟩) rfl]; simp
  rw [hf]
  clear hf hok
  unfold stV
  go_enter Tryd.func8, Tryd.ntmps8
  go_wp2_with (first | (go_at_call 27; refine (sStmtOk_any ⟨1, dst, 0, 0, 0, n⟩ _).mono ?_; rintro e w1 ⟨rfl, hb1⟩; rw [HOK.out]; have z1 := hb1.size; (try simp at z1); have y1_0 : w.heap.size < w1.heap.size := (by omega); have k1_0 := bel_keeps hb1 (b := w.heap.size) (o := 0) (v := .int .i64 1) (by go_simp); have k1_1 := bel_keeps hb1 (b := w.heap.size) (o := 1) (v := .int .i64 dst) (by go_simp); have k1_2 := bel_keeps hb1 (b := w.heap.size) (o := 5) (v := .int .i64 n) (by go_simp)) | (go_at_call 28; refine (l09Word_any 1 (by omega) (by omega) _).mono ?_; rintro e w2 ⟨rfl, hb2⟩; have z2 := hb2.size; (try simp at z2); have y2_0 : w.heap.size < w2.heap.size := (by omega); have k2_0 := bel_keeps hb2 (b := w.heap.size) (o := 0) (v := .int .i64 1) (by go_simp); have k2_1 := bel_keeps hb2 (b := w.heap.size) (o := 1) (v := .int .i64 dst) (by go_simp); have k2_2 := bel_keeps hb2 (b := w.heap.size) (o := 5) (v := .int .i64 n) (by go_simp)))
  refine wp_region_bel (by kernel_rfl) (by kernel_rfl) ?_
  have c0 := in_cell k2_1
  have c1 := in_cell k2_2
  repeat (go_big_quiet_step (first | (go_at_call 29; exact Calls.inb (l09Reg_any _ (by omega) (by omega) _)) | (go_at_call 30; exact Calls.inb (sFormatInt_any _ (by omega) (by omega) _))))
  refine wpQuiet_nil ?_
  rintro _ ⟨x, rfl⟩
  have hx : Below w2.heap.size w2 x.w := x.ok
  go_wp2_with fail
  go_ret2
  exact ⟨rfl, (by (repeat (first | with_reducible exact Below.refl _ _ | (with_reducible refine bel_next ?_ ?_ (by assumption)) | (with_reducible refine Below.alloc ?_ ?_ _) | (with_reducible refine Below.drew ?_) | (with_reducible refine below_drewN ?_ _) | (with_reducible refine Below.setCell ?_ ?_ _))) <;> (first | omega | (simp; done) | (simp; omega)))⟩

set_option maxHeartbeats 4000000 in
theorem sFormat_input (dst : Int) (a : Int) (n : Int) (hok : stOk ⟨2, dst, a, 0, 0, n⟩ = true) (hdst0 : 0 ≤ dst) (hdst1 : dst < 16) (ha0 : 0 ≤ a) (ha1 : a < 16) (hn0 : 0 ≤ n) (hn1 : n < 16) (w : World) :
    Calls Tryd.prog 8 #[stV ⟨2, dst, a, 0, 0, n⟩] w fun e w' => e = .returned (.tuple #[.string (bA (fmtS ⟨2, dst, a, 0, 0, n⟩)), .bool true]) ∧ Below w.heap.size w w' := by
  have HOK := Lib.hid hok
  have hl_dst : (dig dst).length ≤ 10 := dig_len (by omega)
  have hl_a : (dig a).length ≤ 10 := dig_len (by omega)
  have hl_n : (dig n).length ≤ 10 := dig_len (by omega)
  have hlw := wordB_len 2
  have hf : bA (fmtS ⟨2, dst, a, 0, 0, n⟩) = bA (wordB 2) ++ bA (32 :: 114 :: dig dst) ++ bA [32, 112] ++ bA (dig a) ++ bA [32] ++ bA (dig n) := by
    rw [← bA_append, ← bA_append, ← bA_append, ← bA_append, ← bA_append]; congr 1
    show wordB 2 ++ (argsF ⟨2, dst, a, 0, 0, n⟩).flatMap (fun x => 32 :: x) = _
    rw [args_op2 (s := ⟨2, dst, a, 0, 0, n⟩) rfl]; simp
  rw [hf]
  clear hf hok
  unfold stV
  go_enter Tryd.func8, Tryd.ntmps8
  go_wp2_with (first | (go_at_call 27; refine (sStmtOk_any ⟨2, dst, a, 0, 0, n⟩ _).mono ?_; rintro e w1 ⟨rfl, hb1⟩; rw [HOK.out]; have z1 := hb1.size; (try simp at z1); have y1_0 : w.heap.size < w1.heap.size := (by omega); have k1_0 := bel_keeps hb1 (b := w.heap.size) (o := 0) (v := .int .i64 2) (by go_simp); have k1_1 := bel_keeps hb1 (b := w.heap.size) (o := 1) (v := .int .i64 dst) (by go_simp); have k1_2 := bel_keeps hb1 (b := w.heap.size) (o := 2) (v := .int .i64 a) (by go_simp); have k1_3 := bel_keeps hb1 (b := w.heap.size) (o := 5) (v := .int .i64 n) (by go_simp)) | (go_at_call 28; refine (l09Word_any 2 (by omega) (by omega) _).mono ?_; rintro e w2 ⟨rfl, hb2⟩; have z2 := hb2.size; (try simp at z2); have y2_0 : w.heap.size < w2.heap.size := (by omega); have k2_0 := bel_keeps hb2 (b := w.heap.size) (o := 0) (v := .int .i64 2) (by go_simp); have k2_1 := bel_keeps hb2 (b := w.heap.size) (o := 1) (v := .int .i64 dst) (by go_simp); have k2_2 := bel_keeps hb2 (b := w.heap.size) (o := 2) (v := .int .i64 a) (by go_simp); have k2_3 := bel_keeps hb2 (b := w.heap.size) (o := 5) (v := .int .i64 n) (by go_simp)))
  refine wp_region_bel (by kernel_rfl) (by kernel_rfl) ?_
  have c0 := in_cell k2_1
  have c1 := in_cell k2_2
  have c2 := in_cell k2_3
  repeat (go_big_quiet_step (first | (go_at_call 29; exact Calls.inb (l09Reg_any _ (by omega) (by omega) _)) | (go_at_call 30; exact Calls.inb (sFormatInt_any _ (by omega) (by omega) _))))
  refine wpQuiet_nil ?_
  rintro _ ⟨x, rfl⟩
  have hx : Below w2.heap.size w2 x.w := x.ok
  go_wp2_with fail
  go_ret2
  exact ⟨rfl, (by (repeat (first | with_reducible exact Below.refl _ _ | (with_reducible refine bel_next ?_ ?_ (by assumption)) | (with_reducible refine Below.alloc ?_ ?_ _) | (with_reducible refine Below.drew ?_) | (with_reducible refine below_drewN ?_ _) | (with_reducible refine Below.setCell ?_ ?_ _))) <;> (first | omega | (simp; done) | (simp; omega)))⟩

set_option maxHeartbeats 4000000 in
theorem sFormat_bin (op : Int) (dst : Int) (a : Int) (b : Int) (hok : stOk ⟨op, dst, a, b, 0, 0⟩ = true) (hdst0 : 0 ≤ dst) (hdst1 : dst < 16) (ha0 : 0 ≤ a) (ha1 : a < 16) (hb0 : 0 ≤ b) (hb1 : b < 16) (hop0 : 3 ≤ op) (hop1 : op ≤ 9) (w : World) :
    Calls Tryd.prog 8 #[stV ⟨op, dst, a, b, 0, 0⟩] w fun e w' => e = .returned (.tuple #[.string (bA (fmtS ⟨op, dst, a, b, 0, 0⟩)), .bool true]) ∧ Below w.heap.size w w' := by
  have HOK := Lib.hid hok
  have hl_dst : (dig dst).length ≤ 10 := dig_len (by omega)
  have hl_a : (dig a).length ≤ 10 := dig_len (by omega)
  have hl_b : (dig b).length ≤ 10 := dig_len (by omega)
  have hlw := wordB_len op
  have hf : bA (fmtS ⟨op, dst, a, b, 0, 0⟩) = bA (wordB op) ++ bA (32 :: 114 :: dig dst) ++ bA (32 :: 114 :: dig a) ++ bA (32 :: 114 :: dig b) := by
    rw [← bA_append, ← bA_append, ← bA_append]; congr 1
    show wordB op ++ (argsF ⟨op, dst, a, b, 0, 0⟩).flatMap (fun x => 32 :: x) = _
    rw [args_op39 (s := ⟨op, dst, a, b, 0, 0⟩) hop0 hop1]; simp
  rw [hf]
  clear hf hok
  have q1 : (op == 1) = false := by simp; omega
  have q2 : (op == 2) = false := by simp; omega
  have q10 : (op == 10) = false := by simp; omega
  have q11 : (op == 11) = false := by simp; omega
  have q12 : (op == 12) = false := by simp; omega
  have q13 : (op == 13) = false := by simp; omega
  unfold stV
  go_enter Tryd.func8, Tryd.ntmps8
  go_wp2_with (first | (go_at_call 27; refine (sStmtOk_any ⟨op, dst, a, b, 0, 0⟩ _).mono ?_; rintro e w1 ⟨rfl, hb1⟩; rw [HOK.out]; have z1 := hb1.size; (try simp at z1); have y1_0 : w.heap.size < w1.heap.size := (by omega); have k1_0 := bel_keeps hb1 (b := w.heap.size) (o := 0) (v := .int .i64 op) (by go_simp); have k1_1 := bel_keeps hb1 (b := w.heap.size) (o := 1) (v := .int .i64 dst) (by go_simp); have k1_2 := bel_keeps hb1 (b := w.heap.size) (o := 2) (v := .int .i64 a) (by go_simp); have k1_3 := bel_keeps hb1 (b := w.heap.size) (o := 3) (v := .int .i64 b) (by go_simp)) | (go_at_call 28; refine (l09Word_any op (by omega) (by omega) _).mono ?_; rintro e w2 ⟨rfl, hb2⟩; have z2 := hb2.size; (try simp at z2); have y2_0 : w.heap.size < w2.heap.size := (by omega); have k2_0 := bel_keeps hb2 (b := w.heap.size) (o := 0) (v := .int .i64 op) (by go_simp); have k2_1 := bel_keeps hb2 (b := w.heap.size) (o := 1) (v := .int .i64 dst) (by go_simp); have k2_2 := bel_keeps hb2 (b := w.heap.size) (o := 2) (v := .int .i64 a) (by go_simp); have k2_3 := bel_keeps hb2 (b := w.heap.size) (o := 3) (v := .int .i64 b) (by go_simp)))
  refine wp_region_bel (by kernel_rfl) (by kernel_rfl) ?_
  have c0 := in_cell k2_1
  have c1 := in_cell k2_2
  have c2 := in_cell k2_3
  repeat (go_big_quiet_step (first | (go_at_call 29; exact Calls.inb (l09Reg_any _ (by omega) (by omega) _)) | (go_at_call 30; exact Calls.inb (sFormatInt_any _ (by omega) (by omega) _))))
  refine wpQuiet_nil ?_
  rintro _ ⟨x, rfl⟩
  have hx : Below w2.heap.size w2 x.w := x.ok
  go_wp2_with fail
  go_ret2
  exact ⟨rfl, (by (repeat (first | with_reducible exact Below.refl _ _ | (with_reducible refine bel_next ?_ ?_ (by assumption)) | (with_reducible refine Below.alloc ?_ ?_ _) | (with_reducible refine Below.drew ?_) | (with_reducible refine below_drewN ?_ _) | (with_reducible refine Below.setCell ?_ ?_ _))) <;> (first | omega | (simp; done) | (simp; omega)))⟩

set_option maxHeartbeats 4000000 in
theorem sFormat_mux (dst : Int) (a : Int) (b : Int) (c : Int) (hok : stOk ⟨10, dst, a, b, c, 0⟩ = true) (hdst0 : 0 ≤ dst) (hdst1 : dst < 16) (ha0 : 0 ≤ a) (ha1 : a < 16) (hb0 : 0 ≤ b) (hb1 : b < 16) (hc0 : 0 ≤ c) (hc1 : c < 16) (w : World) :
    Calls Tryd.prog 8 #[stV ⟨10, dst, a, b, c, 0⟩] w fun e w' => e = .returned (.tuple #[.string (bA (fmtS ⟨10, dst, a, b, c, 0⟩)), .bool true]) ∧ Below w.heap.size w w' := by
  have HOK := Lib.hid hok
  have hl_dst : (dig dst).length ≤ 10 := dig_len (by omega)
  have hl_a : (dig a).length ≤ 10 := dig_len (by omega)
  have hl_b : (dig b).length ≤ 10 := dig_len (by omega)
  have hl_c : (dig c).length ≤ 10 := dig_len (by omega)
  have hlw := wordB_len 10
  have hf : bA (fmtS ⟨10, dst, a, b, c, 0⟩) = bA (wordB 10) ++ bA (32 :: 114 :: dig dst) ++ bA (32 :: 114 :: dig a) ++ bA (32 :: 114 :: dig b) ++ bA (32 :: 114 :: dig c) := by
    rw [← bA_append, ← bA_append, ← bA_append, ← bA_append]; congr 1
    show wordB 10 ++ (argsF ⟨10, dst, a, b, c, 0⟩).flatMap (fun x => 32 :: x) = _
    rw [args_op10 (s := ⟨10, dst, a, b, c, 0⟩) rfl]; simp
  rw [hf]
  clear hf hok
  unfold stV
  go_enter Tryd.func8, Tryd.ntmps8
  go_wp2_with (first | (go_at_call 27; refine (sStmtOk_any ⟨10, dst, a, b, c, 0⟩ _).mono ?_; rintro e w1 ⟨rfl, hb1⟩; rw [HOK.out]; have z1 := hb1.size; (try simp at z1); have y1_0 : w.heap.size < w1.heap.size := (by omega); have k1_0 := bel_keeps hb1 (b := w.heap.size) (o := 0) (v := .int .i64 10) (by go_simp); have k1_1 := bel_keeps hb1 (b := w.heap.size) (o := 1) (v := .int .i64 dst) (by go_simp); have k1_2 := bel_keeps hb1 (b := w.heap.size) (o := 2) (v := .int .i64 a) (by go_simp); have k1_3 := bel_keeps hb1 (b := w.heap.size) (o := 3) (v := .int .i64 b) (by go_simp); have k1_4 := bel_keeps hb1 (b := w.heap.size) (o := 4) (v := .int .i64 c) (by go_simp)) | (go_at_call 28; refine (l09Word_any 10 (by omega) (by omega) _).mono ?_; rintro e w2 ⟨rfl, hb2⟩; have z2 := hb2.size; (try simp at z2); have y2_0 : w.heap.size < w2.heap.size := (by omega); have k2_0 := bel_keeps hb2 (b := w.heap.size) (o := 0) (v := .int .i64 10) (by go_simp); have k2_1 := bel_keeps hb2 (b := w.heap.size) (o := 1) (v := .int .i64 dst) (by go_simp); have k2_2 := bel_keeps hb2 (b := w.heap.size) (o := 2) (v := .int .i64 a) (by go_simp); have k2_3 := bel_keeps hb2 (b := w.heap.size) (o := 3) (v := .int .i64 b) (by go_simp); have k2_4 := bel_keeps hb2 (b := w.heap.size) (o := 4) (v := .int .i64 c) (by go_simp)))
  refine wp_region_bel (by kernel_rfl) (by kernel_rfl) ?_
  have c0 := in_cell k2_1
  have c1 := in_cell k2_2
  have c2 := in_cell k2_3
  have c3 := in_cell k2_4
  repeat (go_big_quiet_step (first | (go_at_call 29; exact Calls.inb (l09Reg_any _ (by omega) (by omega) _)) | (go_at_call 30; exact Calls.inb (sFormatInt_any _ (by omega) (by omega) _))))
  refine wpQuiet_nil ?_
  rintro _ ⟨x, rfl⟩
  have hx : Below w2.heap.size w2 x.w := x.ok
  go_wp2_with fail
  go_ret2
  exact ⟨rfl, (by (repeat (first | with_reducible exact Below.refl _ _ | (with_reducible refine bel_next ?_ ?_ (by assumption)) | (with_reducible refine Below.alloc ?_ ?_ _) | (with_reducible refine Below.drew ?_) | (with_reducible refine below_drewN ?_ _) | (with_reducible refine Below.setCell ?_ ?_ _))) <;> (first | omega | (simp; done) | (simp; omega)))⟩

set_option maxHeartbeats 4000000 in
theorem sFormat_out (a : Int) (hok : stOk ⟨11, 0, a, 0, 0, 0⟩ = true) (ha0 : 0 ≤ a) (ha1 : a < 16) (w : World) :
    Calls Tryd.prog 8 #[stV ⟨11, 0, a, 0, 0, 0⟩] w fun e w' => e = .returned (.tuple #[.string (bA (fmtS ⟨11, 0, a, 0, 0, 0⟩)), .bool true]) ∧ Below w.heap.size w w' := by
  have HOK := Lib.hid hok
  have hl_a : (dig a).length ≤ 10 := dig_len (by omega)
  have hlw := wordB_len 11
  have hf : bA (fmtS ⟨11, 0, a, 0, 0, 0⟩) = bA (wordB 11) ++ bA (32 :: 114 :: dig a) := by
    rw [← bA_append]; congr 1
    show wordB 11 ++ (argsF ⟨11, 0, a, 0, 0, 0⟩).flatMap (fun x => 32 :: x) = _
    rw [args_op11 (s := ⟨11, 0, a, 0, 0, 0⟩) rfl]; simp
  rw [hf]
  clear hf hok
  unfold stV
  go_enter Tryd.func8, Tryd.ntmps8
  go_wp2_with (first | (go_at_call 27; refine (sStmtOk_any ⟨11, 0, a, 0, 0, 0⟩ _).mono ?_; rintro e w1 ⟨rfl, hb1⟩; rw [HOK.out]; have z1 := hb1.size; (try simp at z1); have y1_0 : w.heap.size < w1.heap.size := (by omega); have k1_0 := bel_keeps hb1 (b := w.heap.size) (o := 0) (v := .int .i64 11) (by go_simp); have k1_1 := bel_keeps hb1 (b := w.heap.size) (o := 2) (v := .int .i64 a) (by go_simp)) | (go_at_call 28; refine (l09Word_any 11 (by omega) (by omega) _).mono ?_; rintro e w2 ⟨rfl, hb2⟩; have z2 := hb2.size; (try simp at z2); have y2_0 : w.heap.size < w2.heap.size := (by omega); have k2_0 := bel_keeps hb2 (b := w.heap.size) (o := 0) (v := .int .i64 11) (by go_simp); have k2_1 := bel_keeps hb2 (b := w.heap.size) (o := 2) (v := .int .i64 a) (by go_simp)) | (go_at_call 29; refine (l09Reg_any a (by omega) (by omega) _).mono ?_; rintro e w3 ⟨rfl, hb3⟩))
  go_ret2
  exact ⟨rfl, (by (repeat (first | with_reducible exact Below.refl _ _ | (with_reducible refine bel_next ?_ ?_ (by assumption)) | (with_reducible refine Below.alloc ?_ ?_ _) | (with_reducible refine Below.drew ?_) | (with_reducible refine below_drewN ?_ _) | (with_reducible refine Below.setCell ?_ ?_ _))) <;> (first | omega | (simp; done) | (simp; omega)))⟩

set_option maxHeartbeats 4000000 in
theorem sFormat_loop (n : Int) (hok : stOk ⟨12, 0, 0, 0, 0, n⟩ = true) (hn0 : 0 ≤ n) (hn1 : n < 16) (w : World) :
    Calls Tryd.prog 8 #[stV ⟨12, 0, 0, 0, 0, n⟩] w fun e w' => e = .returned (.tuple #[.string (bA (fmtS ⟨12, 0, 0, 0, 0, n⟩)), .bool true]) ∧ Below w.heap.size w w' := by
  have HOK := Lib.hid hok
  have hl_n : (dig n).length ≤ 10 := dig_len (by omega)
  have hlw := wordB_len 12
  have hf : bA (fmtS ⟨12, 0, 0, 0, 0, n⟩) = bA (wordB 12) ++ bA [32] ++ bA (dig n) := by
    rw [← bA_append, ← bA_append]; congr 1
    show wordB 12 ++ (argsF ⟨12, 0, 0, 0, 0, n⟩).flatMap (fun x => 32 :: x) = _
    rw [args_op12 (s := ⟨12, 0, 0, 0, 0, n⟩) rfl]; simp
  rw [hf]
  clear hf hok
  unfold stV
  go_enter Tryd.func8, Tryd.ntmps8
  go_wp2_with (first | (go_at_call 27; refine (sStmtOk_any ⟨12, 0, 0, 0, 0, n⟩ _).mono ?_; rintro e w1 ⟨rfl, hb1⟩; rw [HOK.out]; have z1 := hb1.size; (try simp at z1); have y1_0 : w.heap.size < w1.heap.size := (by omega); have k1_0 := bel_keeps hb1 (b := w.heap.size) (o := 0) (v := .int .i64 12) (by go_simp); have k1_1 := bel_keeps hb1 (b := w.heap.size) (o := 5) (v := .int .i64 n) (by go_simp)) | (go_at_call 28; refine (l09Word_any 12 (by omega) (by omega) _).mono ?_; rintro e w2 ⟨rfl, hb2⟩; have z2 := hb2.size; (try simp at z2); have y2_0 : w.heap.size < w2.heap.size := (by omega); have k2_0 := bel_keeps hb2 (b := w.heap.size) (o := 0) (v := .int .i64 12) (by go_simp); have k2_1 := bel_keeps hb2 (b := w.heap.size) (o := 5) (v := .int .i64 n) (by go_simp)) | (go_at_call 30; refine (sFormatInt_any n (by omega) (by omega) _).mono ?_; rintro e w3 ⟨rfl, hb3⟩))
  go_ret2
  exact ⟨rfl, (by (repeat (first | with_reducible exact Below.refl _ _ | (with_reducible refine bel_next ?_ ?_ (by assumption)) | (with_reducible refine Below.alloc ?_ ?_ _) | (with_reducible refine Below.drew ?_) | (with_reducible refine below_drewN ?_ _) | (with_reducible refine Below.setCell ?_ ?_ _))) <;> (first | omega | (simp; done) | (simp; omega)))⟩

set_option maxHeartbeats 4000000 in
theorem sFormat_end (hok : stOk ⟨13, 0, 0, 0, 0, 0⟩ = true) (w : World) :
    Calls Tryd.prog 8 #[stV ⟨13, 0, 0, 0, 0, 0⟩] w fun e w' => e = .returned (.tuple #[.string (bA (fmtS ⟨13, 0, 0, 0, 0, 0⟩)), .bool true]) ∧ Below w.heap.size w w' := by
  have HOK := Lib.hid hok
  have hlw := wordB_len 13
  have hf : bA (fmtS ⟨13, 0, 0, 0, 0, 0⟩) = bA (wordB 13) := by
    unfold fmtS; rw [args_op13 (s := ⟨13, 0, 0, 0, 0, 0⟩) rfl]; simp
  rw [hf]
  clear hf hok
  unfold stV
  go_enter Tryd.func8, Tryd.ntmps8
  go_wp2_with (first | (go_at_call 27; refine (sStmtOk_any ⟨13, 0, 0, 0, 0, 0⟩ _).mono ?_; rintro e w1 ⟨rfl, hb1⟩; rw [HOK.out]; have z1 := hb1.size; (try simp at z1); have y1_0 : w.heap.size < w1.heap.size := (by omega); have k1_0 := bel_keeps hb1 (b := w.heap.size) (o := 0) (v := .int .i64 13) (by go_simp)) | (go_at_call 28; refine (l09Word_any 13 (by omega) (by omega) _).mono ?_; rintro e w2 ⟨rfl, hb2⟩; have z2 := hb2.size; (try simp at z2); have y2_0 : w.heap.size < w2.heap.size := (by omega); have k2_0 := bel_keeps hb2 (b := w.heap.size) (o := 0) (v := .int .i64 13) (by go_simp)))
  go_ret2
  exact ⟨rfl, (by (repeat (first | with_reducible exact Below.refl _ _ | (with_reducible refine bel_next ?_ ?_ (by assumption)) | (with_reducible refine Below.alloc ?_ ?_ _) | (with_reducible refine Below.drew ?_) | (with_reducible refine below_drewN ?_ _) | (with_reducible refine Below.setCell ?_ ?_ _))) <;> (first | omega | (simp; done) | (simp; omega)))⟩
end Go.Proofs.YtigefmobejclaaaDoor
