/- The walk of the law FnExactParseStmt. -/
import Derived.Test.YtigefmobejclaaaDoorPstF
namespace Go.Proofs.YtigefmobejclaaaDoor
open Go.RowKit
set_option linter.unusedVariables false

set_option maxRecDepth 100000 in
set_option maxHeartbeats 4000000 in
theorem walk_FnExactParseStmt (w : World) (s : ByteArray) (hs : s.size ≤ maxLen) (hw : Laid w) :
    Calls Tryd.prog 5 #[.string s] w fun e w' => e = .returned (.bool true) ∧ Below w.heap.size w w' := by
  obtain ⟨l, rfl⟩ : ∃ l, s = bA l := ⟨s.data.toList, (bA_of s).symm⟩
  unfold maxLen at hs
  rw [bA_size] at hs
  have HW := Lib.hid hw
  clear hw
  by_cases hsz : l.length ≤ 1048576
  case neg =>
    have t0 : decide ((l.length : Int) > 1048576) = true := decide_eq_true (by omega)
    have t1 : decide ((1048576 : Int) < (l.length : Int)) = true := decide_eq_true (by omega)
    go_enter Tryd.func5, Tryd.ntmps5
    go_wp2_with fail
    go_ret
    exact ⟨rfl, Below.refl _ _⟩
  have t0 : decide ((l.length : Int) > 1048576) = false := decide_eq_false (by omega)
  have t1 : decide ((1048576 : Int) < (l.length : Int)) = false := decide_eq_false (by omega)
  have HS := Lib.hid (fun W => sPst_any l hsz W)
  have HI := Lib.hid (fun W h => iPst_any l hsz W h)
  have HE := Lib.hid (fun W => eqStmt_same (pst l).1 W)
  generalize (pst l).1 = s at HS HI HE
  generalize (pst l).2 = b at HS HI
  obtain ⟨op, dst, sa, sb, sc, sn⟩ := s
  unfold stV at HS HI HE
  simp only at HS HI HE
  go_enter Tryd.func5, Tryd.ntmps5
  go_wp2_with fail
  refine (HS.out _).mono ?_
  rintro e w1 ⟨rfl, hb1⟩
  have z1 := hb1.size
  go_wp2_with fail
  refine (HI.out _ (HW.out.below (by (repeat (first | with_reducible exact Below.refl _ _ | (with_reducible refine bel_next ?_ ?_ (by assumption)) | (with_reducible refine Below.alloc ?_ ?_ _) | (with_reducible refine Below.drew ?_) | (with_reducible refine below_drewN ?_ _) | (with_reducible refine Below.setCell ?_ ?_ _))) <;> (first | omega | (simp; done) | (simp; omega))))).mono ?_
  rintro e w2 ⟨rfl, hb2⟩
  have z2 := hb2.size; (try simp at z2); have y2_0 : w1.heap.size < w2.heap.size := (by omega); have k2_0 := bel_keeps hb2 (b := w1.heap.size) (o := 0) (v := .int .i64 op) (by go_simp); have k2_1 := bel_keeps hb2 (b := w1.heap.size) (o := 1) (v := .int .i64 dst) (by go_simp); have k2_2 := bel_keeps hb2 (b := w1.heap.size) (o := 2) (v := .int .i64 sa) (by go_simp); have k2_3 := bel_keeps hb2 (b := w1.heap.size) (o := 3) (v := .int .i64 sb) (by go_simp); have k2_4 := bel_keeps hb2 (b := w1.heap.size) (o := 4) (v := .int .i64 sc) (by go_simp); have k2_5 := bel_keeps hb2 (b := w1.heap.size) (o := 5) (v := .int .i64 sn) (by go_simp)
  go_wp2_with fail
  refine (HE.out _).mono ?_
  rintro e w3 ⟨rfl, hb3⟩
  have z3 := hb3.size
  go_wp2_with fail
  go_ret
  exact ⟨rfl, (by (repeat (first | with_reducible exact Below.refl _ _ | (with_reducible refine bel_next ?_ ?_ (by assumption)) | (with_reducible refine Below.alloc ?_ ?_ _) | (with_reducible refine Below.drew ?_) | (with_reducible refine below_drewN ?_ _) | (with_reducible refine Below.setCell ?_ ?_ _))) <;> (first | omega | (simp; done) | (simp; omega)))⟩
end Go.Proofs.YtigefmobejclaaaDoor
