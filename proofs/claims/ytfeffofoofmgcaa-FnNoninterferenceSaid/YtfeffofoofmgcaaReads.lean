/- ReadsOf, WritesOf, isPlain. -/
import Derived.Test.YtfeffofoofmgcaaStmtC
import Derived.Test.YtfeffofoofmgcaaSStmtC
import Derived.Test.YtfeffofoofmgcaaApp
namespace Go.Proofs.Ytfeffofoofmgcaa
open Go.RowKit
set_option linter.unusedVariables false
set_option linter.unusedSimpArgs false

def readsOf (s : St) : List Int := if stOk s then (if inB s.op 3 9 then [s.a, s.b] else if s.op = 10 then [s.a, s.b, s.c] else if s.op = 11 then [s.a] else []) else []
def writesOf (s : St) : Int := if stOk s && decide (s.op ≤ 10) then s.dst else -1
def plainB (s : St) : Bool := stOk s && decide (s.op ≤ 11)
theorem stok_regs {s : St} (h : stOk s = true) : 1 ≤ s.op ∧ s.op ≤ 13 ∧ 0 ≤ s.dst ∧ s.dst ≤ 7 ∧ 0 ≤ s.a ∧ s.a ≤ 7 ∧ 0 ≤ s.b ∧ s.b ≤ 7 ∧ 0 ≤ s.c ∧ s.c ≤ 7 := by
  obtain ⟨op, dst, a, b, c, n⟩ := s
  simp only [stOk] at h
  by_cases p1 : op = 1
  · simp [p1, inB] at h; simp; omega
  by_cases p2 : op = 2
  · simp [p2, inB] at h; simp; omega
  cases hop : inB op 3 9
  case true =>
    have hh := inB_iff.1 hop
    simp only [p1, p2, hop, if_false, if_true] at h
    simp [inB] at h
    simp; omega
  by_cases p10 : op = 10
  · simp [p10, inB] at h; simp; omega
  by_cases p11 : op = 11
  · simp [p11, inB] at h; simp; omega
  by_cases p12 : op = 12
  · simp [p12, inB] at h; simp; omega
  simp [p1, p2, hop, p10, p11, p12] at h
  simp; omega
theorem reads_regs {s : St} : ∀ r ∈ readsOf s, 0 ≤ r ∧ r ≤ 7 := by
  intro r hr
  unfold readsOf at hr
  split at hr
  case isFalse => cases hr
  case isTrue h =>
    have hh := stok_regs h
    split at hr
    · simp at hr; rcases hr with rfl | rfl <;> omega
    · split at hr
      · simp at hr; rcases hr with rfl | rfl | rfl <;> omega
      · split at hr
        · simp at hr; subst hr; omega
        · cases hr
theorem reads_len (s : St) : (readsOf s).length ≤ 3 := by
  unfold readsOf; repeat' split
  all_goals simp

set_option maxHeartbeats 2000000 in
theorem iReadsOf_any (s : St) (w : World) :
    Calls Try.prog 68 #[stV s] w fun e w' => ∃ ad cp, e = .returned (.slice ad (readsOf s).length cp) ∧ RdC w' ad (I64 (readsOf s)) ∧ Below w.heap.size w w' := by
  obtain ⟨op, dst, a, b, c, n⟩ := s
  cases hs : stOk ⟨op, dst, a, b, c, n⟩
  · have HS := Lib.hid hs
    have HF : readsOf ⟨op, dst, a, b, c, n⟩ = [] := by simp [readsOf, hs]
    rw [HF]
    clear hs HF
    unfold stV
    go_enter Try.func68, Try.ntmps68
    go_wp2_with (go_at_call 70; refine (iStmtOk_any ⟨op, dst, a, b, c, n⟩ _).mono ?_; rintro e w1 ⟨rfl, hb⟩; rw [HS.out]; have k1_0 := bel_keeps hb (b := w.heap.size) (o := 0) (v := .int .i64 op) (by go_simp); have k1_1 := bel_keeps hb (b := w.heap.size) (o := 1) (v := .int .i64 dst) (by go_simp); have k1_2 := bel_keeps hb (b := w.heap.size) (o := 2) (v := .int .i64 a) (by go_simp); have k1_3 := bel_keeps hb (b := w.heap.size) (o := 3) (v := .int .i64 b) (by go_simp); have k1_4 := bel_keeps hb (b := w.heap.size) (o := 4) (v := .int .i64 c) (by go_simp); have k1_5 := bel_keeps hb (b := w.heap.size) (o := 5) (v := .int .i64 n) (by go_simp); have z1 := hb.size; (try simp at z1))
    go_ret
    exact ⟨none, 0, rfl, RdC.nil _ _, (by (repeat (first | with_reducible exact Below.refl _ _ | (with_reducible refine bel_next ?_ ?_ (by assumption)) | (with_reducible refine Below.alloc ?_ ?_ _) | (with_reducible refine Below.drew ?_) | (with_reducible refine below_drewN ?_ _) | (with_reducible refine Below.setCell ?_ ?_ _))) <;> (first | omega | (simp; done) | (simp; omega)))⟩
  have HS := Lib.hid hs
  cases hi : inB op 3 9
  case true =>
    have HI := Lib.hid hi
    have HF : readsOf ⟨op, dst, a, b, c, n⟩ = [a, b] := by simp [readsOf, hs, hi]
    rw [HF]
    clear hs HF hi
    unfold stV
    go_enter Try.func68, Try.ntmps68
    go_wp2_with (first | (go_at_call 70; refine (iStmtOk_any ⟨op, dst, a, b, c, n⟩ _).mono ?_; rintro e w1 ⟨rfl, hb⟩; rw [HS.out]; have k1_0 := bel_keeps hb (b := w.heap.size) (o := 0) (v := .int .i64 op) (by go_simp); have k1_1 := bel_keeps hb (b := w.heap.size) (o := 1) (v := .int .i64 dst) (by go_simp); have k1_2 := bel_keeps hb (b := w.heap.size) (o := 2) (v := .int .i64 a) (by go_simp); have k1_3 := bel_keeps hb (b := w.heap.size) (o := 3) (v := .int .i64 b) (by go_simp); have k1_4 := bel_keeps hb (b := w.heap.size) (o := 4) (v := .int .i64 c) (by go_simp); have k1_5 := bel_keeps hb (b := w.heap.size) (o := 5) (v := .int .i64 n) (by go_simp); have z1 := hb.size; (try simp at z1)) | (go_at_call 104; refine (isBinary_any _ _).mono ?_; rintro e w' ⟨rfl, rfl⟩; rw [HI.out]))
    go_ret
    exact ⟨some ⟨w1.heap.size, 0, none⟩, 2, rfl, RdC.alloc w1 #[.int .i64 a, .int .i64 b] 3, (by (repeat (first | with_reducible exact Below.refl _ _ | (with_reducible refine bel_next ?_ ?_ (by assumption)) | (with_reducible refine Below.alloc ?_ ?_ _) | (with_reducible refine Below.drew ?_) | (with_reducible refine below_drewN ?_ _) | (with_reducible refine Below.setCell ?_ ?_ _))) <;> (first | omega | (simp; done) | (simp; omega)))⟩
  have HI := Lib.hid hi
  by_cases p10 : op = 10
  · subst p10
    have HF : readsOf ⟨10, dst, a, b, c, n⟩ = [a, b, c] := by simp [readsOf, hs, hi]
    rw [HF]
    clear hs HF hi
    unfold stV
    go_enter Try.func68, Try.ntmps68
    go_wp2_with (first | (go_at_call 70; refine (iStmtOk_any ⟨10, dst, a, b, c, n⟩ _).mono ?_; rintro e w1 ⟨rfl, hb⟩; rw [HS.out]; have k1_0 := bel_keeps hb (b := w.heap.size) (o := 0) (v := .int .i64 10) (by go_simp); have k1_1 := bel_keeps hb (b := w.heap.size) (o := 1) (v := .int .i64 dst) (by go_simp); have k1_2 := bel_keeps hb (b := w.heap.size) (o := 2) (v := .int .i64 a) (by go_simp); have k1_3 := bel_keeps hb (b := w.heap.size) (o := 3) (v := .int .i64 b) (by go_simp); have k1_4 := bel_keeps hb (b := w.heap.size) (o := 4) (v := .int .i64 c) (by go_simp); have k1_5 := bel_keeps hb (b := w.heap.size) (o := 5) (v := .int .i64 n) (by go_simp); have z1 := hb.size; (try simp at z1)) | (go_at_call 104; refine (isBinary_any _ _).mono ?_; rintro e w' ⟨rfl, rfl⟩; rw [HI.out]))
    go_ret
    exact ⟨some ⟨w1.heap.size, 0, none⟩, 3, rfl, RdC.alloc w1 #[.int .i64 a, .int .i64 b, .int .i64 c] 3, (by (repeat (first | with_reducible exact Below.refl _ _ | (with_reducible refine bel_next ?_ ?_ (by assumption)) | (with_reducible refine Below.alloc ?_ ?_ _) | (with_reducible refine Below.drew ?_) | (with_reducible refine below_drewN ?_ _) | (with_reducible refine Below.setCell ?_ ?_ _))) <;> (first | omega | (simp; done) | (simp; omega)))⟩
  by_cases p11 : op = 11
  · subst p11
    have HF : readsOf ⟨11, dst, a, b, c, n⟩ = [a] := by simp [readsOf, hs, hi]
    rw [HF]
    clear hs HF hi
    unfold stV
    go_enter Try.func68, Try.ntmps68
    go_wp2_with (first | (go_at_call 70; refine (iStmtOk_any ⟨11, dst, a, b, c, n⟩ _).mono ?_; rintro e w1 ⟨rfl, hb⟩; rw [HS.out]; have k1_0 := bel_keeps hb (b := w.heap.size) (o := 0) (v := .int .i64 11) (by go_simp); have k1_1 := bel_keeps hb (b := w.heap.size) (o := 1) (v := .int .i64 dst) (by go_simp); have k1_2 := bel_keeps hb (b := w.heap.size) (o := 2) (v := .int .i64 a) (by go_simp); have k1_3 := bel_keeps hb (b := w.heap.size) (o := 3) (v := .int .i64 b) (by go_simp); have k1_4 := bel_keeps hb (b := w.heap.size) (o := 4) (v := .int .i64 c) (by go_simp); have k1_5 := bel_keeps hb (b := w.heap.size) (o := 5) (v := .int .i64 n) (by go_simp); have z1 := hb.size; (try simp at z1)) | (go_at_call 104; refine (isBinary_any _ _).mono ?_; rintro e w' ⟨rfl, rfl⟩; rw [HI.out]))
    go_ret
    exact ⟨some ⟨w1.heap.size, 0, none⟩, 1, rfl, RdC.alloc w1 #[.int .i64 a] 3, (by (repeat (first | with_reducible exact Below.refl _ _ | (with_reducible refine bel_next ?_ ?_ (by assumption)) | (with_reducible refine Below.alloc ?_ ?_ _) | (with_reducible refine Below.drew ?_) | (with_reducible refine below_drewN ?_ _) | (with_reducible refine Below.setCell ?_ ?_ _))) <;> (first | omega | (simp; done) | (simp; omega)))⟩
  have HF : readsOf ⟨op, dst, a, b, c, n⟩ = [] := by simp [readsOf, hs, hi, p10, p11]
  rw [HF]
  have q10 : (op == 10) = false := by simp; omega
  have q11 : (op == 11) = false := by simp; omega
  clear hs HF hi p10 p11
  unfold stV
  go_enter Try.func68, Try.ntmps68
  go_wp2_with (first | (go_at_call 70; refine (iStmtOk_any ⟨op, dst, a, b, c, n⟩ _).mono ?_; rintro e w1 ⟨rfl, hb⟩; rw [HS.out]; have k1_0 := bel_keeps hb (b := w.heap.size) (o := 0) (v := .int .i64 op) (by go_simp); have k1_1 := bel_keeps hb (b := w.heap.size) (o := 1) (v := .int .i64 dst) (by go_simp); have k1_2 := bel_keeps hb (b := w.heap.size) (o := 2) (v := .int .i64 a) (by go_simp); have k1_3 := bel_keeps hb (b := w.heap.size) (o := 3) (v := .int .i64 b) (by go_simp); have k1_4 := bel_keeps hb (b := w.heap.size) (o := 4) (v := .int .i64 c) (by go_simp); have k1_5 := bel_keeps hb (b := w.heap.size) (o := 5) (v := .int .i64 n) (by go_simp); have z1 := hb.size; (try simp at z1)) | (go_at_call 104; refine (isBinary_any _ _).mono ?_; rintro e w' ⟨rfl, rfl⟩; rw [HI.out]))
  go_ret
  exact ⟨none, 0, rfl, RdC.nil _ _, (by (repeat (first | with_reducible exact Below.refl _ _ | (with_reducible refine bel_next ?_ ?_ (by assumption)) | (with_reducible refine Below.alloc ?_ ?_ _) | (with_reducible refine Below.drew ?_) | (with_reducible refine below_drewN ?_ _) | (with_reducible refine Below.setCell ?_ ?_ _))) <;> (first | omega | (simp; done) | (simp; omega)))⟩

set_option maxHeartbeats 2000000 in
theorem sReadsOf_any (s : St) (w : World) :
    Calls Try.prog 89 #[stV s] w fun e w' => ∃ ad cp, e = .returned (.slice ad (readsOf s).length cp) ∧ RdC w' ad (I64 (readsOf s)) ∧ Below w.heap.size w w' := by
  obtain ⟨op, dst, a, b, c, n⟩ := s
  cases hs : stOk ⟨op, dst, a, b, c, n⟩
  · have HS := Lib.hid hs
    have HF : readsOf ⟨op, dst, a, b, c, n⟩ = [] := by simp [readsOf, hs]
    rw [HF]
    clear hs HF
    unfold stV
    go_enter Try.func89, Try.ntmps89
    go_wp2_with (go_at_call 88; refine (sStmtOk_any ⟨op, dst, a, b, c, n⟩ _).mono ?_; rintro e w1 ⟨rfl, hb⟩; rw [HS.out]; have k1_0 := bel_keeps hb (b := w.heap.size) (o := 0) (v := .int .i64 op) (by go_simp); have k1_1 := bel_keeps hb (b := w.heap.size) (o := 1) (v := .int .i64 dst) (by go_simp); have k1_2 := bel_keeps hb (b := w.heap.size) (o := 2) (v := .int .i64 a) (by go_simp); have k1_3 := bel_keeps hb (b := w.heap.size) (o := 3) (v := .int .i64 b) (by go_simp); have k1_4 := bel_keeps hb (b := w.heap.size) (o := 4) (v := .int .i64 c) (by go_simp); have k1_5 := bel_keeps hb (b := w.heap.size) (o := 5) (v := .int .i64 n) (by go_simp); have z1 := hb.size; (try simp at z1))
    go_ret
    exact ⟨some ⟨_, 0, none⟩, 0, rfl, RdC.nil _ _, (by (repeat (first | with_reducible exact Below.refl _ _ | (with_reducible refine bel_next ?_ ?_ (by assumption)) | (with_reducible refine Below.alloc ?_ ?_ _) | (with_reducible refine Below.drew ?_) | (with_reducible refine below_drewN ?_ _) | (with_reducible refine Below.setCell ?_ ?_ _))) <;> (first | omega | (simp; done) | (simp; omega)))⟩
  have HS := Lib.hid hs
  cases hi : inB op 3 9
  case true =>
    have HI := Lib.hid hi
    have HF : readsOf ⟨op, dst, a, b, c, n⟩ = [a, b] := by simp [readsOf, hs, hi]
    rw [HF]
    clear hs HF hi
    unfold stV
    go_enter Try.func89, Try.ntmps89
    go_wp2_with (first | (go_at_call 88; refine (sStmtOk_any ⟨op, dst, a, b, c, n⟩ _).mono ?_; rintro e w1 ⟨rfl, hb⟩; rw [HS.out]; have k1_0 := bel_keeps hb (b := w.heap.size) (o := 0) (v := .int .i64 op) (by go_simp); have k1_1 := bel_keeps hb (b := w.heap.size) (o := 1) (v := .int .i64 dst) (by go_simp); have k1_2 := bel_keeps hb (b := w.heap.size) (o := 2) (v := .int .i64 a) (by go_simp); have k1_3 := bel_keeps hb (b := w.heap.size) (o := 3) (v := .int .i64 b) (by go_simp); have k1_4 := bel_keeps hb (b := w.heap.size) (o := 4) (v := .int .i64 c) (by go_simp); have k1_5 := bel_keeps hb (b := w.heap.size) (o := 5) (v := .int .i64 n) (by go_simp); have z1 := hb.size; (try simp at z1)) | (go_at_call 110; refine (l01In_any _ _ _ _).mono ?_; rintro e w' ⟨rfl, rfl⟩; rw [HI.out]))
    go_ret
    exact ⟨some ⟨w1.heap.size, 0, none⟩, 2, rfl, RdC.alloc w1 #[.int .i64 a, .int .i64 b] 3, (by (repeat (first | with_reducible exact Below.refl _ _ | (with_reducible refine bel_next ?_ ?_ (by assumption)) | (with_reducible refine Below.alloc ?_ ?_ _) | (with_reducible refine Below.drew ?_) | (with_reducible refine below_drewN ?_ _) | (with_reducible refine Below.setCell ?_ ?_ _))) <;> (first | omega | (simp; done) | (simp; omega)))⟩
  have HI := Lib.hid hi
  by_cases p10 : op = 10
  · subst p10
    have HF : readsOf ⟨10, dst, a, b, c, n⟩ = [a, b, c] := by simp [readsOf, hs, hi]
    rw [HF]
    clear hs HF hi
    unfold stV
    go_enter Try.func89, Try.ntmps89
    go_wp2_with (first | (go_at_call 88; refine (sStmtOk_any ⟨10, dst, a, b, c, n⟩ _).mono ?_; rintro e w1 ⟨rfl, hb⟩; rw [HS.out]; have k1_0 := bel_keeps hb (b := w.heap.size) (o := 0) (v := .int .i64 10) (by go_simp); have k1_1 := bel_keeps hb (b := w.heap.size) (o := 1) (v := .int .i64 dst) (by go_simp); have k1_2 := bel_keeps hb (b := w.heap.size) (o := 2) (v := .int .i64 a) (by go_simp); have k1_3 := bel_keeps hb (b := w.heap.size) (o := 3) (v := .int .i64 b) (by go_simp); have k1_4 := bel_keeps hb (b := w.heap.size) (o := 4) (v := .int .i64 c) (by go_simp); have k1_5 := bel_keeps hb (b := w.heap.size) (o := 5) (v := .int .i64 n) (by go_simp); have z1 := hb.size; (try simp at z1)) | (go_at_call 110; refine (l01In_any _ _ _ _).mono ?_; rintro e w' ⟨rfl, rfl⟩; rw [HI.out]))
    go_ret
    exact ⟨some ⟨w1.heap.size, 0, none⟩, 3, rfl, RdC.alloc w1 #[.int .i64 a, .int .i64 b, .int .i64 c] 3, (by (repeat (first | with_reducible exact Below.refl _ _ | (with_reducible refine bel_next ?_ ?_ (by assumption)) | (with_reducible refine Below.alloc ?_ ?_ _) | (with_reducible refine Below.drew ?_) | (with_reducible refine below_drewN ?_ _) | (with_reducible refine Below.setCell ?_ ?_ _))) <;> (first | omega | (simp; done) | (simp; omega)))⟩
  by_cases p11 : op = 11
  · subst p11
    have HF : readsOf ⟨11, dst, a, b, c, n⟩ = [a] := by simp [readsOf, hs, hi]
    rw [HF]
    clear hs HF hi
    unfold stV
    go_enter Try.func89, Try.ntmps89
    go_wp2_with (first | (go_at_call 88; refine (sStmtOk_any ⟨11, dst, a, b, c, n⟩ _).mono ?_; rintro e w1 ⟨rfl, hb⟩; rw [HS.out]; have k1_0 := bel_keeps hb (b := w.heap.size) (o := 0) (v := .int .i64 11) (by go_simp); have k1_1 := bel_keeps hb (b := w.heap.size) (o := 1) (v := .int .i64 dst) (by go_simp); have k1_2 := bel_keeps hb (b := w.heap.size) (o := 2) (v := .int .i64 a) (by go_simp); have k1_3 := bel_keeps hb (b := w.heap.size) (o := 3) (v := .int .i64 b) (by go_simp); have k1_4 := bel_keeps hb (b := w.heap.size) (o := 4) (v := .int .i64 c) (by go_simp); have k1_5 := bel_keeps hb (b := w.heap.size) (o := 5) (v := .int .i64 n) (by go_simp); have z1 := hb.size; (try simp at z1)) | (go_at_call 110; refine (l01In_any _ _ _ _).mono ?_; rintro e w' ⟨rfl, rfl⟩; rw [HI.out]))
    go_ret
    exact ⟨some ⟨w1.heap.size, 0, none⟩, 1, rfl, RdC.alloc w1 #[.int .i64 a] 3, (by (repeat (first | with_reducible exact Below.refl _ _ | (with_reducible refine bel_next ?_ ?_ (by assumption)) | (with_reducible refine Below.alloc ?_ ?_ _) | (with_reducible refine Below.drew ?_) | (with_reducible refine below_drewN ?_ _) | (with_reducible refine Below.setCell ?_ ?_ _))) <;> (first | omega | (simp; done) | (simp; omega)))⟩
  have HF : readsOf ⟨op, dst, a, b, c, n⟩ = [] := by simp [readsOf, hs, hi, p10, p11]
  rw [HF]
  have q10 : (op == 10) = false := by simp; omega
  have q11 : (op == 11) = false := by simp; omega
  clear hs HF hi p10 p11
  unfold stV
  go_enter Try.func89, Try.ntmps89
  go_wp2_with (first | (go_at_call 88; refine (sStmtOk_any ⟨op, dst, a, b, c, n⟩ _).mono ?_; rintro e w1 ⟨rfl, hb⟩; rw [HS.out]; have k1_0 := bel_keeps hb (b := w.heap.size) (o := 0) (v := .int .i64 op) (by go_simp); have k1_1 := bel_keeps hb (b := w.heap.size) (o := 1) (v := .int .i64 dst) (by go_simp); have k1_2 := bel_keeps hb (b := w.heap.size) (o := 2) (v := .int .i64 a) (by go_simp); have k1_3 := bel_keeps hb (b := w.heap.size) (o := 3) (v := .int .i64 b) (by go_simp); have k1_4 := bel_keeps hb (b := w.heap.size) (o := 4) (v := .int .i64 c) (by go_simp); have k1_5 := bel_keeps hb (b := w.heap.size) (o := 5) (v := .int .i64 n) (by go_simp); have z1 := hb.size; (try simp at z1)) | (go_at_call 110; refine (l01In_any _ _ _ _).mono ?_; rintro e w' ⟨rfl, rfl⟩; rw [HI.out]))
  go_ret
  exact ⟨some ⟨_, 0, none⟩, 0, rfl, RdC.nil _ _, (by (repeat (first | with_reducible exact Below.refl _ _ | (with_reducible refine bel_next ?_ ?_ (by assumption)) | (with_reducible refine Below.alloc ?_ ?_ _) | (with_reducible refine Below.drew ?_) | (with_reducible refine below_drewN ?_ _) | (with_reducible refine Below.setCell ?_ ?_ _))) <;> (first | omega | (simp; done) | (simp; omega)))⟩

set_option maxHeartbeats 2000000 in
theorem isPlain_any (s : St) (w : World) :
    Calls Try.prog 91 #[stV s] w fun e w' => e = .returned (.bool (plainB s)) ∧ Below w.heap.size w w' := by
  obtain ⟨op, dst, a, b, c, n⟩ := s
  cases hs : stOk ⟨op, dst, a, b, c, n⟩
  · have HS := Lib.hid hs
    have HF : plainB ⟨op, dst, a, b, c, n⟩ = false := by simp [plainB, hs]
    rw [HF]
    clear hs HF
    unfold stV
    go_enter Try.func91, Try.ntmps91
    go_wp2_with (go_at_call 70; refine (iStmtOk_any ⟨op, dst, a, b, c, n⟩ _).mono ?_; rintro e w1 ⟨rfl, hb⟩; rw [HS.out]; have k1_0 := bel_keeps hb (b := w.heap.size) (o := 0) (v := .int .i64 op) (by go_simp); have k1_1 := bel_keeps hb (b := w.heap.size) (o := 1) (v := .int .i64 dst) (by go_simp))
    go_ret
    exact ⟨rfl, (by (repeat (first | with_reducible exact Below.refl _ _ | (with_reducible refine bel_next ?_ ?_ (by assumption)) | (with_reducible refine Below.alloc ?_ ?_ _) | (with_reducible refine Below.drew ?_) | (with_reducible refine below_drewN ?_ _) | (with_reducible refine Below.setCell ?_ ?_ _))) <;> (first | omega | (simp; done) | (simp; omega)))⟩
  have HS := Lib.hid hs
  have hh := stok_regs hs
  simp only at hh
  have HF : Hid (plainB ⟨op, dst, a, b, c, n⟩ = (op != 12 && op != 13)) := by
    show _ = _
    rw [Bool.eq_iff_iff]; simp [plainB, hs] <;> omega
  clear hs hh
  unfold stV
  go_enter Try.func91, Try.ntmps91
  go_wp2_with (go_at_call 70; refine (iStmtOk_any ⟨op, dst, a, b, c, n⟩ _).mono ?_; rintro e w1 ⟨rfl, hb⟩; rw [HS.out]; have k1_0 := bel_keeps hb (b := w.heap.size) (o := 0) (v := .int .i64 op) (by go_simp); have k1_1 := bel_keeps hb (b := w.heap.size) (o := 1) (v := .int .i64 dst) (by go_simp))
  all_goals go_ret
  all_goals exact ⟨ret_bool (by rw [HF.out]; try simp [*]), (by (repeat (first | with_reducible exact Below.refl _ _ | (with_reducible refine bel_next ?_ ?_ (by assumption)) | (with_reducible refine Below.alloc ?_ ?_ _) | (with_reducible refine Below.drew ?_) | (with_reducible refine below_drewN ?_ _) | (with_reducible refine Below.setCell ?_ ?_ _))) <;> (first | omega | (simp; done) | (simp; omega)))⟩

end Go.Proofs.Ytfeffofoofmgcaa
