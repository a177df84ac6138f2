/- Reads, StepS, SStepA, SStepB, SStepC, IStepA, IStepB, IStepC, StepState, New, Run, InputBits, WordsOf, CmpR, in one text. -/
import Derived.Test.YtfcijloiebnloaaCmpAllA
import Derived.Test.YtfcijloiebnloaaApp
import Derived.Test.YtfcijloiebnloaaCopy
import Derived.Test.YtfcijloiebnloaaGrid
import Derived.Test.YtfcijloiebnloaaOper
import Derived.Test.YtfcijloiebnloaaState
import Derived.Test.YtfcijloiebnloaaShare
import Derived.StillTailTactics
import Derived.Deep.RegionLaw
import Derived.Test.YtfcijloiebnloaaList
import Derived.Deep.RegionHeld3
import Derived.Deep.AppendLies
import Derived.Test.YtfcijloiebnloaaCmpAllF
/- Reads -/
namespace Go.Proofs.Ytfcijloiebnloaa
open Go.RowKit
set_option linter.unusedVariables false
set_option linter.unusedSimpArgs false

def readsOf (s : St) : List Int := if stOk s then (if inB s.op 3 9 then [s.a, s.b] else if s.op = 10 then [s.a, s.b, s.c] else if s.op = 11 then [s.a] else []) else []
def writesOf (s : St) : Int := if stOk s && decide (s.op ≤ 10) then s.dst else -1
def plainB (s : St) : Bool := stOk s && decide (s.op ≤ 11)
theorem stok_regs {s : St} (h : stOk s = true) : 1 ≤ s.op ∧ s.op ≤ 13 ∧ 0 ≤ s.dst ∧ s.dst ≤ 7 ∧ 0 ≤ s.a ∧ s.a ≤ 7 ∧ 0 ≤ s.b ∧ s.b ≤ 7 ∧ 0 ≤ s.c ∧ s.c ≤ 7 := by
  obtain ⟨op, dst, a, b, c, n⟩ := s
  simp only [stOk] at h
  by_cases p1 : op = 1
  · simp [p1, inB] at h; simp; omega
  by_cases p2 : op = 2
  · simp [p2, inB] at h; simp; omega
  cases hop : inB op 3 9
  case true =>
    have hh := inB_iff.1 hop
    simp only [p1, p2, hop, if_false, if_true] at h
    simp [inB] at h
    simp; omega
  by_cases p10 : op = 10
  · simp [p10, inB] at h; simp; omega
  by_cases p11 : op = 11
  · simp [p11, inB] at h; simp; omega
  by_cases p12 : op = 12
  · simp [p12, inB] at h; simp; omega
  simp [p1, p2, hop, p10, p11, p12] at h
  simp; omega
theorem reads_regs {s : St} : ∀ r ∈ readsOf s, 0 ≤ r ∧ r ≤ 7 := by
  intro r hr
  unfold readsOf at hr
  split at hr
  case isFalse => cases hr
  case isTrue h =>
    have hh := stok_regs h
    split at hr
    · simp at hr; rcases hr with rfl | rfl <;> omega
    · split at hr
      · simp at hr; rcases hr with rfl | rfl | rfl <;> omega
      · split at hr
        · simp at hr; subst hr; omega
        · cases hr
theorem reads_len (s : St) : (readsOf s).length ≤ 3 := by
  unfold readsOf; repeat' split
  all_goals simp

end Go.Proofs.Ytfcijloiebnloaa

/- StepS -/
namespace Go.Proofs.Ytfcijloiebnloaa
open Go.RowKit
set_option linter.unusedVariables false
set_option linter.unusedSimpArgs false

theorem rd_none {w : World} {ad : Option Addr} {xs : List Int} (h : RdC w ad (I64 xs)) : ad = none → xs.length = 0 := by
  intro h0
  rcases h with h1 | ⟨b, off, h1, _⟩
  · have := congrArg List.length h1; simpa using this
  · rw [h0] at h1; cases h1
def stepB (s : St) (rs os : List Int) (xss : List (List Int)) : Bool := stateOk rs os && plainB s && inputsOk xss
def rgd (rs : List Int) (i : Int) : Int := rs.getD i.toNat 0
def stepVal (s : St) (rs : List Int) (xss : List (List Int)) : Int :=
  if s.op = 1 then s.n else if s.op = 2 then (xss.getD s.a.toNat []).getD s.n.toNat 0
  else if s.op = 10 then (if bits .and .i64 (rgd rs s.a) 1 = 1 then rgd rs s.b else rgd rs s.c) else operateF s.op (rgd rs s.a) (rgd rs s.b)
def stepRegs (rs os : List Int) (s : St) (xss : List (List Int)) : List Int := if stepB s rs os xss then (if s.op = 11 then rs else rs.set s.dst.toNat (stepVal s rs xss)) else rs
def stepOuts (rs os : List Int) (s : St) (xss : List (List Int)) : List Int := if stepB s rs os xss && (s.op == 11) then os ++ [rgd rs s.a] else os
theorem stepRegs_len (rs os : List Int) (s : St) (xss : List (List Int)) : (stepRegs rs os s xss).length = rs.length := by
  unfold stepRegs
  repeat' split
  all_goals simp
theorem stepOuts_len (rs os : List Int) (s : St) (xss : List (List Int)) : (stepOuts rs os s xss).length ≤ os.length + 1 := by
  unfold stepOuts
  split <;> simp
theorem stateOk_len {rs os : List Int} (h : stateOk rs os = true) : rs.length = 8 := by simp [stateOk] at h; omega
theorem stepOuts_le (rs os : List Int) (s : St) (xss : List (List Int)) : (stepOuts rs os s xss).length ≤ rs.length + os.length := by
  unfold stepOuts
  split
  case isTrue h => simp only [stepB, Bool.and_eq_true] at h; have := stateOk_len h.1.1.1; simp; omega
  case isFalse h => omega
theorem inputs_len {rr : List Rw} (h : inputsOk (rr.map Rw.xs) = true) : rr.length = 5 := by simp [inputsOk] at h; omega
theorem inputs_row {rr : List Rw} (h : inputsOk (rr.map Rw.xs) = true) {k : Nat} (hk : k < rr.length) : rr[k].xs.length = 4 ∧ allB rr[k].xs 0 15 = true := by
  simp only [inputsOk, rowsOk, Bool.and_eq_true, List.all_eq_true] at h
  have := h.1 rr[k].xs (List.mem_map.2 ⟨_, List.getElem_mem hk, rfl⟩)
  simp only [rowOk, Bool.and_eq_true] at this
  exact ⟨by have := this.1; simp at this; omega, this.2⟩
theorem state_regs {rs os : List Int} (h : stateOk rs os = true) {i : Int} (h0 : 0 ≤ i) (h7 : i ≤ 7) : 0 ≤ rgd rs i ∧ rgd rs i ≤ 15 := by
  have hl := stateOk_len h
  simp only [stateOk, Bool.and_eq_true] at h
  have := allB_iff.1 h.1.2 (rs[i.toNat]'(by omega)) (List.getElem_mem _)
  simp only [rgd, List.getD, List.getElem?_eq_getElem (show i.toNat < rs.length by omega), Option.getD_some]
  exact this
theorem rgd_at {rs : List Int} {i : Int} (h : i.toNat < rs.length) : rgd rs i = rs[i.toNat] := by simp [rgd, List.getD, List.getElem?_eq_getElem h]

end Go.Proofs.Ytfcijloiebnloaa

/- SStepA -/
namespace Go.Proofs.Ytfcijloiebnloaa
open Go.RowKit
set_option linter.unusedVariables false
set_option linter.unusedSimpArgs false

set_option maxRecDepth 20000 in
set_option maxHeartbeats 8000000 in
theorem sStep_no1 (rs os : List Int) (a1 a2 : Option Addr) (c1 c2 : Nat) (op dst a b c n : Int) (rr : List Rw) (ai : Option Addr) (ci : Nat) (w : World) (hm1 : rs.length ≤ 1048576) (hm2 : os.length ≤ 1048576) (hr1 : RdC w a1 (I64 rs)) (hr2 : RdC w a2 (I64 os)) (hmr : rr.length ≤ 1048576) (hml : rowsLe rr) (hri : RdR w ai rr) (h1 : stateOk rs os = false) :
    Calls Try.prog 85 #[.agg #[.slice a1 rs.length c1, .slice a2 os.length c2], stV ⟨op, dst, a, b, c, n⟩, .slice ai rr.length ci] w fun e w' => ∃ g1 d1 g2 d2, e = .returned (.agg #[.slice (some ⟨g1, 0, none⟩) (stepRegs rs os ⟨op, dst, a, b, c, n⟩ (rr.map Rw.xs)).length d1, .slice (some ⟨g2, 0, none⟩) (stepOuts rs os ⟨op, dst, a, b, c, n⟩ (rr.map Rw.xs)).length d2]) ∧
      Own w' w.heap.size 3 1 (some ⟨g1, 0, none⟩) (stepRegs rs os ⟨op, dst, a, b, c, n⟩ (rr.map Rw.xs)).length d1 (I64 (stepRegs rs os ⟨op, dst, a, b, c, n⟩ (rr.map Rw.xs))) ∧ Own w' w.heap.size 3 1 (some ⟨g2, 0, none⟩) (stepOuts rs os ⟨op, dst, a, b, c, n⟩ (rr.map Rw.xs)).length d2 (I64 (stepOuts rs os ⟨op, dst, a, b, c, n⟩ (rr.map Rw.xs))) ∧ g1 ≠ g2 ∧ Below w.heap.size w w' := by
  have hM1 : rs.length ≤ maxLen := by unfold maxLen; omega
  have hM2 : os.length ≤ maxLen := by unfold maxLen; omega
  have hMr : rr.length ≤ maxLen := by unfold maxLen; omega
  have HN1 := Lib.hid (rd_none hr1)
  have HN2 := Lib.hid (rd_none hr2)
  have HR1 := Lib.hid hr1
  have HR2 := Lib.hid hr2
  have HRI := Lib.hid hri
  clear hr1 hr2 hri
  have hB : stepB ⟨op, dst, a, b, c, n⟩ rs os (rr.map Rw.xs) = false := by simp [stepB, h1]
  have e1 : (stepRegs rs os ⟨op, dst, a, b, c, n⟩ (rr.map Rw.xs)) = rs := by simp [stepRegs, hB]
  have e2 : (stepOuts rs os ⟨op, dst, a, b, c, n⟩ (rr.map Rw.xs)) = os := by simp [stepOuts, hB]
  rw [e1, e2]
  clear hB e1 e2
  have HST := Lib.hid h1
  clear h1
  unfold stV
  go_enter Try.func85, Try.ntmps85
  go_wp2_with fail
  obtain ⟨w0, hw0⟩ : ∃ W, W = ((w.alloc (.cells #[.slice a1 rs.length c1, .slice a2 os.length c2] 102)).alloc (.cells #[.int .i64 op, .int .i64 dst, .int .i64 a, .int .i64 b, .int .i64 c, .int .i64 n] 90)).alloc (.cells #[.slice none 0 0, .slice none 0 0] 102) := ⟨_, rfl⟩
  rw [← hw0]
  have hb0 : Below w.heap.size w w0 := by rw [hw0]; exact (by (repeat (first | with_reducible exact Below.refl _ _ | (with_reducible refine bel_next ?_ ?_ (by assumption)) | (with_reducible refine Below.alloc ?_ ?_ _) | (with_reducible refine Below.drew ?_) | (with_reducible refine below_drewN ?_ _) | (with_reducible refine Below.setCell ?_ ?_ _))) <;> (first | omega | (simp; done) | (simp; omega)))
  have z0 : w.heap.size + 1 + 1 < w0.heap.size := by rw [hw0]; simp
  have k0_0 : w0.cell? ⟨w.heap.size, 0, none⟩ = some (.slice a1 rs.length c1) := by rw [hw0]; go_simp
  have k0_1 : w0.cell? ⟨w.heap.size, 1, none⟩ = some (.slice a2 os.length c2) := by rw [hw0]; go_simp
  have k0_2 : w0.cell? ⟨w.heap.size + 1, 0, none⟩ = some (.int .i64 op) := by rw [hw0]; go_simp
  have k0_3 : w0.cell? ⟨w.heap.size + 1, 1, none⟩ = some (.int .i64 dst) := by rw [hw0]; go_simp
  have k0_4 : w0.cell? ⟨w.heap.size + 1, 2, none⟩ = some (.int .i64 a) := by rw [hw0]; go_simp
  have k0_5 : w0.cell? ⟨w.heap.size + 1, 3, none⟩ = some (.int .i64 b) := by rw [hw0]; go_simp
  have k0_6 : w0.cell? ⟨w.heap.size + 1, 4, none⟩ = some (.int .i64 c) := by rw [hw0]; go_simp
  have k0_7 : w0.cell? ⟨w.heap.size + 1, 5, none⟩ = some (.int .i64 n) := by rw [hw0]; go_simp
  have k0_8 : w0.cell? ⟨w.heap.size + 1 + 1, 0, none⟩ = some (.slice none 0 0) := by rw [hw0]; go_simp
  have k0_9 : w0.cell? ⟨w.heap.size + 1 + 1, 1, none⟩ = some (.slice none 0 0) := by rw [hw0]; go_simp
  have f0_0 : w0.frozen? ⟨w.heap.size + 1 + 1, 0, none⟩ = false := by rw [hw0]; go_simp
  have f0_1 : w0.frozen? ⟨w.heap.size + 1 + 1, 1, none⟩ = false := by rw [hw0]; go_simp
  clear hw0
  refine (l12Copy_any rs os a1 a2 c1 c2 _ (by omega) (by omega) (HR1.out.below (by (repeat (first | with_reducible exact Below.refl _ _ | (with_reducible refine bel_next ?_ ?_ (by assumption)) | (with_reducible refine Below.alloc ?_ ?_ _) | (with_reducible refine Below.drew ?_) | (with_reducible refine below_drewN ?_ _) | (with_reducible refine Below.setCell ?_ ?_ _))) <;> (first | omega | (simp; done) | (simp; omega)))) (HR2.out.below (by (repeat (first | with_reducible exact Below.refl _ _ | (with_reducible refine bel_next ?_ ?_ (by assumption)) | (with_reducible refine Below.alloc ?_ ?_ _) | (with_reducible refine Below.drew ?_) | (with_reducible refine below_drewN ?_ _) | (with_reducible refine Below.setCell ?_ ?_ _))) <;> (first | omega | (simp; done) | (simp; omega)))) HN1.out HN2.out).mono ?_
  rintro e w1 ⟨g1, d1, g2, d2, rfl, ho1, ho2, hne, hb1⟩
  have z1 := hb1.size
  (try simp at z1)
  have y1_0 : w.heap.size < w1.heap.size := (by omega)
  have y1_1 : w.heap.size + 1 < w1.heap.size := (by omega)
  have y1_2 : w.heap.size + 1 + 1 < w1.heap.size := (by omega)
  have k1_0 := bel_keeps hb1 (b := w.heap.size) (o := 0) (v := .slice a1 rs.length c1) (by first | (go_simp; done) | assumption)
  have k1_1 := bel_keeps hb1 (b := w.heap.size) (o := 1) (v := .slice a2 os.length c2) (by first | (go_simp; done) | assumption)
  have k1_2 := bel_keeps hb1 (b := w.heap.size + 1) (o := 0) (v := .int .i64 op) (by first | (go_simp; done) | assumption)
  have k1_3 := bel_keeps hb1 (b := w.heap.size + 1) (o := 1) (v := .int .i64 dst) (by first | (go_simp; done) | assumption)
  have k1_4 := bel_keeps hb1 (b := w.heap.size + 1) (o := 2) (v := .int .i64 a) (by first | (go_simp; done) | assumption)
  have k1_5 := bel_keeps hb1 (b := w.heap.size + 1) (o := 3) (v := .int .i64 b) (by first | (go_simp; done) | assumption)
  have k1_6 := bel_keeps hb1 (b := w.heap.size + 1) (o := 4) (v := .int .i64 c) (by first | (go_simp; done) | assumption)
  have k1_7 := bel_keeps hb1 (b := w.heap.size + 1) (o := 5) (v := .int .i64 n) (by first | (go_simp; done) | assumption)
  have k1_8 := bel_keeps hb1 (b := w.heap.size + 1 + 1) (o := 0) (v := .slice none 0 0) (by first | (go_simp; done) | assumption)
  have k1_9 := bel_keeps hb1 (b := w.heap.size + 1 + 1) (o := 1) (v := .slice none 0 0) (by first | (go_simp; done) | assumption)
  have f1_0 := bel_free hb1 (b := w.heap.size + 1 + 1) (o := 0) (by first | omega | (simp; done) | (simp; omega)) (by first | (go_simp; done) | assumption)
  have f1_1 := bel_free hb1 (b := w.heap.size + 1 + 1) (o := 1) (by first | omega | (simp; done) | (simp; omega)) (by first | (go_simp; done) | assumption)
  clear k0_0 k0_1 k0_2 k0_3 k0_4 k0_5 k0_6 k0_7 k0_8 k0_9 f0_0 f0_1
  have lg1 := ho1.ge
  have lg2 := ho2.ge
  have hO1 := Lib.hid ho1
  have hO2 := Lib.hid ho2
  clear ho1 ho2
  go_wp2_with fail
  obtain ⟨w2, hw2⟩ : ∃ W, W = w1.alloc (.cells #[.slice (some ⟨g1, 0, none⟩) rs.length d1, .slice (some ⟨g2, 0, none⟩) os.length d2] 102) := ⟨_, rfl⟩
  rw [← hw2]
  have hb2 : Below w1.heap.size w1 w2 := by rw [hw2]; exact (Below.refl _ _).alloc (Nat.le_refl _) _
  have x2 : w1.heap.size < w2.heap.size := by rw [hw2]; simp
  have z2 := hb2.size
  (try simp at z2)
  have y2_0 : w.heap.size < w2.heap.size := (by omega)
  have y2_1 : w.heap.size + 1 < w2.heap.size := (by omega)
  have y2_2 : w.heap.size + 1 + 1 < w2.heap.size := (by omega)
  have k2_0 := bel_keeps hb2 (b := w.heap.size) (o := 0) (v := .slice a1 rs.length c1) (by first | (go_simp; done) | assumption)
  have k2_1 := bel_keeps hb2 (b := w.heap.size) (o := 1) (v := .slice a2 os.length c2) (by first | (go_simp; done) | assumption)
  have k2_2 := bel_keeps hb2 (b := w.heap.size + 1) (o := 0) (v := .int .i64 op) (by first | (go_simp; done) | assumption)
  have k2_3 := bel_keeps hb2 (b := w.heap.size + 1) (o := 1) (v := .int .i64 dst) (by first | (go_simp; done) | assumption)
  have k2_4 := bel_keeps hb2 (b := w.heap.size + 1) (o := 2) (v := .int .i64 a) (by first | (go_simp; done) | assumption)
  have k2_5 := bel_keeps hb2 (b := w.heap.size + 1) (o := 3) (v := .int .i64 b) (by first | (go_simp; done) | assumption)
  have k2_6 := bel_keeps hb2 (b := w.heap.size + 1) (o := 4) (v := .int .i64 c) (by first | (go_simp; done) | assumption)
  have k2_7 := bel_keeps hb2 (b := w.heap.size + 1) (o := 5) (v := .int .i64 n) (by first | (go_simp; done) | assumption)
  have k2_8 := bel_keeps hb2 (b := w.heap.size + 1 + 1) (o := 0) (v := .slice none 0 0) (by first | (go_simp; done) | assumption)
  have k2_9 := bel_keeps hb2 (b := w.heap.size + 1 + 1) (o := 1) (v := .slice none 0 0) (by first | (go_simp; done) | assumption)
  have f2_0 := bel_free hb2 (b := w.heap.size + 1 + 1) (o := 0) (by first | omega | (simp; done) | (simp; omega)) (by first | (go_simp; done) | assumption)
  have f2_1 := bel_free hb2 (b := w.heap.size + 1 + 1) (o := 1) (by first | omega | (simp; done) | (simp; omega)) (by first | (go_simp; done) | assumption)
  clear k1_0 k1_1 k1_2 k1_3 k1_4 k1_5 k1_6 k1_7 k1_8 k1_9 f1_0 f1_1
  have kb2_0 : w2.cell? ⟨w1.heap.size, 0, none⟩ = some (.slice (some ⟨g1, 0, none⟩) rs.length d1) := by rw [hw2]; go_simp
  have kb2_1 : w2.cell? ⟨w1.heap.size, 1, none⟩ = some (.slice (some ⟨g2, 0, none⟩) os.length d2) := by rw [hw2]; go_simp
  have kf2_0 : w2.frozen? ⟨w1.heap.size, 0, none⟩ = false := by rw [hw2]; go_simp
  have kf2_1 : w2.frozen? ⟨w1.heap.size, 1, none⟩ = false := by rw [hw2]; go_simp
  clear hw2
  go_wp2_with fail
  refine (sStateOk_any rs os _ _ _ _ _ hM1 hM2 (HR1.out.below (by (repeat (first | with_reducible exact Below.refl _ _ | (with_reducible refine bel_next ?_ ?_ (by assumption)) | (with_reducible refine Below.alloc ?_ ?_ _) | (with_reducible refine Below.drew ?_) | (with_reducible refine below_drewN ?_ _) | (with_reducible refine Below.setCell ?_ ?_ _))) <;> (first | omega | (simp; done) | (simp; omega)))) (HR2.out.below (by (repeat (first | with_reducible exact Below.refl _ _ | (with_reducible refine bel_next ?_ ?_ (by assumption)) | (with_reducible refine Below.alloc ?_ ?_ _) | (with_reducible refine Below.drew ?_) | (with_reducible refine below_drewN ?_ _) | (with_reducible refine Below.setCell ?_ ?_ _))) <;> (first | omega | (simp; done) | (simp; omega))))).mono ?_
  rintro e w3 ⟨rfl, hb3⟩
  have z3 := hb3.size
  (try simp at z3)
  have y3_0 : w.heap.size < w3.heap.size := (by omega)
  have y3_1 : w.heap.size + 1 < w3.heap.size := (by omega)
  have y3_2 : w.heap.size + 1 + 1 < w3.heap.size := (by omega)
  have y3_3 : w1.heap.size < w3.heap.size := (by omega)
  have k3_0 := bel_keeps hb3 (b := w.heap.size) (o := 0) (v := .slice a1 rs.length c1) (by first | (go_simp; done) | assumption)
  have k3_1 := bel_keeps hb3 (b := w.heap.size) (o := 1) (v := .slice a2 os.length c2) (by first | (go_simp; done) | assumption)
  have k3_2 := bel_keeps hb3 (b := w.heap.size + 1) (o := 0) (v := .int .i64 op) (by first | (go_simp; done) | assumption)
  have k3_3 := bel_keeps hb3 (b := w.heap.size + 1) (o := 1) (v := .int .i64 dst) (by first | (go_simp; done) | assumption)
  have k3_4 := bel_keeps hb3 (b := w.heap.size + 1) (o := 2) (v := .int .i64 a) (by first | (go_simp; done) | assumption)
  have k3_5 := bel_keeps hb3 (b := w.heap.size + 1) (o := 3) (v := .int .i64 b) (by first | (go_simp; done) | assumption)
  have k3_6 := bel_keeps hb3 (b := w.heap.size + 1) (o := 4) (v := .int .i64 c) (by first | (go_simp; done) | assumption)
  have k3_7 := bel_keeps hb3 (b := w.heap.size + 1) (o := 5) (v := .int .i64 n) (by first | (go_simp; done) | assumption)
  have k3_8 := bel_keeps hb3 (b := w.heap.size + 1 + 1) (o := 0) (v := .slice none 0 0) (by first | (go_simp; done) | assumption)
  have k3_9 := bel_keeps hb3 (b := w.heap.size + 1 + 1) (o := 1) (v := .slice none 0 0) (by first | (go_simp; done) | assumption)
  have k3_10 := bel_keeps hb3 (b := w1.heap.size) (o := 0) (v := .slice (some ⟨g1, 0, none⟩) rs.length d1) (by first | (go_simp; done) | assumption)
  have k3_11 := bel_keeps hb3 (b := w1.heap.size) (o := 1) (v := .slice (some ⟨g2, 0, none⟩) os.length d2) (by first | (go_simp; done) | assumption)
  have f3_0 := bel_free hb3 (b := w.heap.size + 1 + 1) (o := 0) (by first | omega | (simp; done) | (simp; omega)) (by first | (go_simp; done) | assumption)
  have f3_1 := bel_free hb3 (b := w.heap.size + 1 + 1) (o := 1) (by first | omega | (simp; done) | (simp; omega)) (by first | (go_simp; done) | assumption)
  have f3_2 := bel_free hb3 (b := w1.heap.size) (o := 0) (by first | omega | (simp; done) | (simp; omega)) (by first | (go_simp; done) | assumption)
  have f3_3 := bel_free hb3 (b := w1.heap.size) (o := 1) (by first | omega | (simp; done) | (simp; omega)) (by first | (go_simp; done) | assumption)
  clear k2_0 k2_1 k2_2 k2_3 k2_4 k2_5 k2_6 k2_7 k2_8 k2_9 kb2_0 kb2_1 f2_0 f2_1 kf2_0 kf2_1
  rw [HST.out]
  go_wp2_with fail
  refine bodyPost_ret (v := .agg #[.slice (some ⟨g1, 0, none⟩) (rs.length) d1, .slice (some ⟨g2, 0, none⟩) (os.length) d2]) (by simp [results, Try.results85, go_sem, k3_8, k3_9, f3_0, f3_1]) rfl ⟨g1, d1, g2, d2, by simp, ?_, ?_, hne, ?_⟩
  · simpa using (hO1.out.lo (lo' := w.heap.size) (by omega)).later (by (repeat (first | with_reducible exact Kp.refl _ _ | (with_reducible refine Kp.rng ?_ (by assumption) ?_) | (with_reducible refine Kp.below ?_ (by assumption)) | (with_reducible refine Kp.grown ?_ (by assumption) ?_) | (with_reducible refine Kp.alloc ?_ _) | (with_reducible refine Kp.drew ?_) | (with_reducible refine Kp.drewN ?_ _) | (with_reducible refine Kp.setCell ?_ _ ?_))) <;> (first | omega | (simp; done) | (simp; omega)))
  · simpa using (hO2.out.lo (lo' := w.heap.size) (by omega)).later (by (repeat (first | with_reducible exact Kp.refl _ _ | (with_reducible refine Kp.rng ?_ (by assumption) ?_) | (with_reducible refine Kp.below ?_ (by assumption)) | (with_reducible refine Kp.grown ?_ (by assumption) ?_) | (with_reducible refine Kp.alloc ?_ _) | (with_reducible refine Kp.drew ?_) | (with_reducible refine Kp.drewN ?_ _) | (with_reducible refine Kp.setCell ?_ _ ?_))) <;> (first | omega | (simp; done) | (simp; omega)))
  · exact (by (repeat (first | with_reducible exact Below.refl _ _ | (with_reducible refine bel_next ?_ ?_ (by assumption)) | (with_reducible refine Below.alloc ?_ ?_ _) | (with_reducible refine Below.drew ?_) | (with_reducible refine below_drewN ?_ _) | (with_reducible refine Below.setCell ?_ ?_ _))) <;> (first | omega | (simp; done) | (simp; omega)))
set_option maxRecDepth 20000 in
set_option maxHeartbeats 8000000 in
theorem sStep_no2 (rs os : List Int) (a1 a2 : Option Addr) (c1 c2 : Nat) (op dst a b c n : Int) (rr : List Rw) (ai : Option Addr) (ci : Nat) (w : World) (hm1 : rs.length ≤ 1048576) (hm2 : os.length ≤ 1048576) (hr1 : RdC w a1 (I64 rs)) (hr2 : RdC w a2 (I64 os)) (hmr : rr.length ≤ 1048576) (hml : rowsLe rr) (hri : RdR w ai rr) (h1 : stateOk rs os = true) (h2 : stOk ⟨op, dst, a, b, c, n⟩ = false) :
    Calls Try.prog 85 #[.agg #[.slice a1 rs.length c1, .slice a2 os.length c2], stV ⟨op, dst, a, b, c, n⟩, .slice ai rr.length ci] w fun e w' => ∃ g1 d1 g2 d2, e = .returned (.agg #[.slice (some ⟨g1, 0, none⟩) (stepRegs rs os ⟨op, dst, a, b, c, n⟩ (rr.map Rw.xs)).length d1, .slice (some ⟨g2, 0, none⟩) (stepOuts rs os ⟨op, dst, a, b, c, n⟩ (rr.map Rw.xs)).length d2]) ∧
      Own w' w.heap.size 3 1 (some ⟨g1, 0, none⟩) (stepRegs rs os ⟨op, dst, a, b, c, n⟩ (rr.map Rw.xs)).length d1 (I64 (stepRegs rs os ⟨op, dst, a, b, c, n⟩ (rr.map Rw.xs))) ∧ Own w' w.heap.size 3 1 (some ⟨g2, 0, none⟩) (stepOuts rs os ⟨op, dst, a, b, c, n⟩ (rr.map Rw.xs)).length d2 (I64 (stepOuts rs os ⟨op, dst, a, b, c, n⟩ (rr.map Rw.xs))) ∧ g1 ≠ g2 ∧ Below w.heap.size w w' := by
  have hM1 : rs.length ≤ maxLen := by unfold maxLen; omega
  have hM2 : os.length ≤ maxLen := by unfold maxLen; omega
  have hMr : rr.length ≤ maxLen := by unfold maxLen; omega
  have HN1 := Lib.hid (rd_none hr1)
  have HN2 := Lib.hid (rd_none hr2)
  have HR1 := Lib.hid hr1
  have HR2 := Lib.hid hr2
  have HRI := Lib.hid hri
  clear hr1 hr2 hri
  have hB : stepB ⟨op, dst, a, b, c, n⟩ rs os (rr.map Rw.xs) = false := by simp [stepB, plainB, h2]
  have e1 : (stepRegs rs os ⟨op, dst, a, b, c, n⟩ (rr.map Rw.xs)) = rs := by simp [stepRegs, hB]
  have e2 : (stepOuts rs os ⟨op, dst, a, b, c, n⟩ (rr.map Rw.xs)) = os := by simp [stepOuts, hB]
  rw [e1, e2]
  clear hB e1 e2
  have HST := Lib.hid h1
  have HS := Lib.hid h2
  clear h1 h2
  unfold stV
  go_enter Try.func85, Try.ntmps85
  go_wp2_with fail
  obtain ⟨w0, hw0⟩ : ∃ W, W = ((w.alloc (.cells #[.slice a1 rs.length c1, .slice a2 os.length c2] 102)).alloc (.cells #[.int .i64 op, .int .i64 dst, .int .i64 a, .int .i64 b, .int .i64 c, .int .i64 n] 90)).alloc (.cells #[.slice none 0 0, .slice none 0 0] 102) := ⟨_, rfl⟩
  rw [← hw0]
  have hb0 : Below w.heap.size w w0 := by rw [hw0]; exact (by (repeat (first | with_reducible exact Below.refl _ _ | (with_reducible refine bel_next ?_ ?_ (by assumption)) | (with_reducible refine Below.alloc ?_ ?_ _) | (with_reducible refine Below.drew ?_) | (with_reducible refine below_drewN ?_ _) | (with_reducible refine Below.setCell ?_ ?_ _))) <;> (first | omega | (simp; done) | (simp; omega)))
  have z0 : w.heap.size + 1 + 1 < w0.heap.size := by rw [hw0]; simp
  have k0_0 : w0.cell? ⟨w.heap.size, 0, none⟩ = some (.slice a1 rs.length c1) := by rw [hw0]; go_simp
  have k0_1 : w0.cell? ⟨w.heap.size, 1, none⟩ = some (.slice a2 os.length c2) := by rw [hw0]; go_simp
  have k0_2 : w0.cell? ⟨w.heap.size + 1, 0, none⟩ = some (.int .i64 op) := by rw [hw0]; go_simp
  have k0_3 : w0.cell? ⟨w.heap.size + 1, 1, none⟩ = some (.int .i64 dst) := by rw [hw0]; go_simp
  have k0_4 : w0.cell? ⟨w.heap.size + 1, 2, none⟩ = some (.int .i64 a) := by rw [hw0]; go_simp
  have k0_5 : w0.cell? ⟨w.heap.size + 1, 3, none⟩ = some (.int .i64 b) := by rw [hw0]; go_simp
  have k0_6 : w0.cell? ⟨w.heap.size + 1, 4, none⟩ = some (.int .i64 c) := by rw [hw0]; go_simp
  have k0_7 : w0.cell? ⟨w.heap.size + 1, 5, none⟩ = some (.int .i64 n) := by rw [hw0]; go_simp
  have k0_8 : w0.cell? ⟨w.heap.size + 1 + 1, 0, none⟩ = some (.slice none 0 0) := by rw [hw0]; go_simp
  have k0_9 : w0.cell? ⟨w.heap.size + 1 + 1, 1, none⟩ = some (.slice none 0 0) := by rw [hw0]; go_simp
  have f0_0 : w0.frozen? ⟨w.heap.size + 1 + 1, 0, none⟩ = false := by rw [hw0]; go_simp
  have f0_1 : w0.frozen? ⟨w.heap.size + 1 + 1, 1, none⟩ = false := by rw [hw0]; go_simp
  clear hw0
  refine (l12Copy_any rs os a1 a2 c1 c2 _ (by omega) (by omega) (HR1.out.below (by (repeat (first | with_reducible exact Below.refl _ _ | (with_reducible refine bel_next ?_ ?_ (by assumption)) | (with_reducible refine Below.alloc ?_ ?_ _) | (with_reducible refine Below.drew ?_) | (with_reducible refine below_drewN ?_ _) | (with_reducible refine Below.setCell ?_ ?_ _))) <;> (first | omega | (simp; done) | (simp; omega)))) (HR2.out.below (by (repeat (first | with_reducible exact Below.refl _ _ | (with_reducible refine bel_next ?_ ?_ (by assumption)) | (with_reducible refine Below.alloc ?_ ?_ _) | (with_reducible refine Below.drew ?_) | (with_reducible refine below_drewN ?_ _) | (with_reducible refine Below.setCell ?_ ?_ _))) <;> (first | omega | (simp; done) | (simp; omega)))) HN1.out HN2.out).mono ?_
  rintro e w1 ⟨g1, d1, g2, d2, rfl, ho1, ho2, hne, hb1⟩
  have z1 := hb1.size
  (try simp at z1)
  have y1_0 : w.heap.size < w1.heap.size := (by omega)
  have y1_1 : w.heap.size + 1 < w1.heap.size := (by omega)
  have y1_2 : w.heap.size + 1 + 1 < w1.heap.size := (by omega)
  have k1_0 := bel_keeps hb1 (b := w.heap.size) (o := 0) (v := .slice a1 rs.length c1) (by first | (go_simp; done) | assumption)
  have k1_1 := bel_keeps hb1 (b := w.heap.size) (o := 1) (v := .slice a2 os.length c2) (by first | (go_simp; done) | assumption)
  have k1_2 := bel_keeps hb1 (b := w.heap.size + 1) (o := 0) (v := .int .i64 op) (by first | (go_simp; done) | assumption)
  have k1_3 := bel_keeps hb1 (b := w.heap.size + 1) (o := 1) (v := .int .i64 dst) (by first | (go_simp; done) | assumption)
  have k1_4 := bel_keeps hb1 (b := w.heap.size + 1) (o := 2) (v := .int .i64 a) (by first | (go_simp; done) | assumption)
  have k1_5 := bel_keeps hb1 (b := w.heap.size + 1) (o := 3) (v := .int .i64 b) (by first | (go_simp; done) | assumption)
  have k1_6 := bel_keeps hb1 (b := w.heap.size + 1) (o := 4) (v := .int .i64 c) (by first | (go_simp; done) | assumption)
  have k1_7 := bel_keeps hb1 (b := w.heap.size + 1) (o := 5) (v := .int .i64 n) (by first | (go_simp; done) | assumption)
  have k1_8 := bel_keeps hb1 (b := w.heap.size + 1 + 1) (o := 0) (v := .slice none 0 0) (by first | (go_simp; done) | assumption)
  have k1_9 := bel_keeps hb1 (b := w.heap.size + 1 + 1) (o := 1) (v := .slice none 0 0) (by first | (go_simp; done) | assumption)
  have f1_0 := bel_free hb1 (b := w.heap.size + 1 + 1) (o := 0) (by first | omega | (simp; done) | (simp; omega)) (by first | (go_simp; done) | assumption)
  have f1_1 := bel_free hb1 (b := w.heap.size + 1 + 1) (o := 1) (by first | omega | (simp; done) | (simp; omega)) (by first | (go_simp; done) | assumption)
  clear k0_0 k0_1 k0_2 k0_3 k0_4 k0_5 k0_6 k0_7 k0_8 k0_9 f0_0 f0_1
  have lg1 := ho1.ge
  have lg2 := ho2.ge
  have hO1 := Lib.hid ho1
  have hO2 := Lib.hid ho2
  clear ho1 ho2
  go_wp2_with fail
  obtain ⟨w2, hw2⟩ : ∃ W, W = w1.alloc (.cells #[.slice (some ⟨g1, 0, none⟩) rs.length d1, .slice (some ⟨g2, 0, none⟩) os.length d2] 102) := ⟨_, rfl⟩
  rw [← hw2]
  have hb2 : Below w1.heap.size w1 w2 := by rw [hw2]; exact (Below.refl _ _).alloc (Nat.le_refl _) _
  have x2 : w1.heap.size < w2.heap.size := by rw [hw2]; simp
  have z2 := hb2.size
  (try simp at z2)
  have y2_0 : w.heap.size < w2.heap.size := (by omega)
  have y2_1 : w.heap.size + 1 < w2.heap.size := (by omega)
  have y2_2 : w.heap.size + 1 + 1 < w2.heap.size := (by omega)
  have k2_0 := bel_keeps hb2 (b := w.heap.size) (o := 0) (v := .slice a1 rs.length c1) (by first | (go_simp; done) | assumption)
  have k2_1 := bel_keeps hb2 (b := w.heap.size) (o := 1) (v := .slice a2 os.length c2) (by first | (go_simp; done) | assumption)
  have k2_2 := bel_keeps hb2 (b := w.heap.size + 1) (o := 0) (v := .int .i64 op) (by first | (go_simp; done) | assumption)
  have k2_3 := bel_keeps hb2 (b := w.heap.size + 1) (o := 1) (v := .int .i64 dst) (by first | (go_simp; done) | assumption)
  have k2_4 := bel_keeps hb2 (b := w.heap.size + 1) (o := 2) (v := .int .i64 a) (by first | (go_simp; done) | assumption)
  have k2_5 := bel_keeps hb2 (b := w.heap.size + 1) (o := 3) (v := .int .i64 b) (by first | (go_simp; done) | assumption)
  have k2_6 := bel_keeps hb2 (b := w.heap.size + 1) (o := 4) (v := .int .i64 c) (by first | (go_simp; done) | assumption)
  have k2_7 := bel_keeps hb2 (b := w.heap.size + 1) (o := 5) (v := .int .i64 n) (by first | (go_simp; done) | assumption)
  have k2_8 := bel_keeps hb2 (b := w.heap.size + 1 + 1) (o := 0) (v := .slice none 0 0) (by first | (go_simp; done) | assumption)
  have k2_9 := bel_keeps hb2 (b := w.heap.size + 1 + 1) (o := 1) (v := .slice none 0 0) (by first | (go_simp; done) | assumption)
  have f2_0 := bel_free hb2 (b := w.heap.size + 1 + 1) (o := 0) (by first | omega | (simp; done) | (simp; omega)) (by first | (go_simp; done) | assumption)
  have f2_1 := bel_free hb2 (b := w.heap.size + 1 + 1) (o := 1) (by first | omega | (simp; done) | (simp; omega)) (by first | (go_simp; done) | assumption)
  clear k1_0 k1_1 k1_2 k1_3 k1_4 k1_5 k1_6 k1_7 k1_8 k1_9 f1_0 f1_1
  have kb2_0 : w2.cell? ⟨w1.heap.size, 0, none⟩ = some (.slice (some ⟨g1, 0, none⟩) rs.length d1) := by rw [hw2]; go_simp
  have kb2_1 : w2.cell? ⟨w1.heap.size, 1, none⟩ = some (.slice (some ⟨g2, 0, none⟩) os.length d2) := by rw [hw2]; go_simp
  have kf2_0 : w2.frozen? ⟨w1.heap.size, 0, none⟩ = false := by rw [hw2]; go_simp
  have kf2_1 : w2.frozen? ⟨w1.heap.size, 1, none⟩ = false := by rw [hw2]; go_simp
  clear hw2
  go_wp2_with fail
  refine (sStateOk_any rs os _ _ _ _ _ hM1 hM2 (HR1.out.below (by (repeat (first | with_reducible exact Below.refl _ _ | (with_reducible refine bel_next ?_ ?_ (by assumption)) | (with_reducible refine Below.alloc ?_ ?_ _) | (with_reducible refine Below.drew ?_) | (with_reducible refine below_drewN ?_ _) | (with_reducible refine Below.setCell ?_ ?_ _))) <;> (first | omega | (simp; done) | (simp; omega)))) (HR2.out.below (by (repeat (first | with_reducible exact Below.refl _ _ | (with_reducible refine bel_next ?_ ?_ (by assumption)) | (with_reducible refine Below.alloc ?_ ?_ _) | (with_reducible refine Below.drew ?_) | (with_reducible refine below_drewN ?_ _) | (with_reducible refine Below.setCell ?_ ?_ _))) <;> (first | omega | (simp; done) | (simp; omega))))).mono ?_
  rintro e w3 ⟨rfl, hb3⟩
  have z3 := hb3.size
  (try simp at z3)
  have y3_0 : w.heap.size < w3.heap.size := (by omega)
  have y3_1 : w.heap.size + 1 < w3.heap.size := (by omega)
  have y3_2 : w.heap.size + 1 + 1 < w3.heap.size := (by omega)
  have y3_3 : w1.heap.size < w3.heap.size := (by omega)
  have k3_0 := bel_keeps hb3 (b := w.heap.size) (o := 0) (v := .slice a1 rs.length c1) (by first | (go_simp; done) | assumption)
  have k3_1 := bel_keeps hb3 (b := w.heap.size) (o := 1) (v := .slice a2 os.length c2) (by first | (go_simp; done) | assumption)
  have k3_2 := bel_keeps hb3 (b := w.heap.size + 1) (o := 0) (v := .int .i64 op) (by first | (go_simp; done) | assumption)
  have k3_3 := bel_keeps hb3 (b := w.heap.size + 1) (o := 1) (v := .int .i64 dst) (by first | (go_simp; done) | assumption)
  have k3_4 := bel_keeps hb3 (b := w.heap.size + 1) (o := 2) (v := .int .i64 a) (by first | (go_simp; done) | assumption)
  have k3_5 := bel_keeps hb3 (b := w.heap.size + 1) (o := 3) (v := .int .i64 b) (by first | (go_simp; done) | assumption)
  have k3_6 := bel_keeps hb3 (b := w.heap.size + 1) (o := 4) (v := .int .i64 c) (by first | (go_simp; done) | assumption)
  have k3_7 := bel_keeps hb3 (b := w.heap.size + 1) (o := 5) (v := .int .i64 n) (by first | (go_simp; done) | assumption)
  have k3_8 := bel_keeps hb3 (b := w.heap.size + 1 + 1) (o := 0) (v := .slice none 0 0) (by first | (go_simp; done) | assumption)
  have k3_9 := bel_keeps hb3 (b := w.heap.size + 1 + 1) (o := 1) (v := .slice none 0 0) (by first | (go_simp; done) | assumption)
  have k3_10 := bel_keeps hb3 (b := w1.heap.size) (o := 0) (v := .slice (some ⟨g1, 0, none⟩) rs.length d1) (by first | (go_simp; done) | assumption)
  have k3_11 := bel_keeps hb3 (b := w1.heap.size) (o := 1) (v := .slice (some ⟨g2, 0, none⟩) os.length d2) (by first | (go_simp; done) | assumption)
  have f3_0 := bel_free hb3 (b := w.heap.size + 1 + 1) (o := 0) (by first | omega | (simp; done) | (simp; omega)) (by first | (go_simp; done) | assumption)
  have f3_1 := bel_free hb3 (b := w.heap.size + 1 + 1) (o := 1) (by first | omega | (simp; done) | (simp; omega)) (by first | (go_simp; done) | assumption)
  have f3_2 := bel_free hb3 (b := w1.heap.size) (o := 0) (by first | omega | (simp; done) | (simp; omega)) (by first | (go_simp; done) | assumption)
  have f3_3 := bel_free hb3 (b := w1.heap.size) (o := 1) (by first | omega | (simp; done) | (simp; omega)) (by first | (go_simp; done) | assumption)
  clear k2_0 k2_1 k2_2 k2_3 k2_4 k2_5 k2_6 k2_7 k2_8 k2_9 kb2_0 kb2_1 f2_0 f2_1 kf2_0 kf2_1
  rw [HST.out]
  go_wp2_with fail
  refine (sStmtOk_any ⟨op, dst, a, b, c, n⟩ _).mono ?_
  rintro e w4 ⟨rfl, hb4⟩
  have z4 := hb4.size
  (try simp at z4)
  have y4_0 : w.heap.size < w4.heap.size := (by omega)
  have y4_1 : w.heap.size + 1 < w4.heap.size := (by omega)
  have y4_2 : w.heap.size + 1 + 1 < w4.heap.size := (by omega)
  have y4_3 : w1.heap.size < w4.heap.size := (by omega)
  have k4_0 := bel_keeps hb4 (b := w.heap.size) (o := 0) (v := .slice a1 rs.length c1) (by first | (go_simp; done) | assumption)
  have k4_1 := bel_keeps hb4 (b := w.heap.size) (o := 1) (v := .slice a2 os.length c2) (by first | (go_simp; done) | assumption)
  have k4_2 := bel_keeps hb4 (b := w.heap.size + 1) (o := 0) (v := .int .i64 op) (by first | (go_simp; done) | assumption)
  have k4_3 := bel_keeps hb4 (b := w.heap.size + 1) (o := 1) (v := .int .i64 dst) (by first | (go_simp; done) | assumption)
  have k4_4 := bel_keeps hb4 (b := w.heap.size + 1) (o := 2) (v := .int .i64 a) (by first | (go_simp; done) | assumption)
  have k4_5 := bel_keeps hb4 (b := w.heap.size + 1) (o := 3) (v := .int .i64 b) (by first | (go_simp; done) | assumption)
  have k4_6 := bel_keeps hb4 (b := w.heap.size + 1) (o := 4) (v := .int .i64 c) (by first | (go_simp; done) | assumption)
  have k4_7 := bel_keeps hb4 (b := w.heap.size + 1) (o := 5) (v := .int .i64 n) (by first | (go_simp; done) | assumption)
  have k4_8 := bel_keeps hb4 (b := w.heap.size + 1 + 1) (o := 0) (v := .slice none 0 0) (by first | (go_simp; done) | assumption)
  have k4_9 := bel_keeps hb4 (b := w.heap.size + 1 + 1) (o := 1) (v := .slice none 0 0) (by first | (go_simp; done) | assumption)
  have k4_10 := bel_keeps hb4 (b := w1.heap.size) (o := 0) (v := .slice (some ⟨g1, 0, none⟩) rs.length d1) (by first | (go_simp; done) | assumption)
  have k4_11 := bel_keeps hb4 (b := w1.heap.size) (o := 1) (v := .slice (some ⟨g2, 0, none⟩) os.length d2) (by first | (go_simp; done) | assumption)
  have f4_0 := bel_free hb4 (b := w.heap.size + 1 + 1) (o := 0) (by first | omega | (simp; done) | (simp; omega)) (by first | (go_simp; done) | assumption)
  have f4_1 := bel_free hb4 (b := w.heap.size + 1 + 1) (o := 1) (by first | omega | (simp; done) | (simp; omega)) (by first | (go_simp; done) | assumption)
  have f4_2 := bel_free hb4 (b := w1.heap.size) (o := 0) (by first | omega | (simp; done) | (simp; omega)) (by first | (go_simp; done) | assumption)
  have f4_3 := bel_free hb4 (b := w1.heap.size) (o := 1) (by first | omega | (simp; done) | (simp; omega)) (by first | (go_simp; done) | assumption)
  clear k3_0 k3_1 k3_2 k3_3 k3_4 k3_5 k3_6 k3_7 k3_8 k3_9 k3_10 k3_11 f3_0 f3_1 f3_2 f3_3
  rw [HS.out]
  go_wp2_with fail
  refine bodyPost_ret (v := .agg #[.slice (some ⟨g1, 0, none⟩) (rs.length) d1, .slice (some ⟨g2, 0, none⟩) (os.length) d2]) (by simp [results, Try.results85, go_sem, k4_8, k4_9, f4_0, f4_1]) rfl ⟨g1, d1, g2, d2, by simp, ?_, ?_, hne, ?_⟩
  · simpa using (hO1.out.lo (lo' := w.heap.size) (by omega)).later (by (repeat (first | with_reducible exact Kp.refl _ _ | (with_reducible refine Kp.rng ?_ (by assumption) ?_) | (with_reducible refine Kp.below ?_ (by assumption)) | (with_reducible refine Kp.grown ?_ (by assumption) ?_) | (with_reducible refine Kp.alloc ?_ _) | (with_reducible refine Kp.drew ?_) | (with_reducible refine Kp.drewN ?_ _) | (with_reducible refine Kp.setCell ?_ _ ?_))) <;> (first | omega | (simp; done) | (simp; omega)))
  · simpa using (hO2.out.lo (lo' := w.heap.size) (by omega)).later (by (repeat (first | with_reducible exact Kp.refl _ _ | (with_reducible refine Kp.rng ?_ (by assumption) ?_) | (with_reducible refine Kp.below ?_ (by assumption)) | (with_reducible refine Kp.grown ?_ (by assumption) ?_) | (with_reducible refine Kp.alloc ?_ _) | (with_reducible refine Kp.drew ?_) | (with_reducible refine Kp.drewN ?_ _) | (with_reducible refine Kp.setCell ?_ _ ?_))) <;> (first | omega | (simp; done) | (simp; omega)))
  · exact (by (repeat (first | with_reducible exact Below.refl _ _ | (with_reducible refine bel_next ?_ ?_ (by assumption)) | (with_reducible refine Below.alloc ?_ ?_ _) | (with_reducible refine Below.drew ?_) | (with_reducible refine below_drewN ?_ _) | (with_reducible refine Below.setCell ?_ ?_ _))) <;> (first | omega | (simp; done) | (simp; omega)))
set_option maxRecDepth 20000 in
set_option maxHeartbeats 8000000 in
theorem sStep_no3 (rs os : List Int) (a1 a2 : Option Addr) (c1 c2 : Nat) (op dst a b c n : Int) (rr : List Rw) (ai : Option Addr) (ci : Nat) (w : World) (hm1 : rs.length ≤ 1048576) (hm2 : os.length ≤ 1048576) (hr1 : RdC w a1 (I64 rs)) (hr2 : RdC w a2 (I64 os)) (hmr : rr.length ≤ 1048576) (hml : rowsLe rr) (hri : RdR w ai rr) (h1 : stateOk rs os = true) (h2 : plainB ⟨op, dst, a, b, c, n⟩ = true) (h3 : inputsOk (rr.map Rw.xs) = false) :
    Calls Try.prog 85 #[.agg #[.slice a1 rs.length c1, .slice a2 os.length c2], stV ⟨op, dst, a, b, c, n⟩, .slice ai rr.length ci] w fun e w' => ∃ g1 d1 g2 d2, e = .returned (.agg #[.slice (some ⟨g1, 0, none⟩) (stepRegs rs os ⟨op, dst, a, b, c, n⟩ (rr.map Rw.xs)).length d1, .slice (some ⟨g2, 0, none⟩) (stepOuts rs os ⟨op, dst, a, b, c, n⟩ (rr.map Rw.xs)).length d2]) ∧
      Own w' w.heap.size 3 1 (some ⟨g1, 0, none⟩) (stepRegs rs os ⟨op, dst, a, b, c, n⟩ (rr.map Rw.xs)).length d1 (I64 (stepRegs rs os ⟨op, dst, a, b, c, n⟩ (rr.map Rw.xs))) ∧ Own w' w.heap.size 3 1 (some ⟨g2, 0, none⟩) (stepOuts rs os ⟨op, dst, a, b, c, n⟩ (rr.map Rw.xs)).length d2 (I64 (stepOuts rs os ⟨op, dst, a, b, c, n⟩ (rr.map Rw.xs))) ∧ g1 ≠ g2 ∧ Below w.heap.size w w' := by
  have hM1 : rs.length ≤ maxLen := by unfold maxLen; omega
  have hM2 : os.length ≤ maxLen := by unfold maxLen; omega
  have hMr : rr.length ≤ maxLen := by unfold maxLen; omega
  have HN1 := Lib.hid (rd_none hr1)
  have HN2 := Lib.hid (rd_none hr2)
  have HR1 := Lib.hid hr1
  have HR2 := Lib.hid hr2
  have HRI := Lib.hid hri
  clear hr1 hr2 hri
  have hB : stepB ⟨op, dst, a, b, c, n⟩ rs os (rr.map Rw.xs) = false := by simp [stepB, h3]
  have e1 : (stepRegs rs os ⟨op, dst, a, b, c, n⟩ (rr.map Rw.xs)) = rs := by simp [stepRegs, hB]
  have e2 : (stepOuts rs os ⟨op, dst, a, b, c, n⟩ (rr.map Rw.xs)) = os := by simp [stepOuts, hB]
  rw [e1, e2]
  clear hB e1 e2
  have hst : stOk ⟨op, dst, a, b, c, n⟩ = true := by have h := h2; simp [plainB] at h; exact h.1
  have hop : op ≤ 11 := by have h := h2; simp [plainB] at h; exact h.2
  have HST := Lib.hid h1
  have HS := Lib.hid hst
  have HIN := Lib.hid h3
  clear h1 h2 h3 hst
  unfold stV
  go_enter Try.func85, Try.ntmps85
  go_wp2_with fail
  obtain ⟨w0, hw0⟩ : ∃ W, W = ((w.alloc (.cells #[.slice a1 rs.length c1, .slice a2 os.length c2] 102)).alloc (.cells #[.int .i64 op, .int .i64 dst, .int .i64 a, .int .i64 b, .int .i64 c, .int .i64 n] 90)).alloc (.cells #[.slice none 0 0, .slice none 0 0] 102) := ⟨_, rfl⟩
  rw [← hw0]
  have hb0 : Below w.heap.size w w0 := by rw [hw0]; exact (by (repeat (first | with_reducible exact Below.refl _ _ | (with_reducible refine bel_next ?_ ?_ (by assumption)) | (with_reducible refine Below.alloc ?_ ?_ _) | (with_reducible refine Below.drew ?_) | (with_reducible refine below_drewN ?_ _) | (with_reducible refine Below.setCell ?_ ?_ _))) <;> (first | omega | (simp; done) | (simp; omega)))
  have z0 : w.heap.size + 1 + 1 < w0.heap.size := by rw [hw0]; simp
  have k0_0 : w0.cell? ⟨w.heap.size, 0, none⟩ = some (.slice a1 rs.length c1) := by rw [hw0]; go_simp
  have k0_1 : w0.cell? ⟨w.heap.size, 1, none⟩ = some (.slice a2 os.length c2) := by rw [hw0]; go_simp
  have k0_2 : w0.cell? ⟨w.heap.size + 1, 0, none⟩ = some (.int .i64 op) := by rw [hw0]; go_simp
  have k0_3 : w0.cell? ⟨w.heap.size + 1, 1, none⟩ = some (.int .i64 dst) := by rw [hw0]; go_simp
  have k0_4 : w0.cell? ⟨w.heap.size + 1, 2, none⟩ = some (.int .i64 a) := by rw [hw0]; go_simp
  have k0_5 : w0.cell? ⟨w.heap.size + 1, 3, none⟩ = some (.int .i64 b) := by rw [hw0]; go_simp
  have k0_6 : w0.cell? ⟨w.heap.size + 1, 4, none⟩ = some (.int .i64 c) := by rw [hw0]; go_simp
  have k0_7 : w0.cell? ⟨w.heap.size + 1, 5, none⟩ = some (.int .i64 n) := by rw [hw0]; go_simp
  have k0_8 : w0.cell? ⟨w.heap.size + 1 + 1, 0, none⟩ = some (.slice none 0 0) := by rw [hw0]; go_simp
  have k0_9 : w0.cell? ⟨w.heap.size + 1 + 1, 1, none⟩ = some (.slice none 0 0) := by rw [hw0]; go_simp
  have f0_0 : w0.frozen? ⟨w.heap.size + 1 + 1, 0, none⟩ = false := by rw [hw0]; go_simp
  have f0_1 : w0.frozen? ⟨w.heap.size + 1 + 1, 1, none⟩ = false := by rw [hw0]; go_simp
  clear hw0
  refine (l12Copy_any rs os a1 a2 c1 c2 _ (by omega) (by omega) (HR1.out.below (by (repeat (first | with_reducible exact Below.refl _ _ | (with_reducible refine bel_next ?_ ?_ (by assumption)) | (with_reducible refine Below.alloc ?_ ?_ _) | (with_reducible refine Below.drew ?_) | (with_reducible refine below_drewN ?_ _) | (with_reducible refine Below.setCell ?_ ?_ _))) <;> (first | omega | (simp; done) | (simp; omega)))) (HR2.out.below (by (repeat (first | with_reducible exact Below.refl _ _ | (with_reducible refine bel_next ?_ ?_ (by assumption)) | (with_reducible refine Below.alloc ?_ ?_ _) | (with_reducible refine Below.drew ?_) | (with_reducible refine below_drewN ?_ _) | (with_reducible refine Below.setCell ?_ ?_ _))) <;> (first | omega | (simp; done) | (simp; omega)))) HN1.out HN2.out).mono ?_
  rintro e w1 ⟨g1, d1, g2, d2, rfl, ho1, ho2, hne, hb1⟩
  have z1 := hb1.size
  (try simp at z1)
  have y1_0 : w.heap.size < w1.heap.size := (by omega)
  have y1_1 : w.heap.size + 1 < w1.heap.size := (by omega)
  have y1_2 : w.heap.size + 1 + 1 < w1.heap.size := (by omega)
  have k1_0 := bel_keeps hb1 (b := w.heap.size) (o := 0) (v := .slice a1 rs.length c1) (by first | (go_simp; done) | assumption)
  have k1_1 := bel_keeps hb1 (b := w.heap.size) (o := 1) (v := .slice a2 os.length c2) (by first | (go_simp; done) | assumption)
  have k1_2 := bel_keeps hb1 (b := w.heap.size + 1) (o := 0) (v := .int .i64 op) (by first | (go_simp; done) | assumption)
  have k1_3 := bel_keeps hb1 (b := w.heap.size + 1) (o := 1) (v := .int .i64 dst) (by first | (go_simp; done) | assumption)
  have k1_4 := bel_keeps hb1 (b := w.heap.size + 1) (o := 2) (v := .int .i64 a) (by first | (go_simp; done) | assumption)
  have k1_5 := bel_keeps hb1 (b := w.heap.size + 1) (o := 3) (v := .int .i64 b) (by first | (go_simp; done) | assumption)
  have k1_6 := bel_keeps hb1 (b := w.heap.size + 1) (o := 4) (v := .int .i64 c) (by first | (go_simp; done) | assumption)
  have k1_7 := bel_keeps hb1 (b := w.heap.size + 1) (o := 5) (v := .int .i64 n) (by first | (go_simp; done) | assumption)
  have k1_8 := bel_keeps hb1 (b := w.heap.size + 1 + 1) (o := 0) (v := .slice none 0 0) (by first | (go_simp; done) | assumption)
  have k1_9 := bel_keeps hb1 (b := w.heap.size + 1 + 1) (o := 1) (v := .slice none 0 0) (by first | (go_simp; done) | assumption)
  have f1_0 := bel_free hb1 (b := w.heap.size + 1 + 1) (o := 0) (by first | omega | (simp; done) | (simp; omega)) (by first | (go_simp; done) | assumption)
  have f1_1 := bel_free hb1 (b := w.heap.size + 1 + 1) (o := 1) (by first | omega | (simp; done) | (simp; omega)) (by first | (go_simp; done) | assumption)
  clear k0_0 k0_1 k0_2 k0_3 k0_4 k0_5 k0_6 k0_7 k0_8 k0_9 f0_0 f0_1
  have lg1 := ho1.ge
  have lg2 := ho2.ge
  have hO1 := Lib.hid ho1
  have hO2 := Lib.hid ho2
  clear ho1 ho2
  go_wp2_with fail
  obtain ⟨w2, hw2⟩ : ∃ W, W = w1.alloc (.cells #[.slice (some ⟨g1, 0, none⟩) rs.length d1, .slice (some ⟨g2, 0, none⟩) os.length d2] 102) := ⟨_, rfl⟩
  rw [← hw2]
  have hb2 : Below w1.heap.size w1 w2 := by rw [hw2]; exact (Below.refl _ _).alloc (Nat.le_refl _) _
  have x2 : w1.heap.size < w2.heap.size := by rw [hw2]; simp
  have z2 := hb2.size
  (try simp at z2)
  have y2_0 : w.heap.size < w2.heap.size := (by omega)
  have y2_1 : w.heap.size + 1 < w2.heap.size := (by omega)
  have y2_2 : w.heap.size + 1 + 1 < w2.heap.size := (by omega)
  have k2_0 := bel_keeps hb2 (b := w.heap.size) (o := 0) (v := .slice a1 rs.length c1) (by first | (go_simp; done) | assumption)
  have k2_1 := bel_keeps hb2 (b := w.heap.size) (o := 1) (v := .slice a2 os.length c2) (by first | (go_simp; done) | assumption)
  have k2_2 := bel_keeps hb2 (b := w.heap.size + 1) (o := 0) (v := .int .i64 op) (by first | (go_simp; done) | assumption)
  have k2_3 := bel_keeps hb2 (b := w.heap.size + 1) (o := 1) (v := .int .i64 dst) (by first | (go_simp; done) | assumption)
  have k2_4 := bel_keeps hb2 (b := w.heap.size + 1) (o := 2) (v := .int .i64 a) (by first | (go_simp; done) | assumption)
  have k2_5 := bel_keeps hb2 (b := w.heap.size + 1) (o := 3) (v := .int .i64 b) (by first | (go_simp; done) | assumption)
  have k2_6 := bel_keeps hb2 (b := w.heap.size + 1) (o := 4) (v := .int .i64 c) (by first | (go_simp; done) | assumption)
  have k2_7 := bel_keeps hb2 (b := w.heap.size + 1) (o := 5) (v := .int .i64 n) (by first | (go_simp; done) | assumption)
  have k2_8 := bel_keeps hb2 (b := w.heap.size + 1 + 1) (o := 0) (v := .slice none 0 0) (by first | (go_simp; done) | assumption)
  have k2_9 := bel_keeps hb2 (b := w.heap.size + 1 + 1) (o := 1) (v := .slice none 0 0) (by first | (go_simp; done) | assumption)
  have f2_0 := bel_free hb2 (b := w.heap.size + 1 + 1) (o := 0) (by first | omega | (simp; done) | (simp; omega)) (by first | (go_simp; done) | assumption)
  have f2_1 := bel_free hb2 (b := w.heap.size + 1 + 1) (o := 1) (by first | omega | (simp; done) | (simp; omega)) (by first | (go_simp; done) | assumption)
  clear k1_0 k1_1 k1_2 k1_3 k1_4 k1_5 k1_6 k1_7 k1_8 k1_9 f1_0 f1_1
  have kb2_0 : w2.cell? ⟨w1.heap.size, 0, none⟩ = some (.slice (some ⟨g1, 0, none⟩) rs.length d1) := by rw [hw2]; go_simp
  have kb2_1 : w2.cell? ⟨w1.heap.size, 1, none⟩ = some (.slice (some ⟨g2, 0, none⟩) os.length d2) := by rw [hw2]; go_simp
  have kf2_0 : w2.frozen? ⟨w1.heap.size, 0, none⟩ = false := by rw [hw2]; go_simp
  have kf2_1 : w2.frozen? ⟨w1.heap.size, 1, none⟩ = false := by rw [hw2]; go_simp
  clear hw2
  go_wp2_with fail
  refine (sStateOk_any rs os _ _ _ _ _ hM1 hM2 (HR1.out.below (by (repeat (first | with_reducible exact Below.refl _ _ | (with_reducible refine bel_next ?_ ?_ (by assumption)) | (with_reducible refine Below.alloc ?_ ?_ _) | (with_reducible refine Below.drew ?_) | (with_reducible refine below_drewN ?_ _) | (with_reducible refine Below.setCell ?_ ?_ _))) <;> (first | omega | (simp; done) | (simp; omega)))) (HR2.out.below (by (repeat (first | with_reducible exact Below.refl _ _ | (with_reducible refine bel_next ?_ ?_ (by assumption)) | (with_reducible refine Below.alloc ?_ ?_ _) | (with_reducible refine Below.drew ?_) | (with_reducible refine below_drewN ?_ _) | (with_reducible refine Below.setCell ?_ ?_ _))) <;> (first | omega | (simp; done) | (simp; omega))))).mono ?_
  rintro e w3 ⟨rfl, hb3⟩
  have z3 := hb3.size
  (try simp at z3)
  have y3_0 : w.heap.size < w3.heap.size := (by omega)
  have y3_1 : w.heap.size + 1 < w3.heap.size := (by omega)
  have y3_2 : w.heap.size + 1 + 1 < w3.heap.size := (by omega)
  have y3_3 : w1.heap.size < w3.heap.size := (by omega)
  have k3_0 := bel_keeps hb3 (b := w.heap.size) (o := 0) (v := .slice a1 rs.length c1) (by first | (go_simp; done) | assumption)
  have k3_1 := bel_keeps hb3 (b := w.heap.size) (o := 1) (v := .slice a2 os.length c2) (by first | (go_simp; done) | assumption)
  have k3_2 := bel_keeps hb3 (b := w.heap.size + 1) (o := 0) (v := .int .i64 op) (by first | (go_simp; done) | assumption)
  have k3_3 := bel_keeps hb3 (b := w.heap.size + 1) (o := 1) (v := .int .i64 dst) (by first | (go_simp; done) | assumption)
  have k3_4 := bel_keeps hb3 (b := w.heap.size + 1) (o := 2) (v := .int .i64 a) (by first | (go_simp; done) | assumption)
  have k3_5 := bel_keeps hb3 (b := w.heap.size + 1) (o := 3) (v := .int .i64 b) (by first | (go_simp; done) | assumption)
  have k3_6 := bel_keeps hb3 (b := w.heap.size + 1) (o := 4) (v := .int .i64 c) (by first | (go_simp; done) | assumption)
  have k3_7 := bel_keeps hb3 (b := w.heap.size + 1) (o := 5) (v := .int .i64 n) (by first | (go_simp; done) | assumption)
  have k3_8 := bel_keeps hb3 (b := w.heap.size + 1 + 1) (o := 0) (v := .slice none 0 0) (by first | (go_simp; done) | assumption)
  have k3_9 := bel_keeps hb3 (b := w.heap.size + 1 + 1) (o := 1) (v := .slice none 0 0) (by first | (go_simp; done) | assumption)
  have k3_10 := bel_keeps hb3 (b := w1.heap.size) (o := 0) (v := .slice (some ⟨g1, 0, none⟩) rs.length d1) (by first | (go_simp; done) | assumption)
  have k3_11 := bel_keeps hb3 (b := w1.heap.size) (o := 1) (v := .slice (some ⟨g2, 0, none⟩) os.length d2) (by first | (go_simp; done) | assumption)
  have f3_0 := bel_free hb3 (b := w.heap.size + 1 + 1) (o := 0) (by first | omega | (simp; done) | (simp; omega)) (by first | (go_simp; done) | assumption)
  have f3_1 := bel_free hb3 (b := w.heap.size + 1 + 1) (o := 1) (by first | omega | (simp; done) | (simp; omega)) (by first | (go_simp; done) | assumption)
  have f3_2 := bel_free hb3 (b := w1.heap.size) (o := 0) (by first | omega | (simp; done) | (simp; omega)) (by first | (go_simp; done) | assumption)
  have f3_3 := bel_free hb3 (b := w1.heap.size) (o := 1) (by first | omega | (simp; done) | (simp; omega)) (by first | (go_simp; done) | assumption)
  clear k2_0 k2_1 k2_2 k2_3 k2_4 k2_5 k2_6 k2_7 k2_8 k2_9 kb2_0 kb2_1 f2_0 f2_1 kf2_0 kf2_1
  rw [HST.out]
  go_wp2_with fail
  refine (sStmtOk_any ⟨op, dst, a, b, c, n⟩ _).mono ?_
  rintro e w4 ⟨rfl, hb4⟩
  have z4 := hb4.size
  (try simp at z4)
  have y4_0 : w.heap.size < w4.heap.size := (by omega)
  have y4_1 : w.heap.size + 1 < w4.heap.size := (by omega)
  have y4_2 : w.heap.size + 1 + 1 < w4.heap.size := (by omega)
  have y4_3 : w1.heap.size < w4.heap.size := (by omega)
  have k4_0 := bel_keeps hb4 (b := w.heap.size) (o := 0) (v := .slice a1 rs.length c1) (by first | (go_simp; done) | assumption)
  have k4_1 := bel_keeps hb4 (b := w.heap.size) (o := 1) (v := .slice a2 os.length c2) (by first | (go_simp; done) | assumption)
  have k4_2 := bel_keeps hb4 (b := w.heap.size + 1) (o := 0) (v := .int .i64 op) (by first | (go_simp; done) | assumption)
  have k4_3 := bel_keeps hb4 (b := w.heap.size + 1) (o := 1) (v := .int .i64 dst) (by first | (go_simp; done) | assumption)
  have k4_4 := bel_keeps hb4 (b := w.heap.size + 1) (o := 2) (v := .int .i64 a) (by first | (go_simp; done) | assumption)
  have k4_5 := bel_keeps hb4 (b := w.heap.size + 1) (o := 3) (v := .int .i64 b) (by first | (go_simp; done) | assumption)
  have k4_6 := bel_keeps hb4 (b := w.heap.size + 1) (o := 4) (v := .int .i64 c) (by first | (go_simp; done) | assumption)
  have k4_7 := bel_keeps hb4 (b := w.heap.size + 1) (o := 5) (v := .int .i64 n) (by first | (go_simp; done) | assumption)
  have k4_8 := bel_keeps hb4 (b := w.heap.size + 1 + 1) (o := 0) (v := .slice none 0 0) (by first | (go_simp; done) | assumption)
  have k4_9 := bel_keeps hb4 (b := w.heap.size + 1 + 1) (o := 1) (v := .slice none 0 0) (by first | (go_simp; done) | assumption)
  have k4_10 := bel_keeps hb4 (b := w1.heap.size) (o := 0) (v := .slice (some ⟨g1, 0, none⟩) rs.length d1) (by first | (go_simp; done) | assumption)
  have k4_11 := bel_keeps hb4 (b := w1.heap.size) (o := 1) (v := .slice (some ⟨g2, 0, none⟩) os.length d2) (by first | (go_simp; done) | assumption)
  have f4_0 := bel_free hb4 (b := w.heap.size + 1 + 1) (o := 0) (by first | omega | (simp; done) | (simp; omega)) (by first | (go_simp; done) | assumption)
  have f4_1 := bel_free hb4 (b := w.heap.size + 1 + 1) (o := 1) (by first | omega | (simp; done) | (simp; omega)) (by first | (go_simp; done) | assumption)
  have f4_2 := bel_free hb4 (b := w1.heap.size) (o := 0) (by first | omega | (simp; done) | (simp; omega)) (by first | (go_simp; done) | assumption)
  have f4_3 := bel_free hb4 (b := w1.heap.size) (o := 1) (by first | omega | (simp; done) | (simp; omega)) (by first | (go_simp; done) | assumption)
  clear k3_0 k3_1 k3_2 k3_3 k3_4 k3_5 k3_6 k3_7 k3_8 k3_9 k3_10 k3_11 f3_0 f3_1 f3_2 f3_3
  rw [HS.out]
  go_wp2_with fail
  refine (sInputsOk_any rr _ _ _ hMr hml (HRI.out.below (by (repeat (first | with_reducible exact Below.refl _ _ | (with_reducible refine bel_next ?_ ?_ (by assumption)) | (with_reducible refine Below.alloc ?_ ?_ _) | (with_reducible refine Below.drew ?_) | (with_reducible refine below_drewN ?_ _) | (with_reducible refine Below.setCell ?_ ?_ _))) <;> (first | omega | (simp; done) | (simp; omega))))).mono ?_
  rintro e _ ⟨rfl, rfl⟩
  rw [HIN.out]
  go_wp2_with fail
  refine bodyPost_ret (v := .agg #[.slice (some ⟨g1, 0, none⟩) (rs.length) d1, .slice (some ⟨g2, 0, none⟩) (os.length) d2]) (by simp [results, Try.results85, go_sem, k4_8, k4_9, f4_0, f4_1]) rfl ⟨g1, d1, g2, d2, by simp, ?_, ?_, hne, ?_⟩
  · simpa using (hO1.out.lo (lo' := w.heap.size) (by omega)).later (by (repeat (first | with_reducible exact Kp.refl _ _ | (with_reducible refine Kp.rng ?_ (by assumption) ?_) | (with_reducible refine Kp.below ?_ (by assumption)) | (with_reducible refine Kp.grown ?_ (by assumption) ?_) | (with_reducible refine Kp.alloc ?_ _) | (with_reducible refine Kp.drew ?_) | (with_reducible refine Kp.drewN ?_ _) | (with_reducible refine Kp.setCell ?_ _ ?_))) <;> (first | omega | (simp; done) | (simp; omega)))
  · simpa using (hO2.out.lo (lo' := w.heap.size) (by omega)).later (by (repeat (first | with_reducible exact Kp.refl _ _ | (with_reducible refine Kp.rng ?_ (by assumption) ?_) | (with_reducible refine Kp.below ?_ (by assumption)) | (with_reducible refine Kp.grown ?_ (by assumption) ?_) | (with_reducible refine Kp.alloc ?_ _) | (with_reducible refine Kp.drew ?_) | (with_reducible refine Kp.drewN ?_ _) | (with_reducible refine Kp.setCell ?_ _ ?_))) <;> (first | omega | (simp; done) | (simp; omega)))
  · exact (by (repeat (first | with_reducible exact Below.refl _ _ | (with_reducible refine bel_next ?_ ?_ (by assumption)) | (with_reducible refine Below.alloc ?_ ?_ _) | (with_reducible refine Below.drew ?_) | (with_reducible refine below_drewN ?_ _) | (with_reducible refine Below.setCell ?_ ?_ _))) <;> (first | omega | (simp; done) | (simp; omega)))
set_option maxRecDepth 20000 in
set_option maxHeartbeats 8000000 in
theorem sStep_no4 (rs os : List Int) (a1 a2 : Option Addr) (c1 c2 : Nat) (op dst a b c n : Int) (rr : List Rw) (ai : Option Addr) (ci : Nat) (w : World) (hm1 : rs.length ≤ 1048576) (hm2 : os.length ≤ 1048576) (hr1 : RdC w a1 (I64 rs)) (hr2 : RdC w a2 (I64 os)) (hmr : rr.length ≤ 1048576) (hml : rowsLe rr) (hri : RdR w ai rr) (h1 : stateOk rs os = true) (h2 : stOk ⟨op, dst, a, b, c, n⟩ = true) (h12 : 11 < op) :
    Calls Try.prog 85 #[.agg #[.slice a1 rs.length c1, .slice a2 os.length c2], stV ⟨op, dst, a, b, c, n⟩, .slice ai rr.length ci] w fun e w' => ∃ g1 d1 g2 d2, e = .returned (.agg #[.slice (some ⟨g1, 0, none⟩) (stepRegs rs os ⟨op, dst, a, b, c, n⟩ (rr.map Rw.xs)).length d1, .slice (some ⟨g2, 0, none⟩) (stepOuts rs os ⟨op, dst, a, b, c, n⟩ (rr.map Rw.xs)).length d2]) ∧
      Own w' w.heap.size 3 1 (some ⟨g1, 0, none⟩) (stepRegs rs os ⟨op, dst, a, b, c, n⟩ (rr.map Rw.xs)).length d1 (I64 (stepRegs rs os ⟨op, dst, a, b, c, n⟩ (rr.map Rw.xs))) ∧ Own w' w.heap.size 3 1 (some ⟨g2, 0, none⟩) (stepOuts rs os ⟨op, dst, a, b, c, n⟩ (rr.map Rw.xs)).length d2 (I64 (stepOuts rs os ⟨op, dst, a, b, c, n⟩ (rr.map Rw.xs))) ∧ g1 ≠ g2 ∧ Below w.heap.size w w' := by
  have hM1 : rs.length ≤ maxLen := by unfold maxLen; omega
  have hM2 : os.length ≤ maxLen := by unfold maxLen; omega
  have hMr : rr.length ≤ maxLen := by unfold maxLen; omega
  have HN1 := Lib.hid (rd_none hr1)
  have HN2 := Lib.hid (rd_none hr2)
  have HR1 := Lib.hid hr1
  have HR2 := Lib.hid hr2
  have HRI := Lib.hid hri
  clear hr1 hr2 hri
  have hB : stepB ⟨op, dst, a, b, c, n⟩ rs os (rr.map Rw.xs) = false := by simp [stepB, plainB]; intros; omega
  have e1 : (stepRegs rs os ⟨op, dst, a, b, c, n⟩ (rr.map Rw.xs)) = rs := by simp [stepRegs, hB]
  have e2 : (stepOuts rs os ⟨op, dst, a, b, c, n⟩ (rr.map Rw.xs)) = os := by simp [stepOuts, hB]
  rw [e1, e2]
  clear hB e1 e2
  have HST := Lib.hid h1
  have HS := Lib.hid h2
  clear h1 h2
  unfold stV
  go_enter Try.func85, Try.ntmps85
  go_wp2_with fail
  obtain ⟨w0, hw0⟩ : ∃ W, W = ((w.alloc (.cells #[.slice a1 rs.length c1, .slice a2 os.length c2] 102)).alloc (.cells #[.int .i64 op, .int .i64 dst, .int .i64 a, .int .i64 b, .int .i64 c, .int .i64 n] 90)).alloc (.cells #[.slice none 0 0, .slice none 0 0] 102) := ⟨_, rfl⟩
  rw [← hw0]
  have hb0 : Below w.heap.size w w0 := by rw [hw0]; exact (by (repeat (first | with_reducible exact Below.refl _ _ | (with_reducible refine bel_next ?_ ?_ (by assumption)) | (with_reducible refine Below.alloc ?_ ?_ _) | (with_reducible refine Below.drew ?_) | (with_reducible refine below_drewN ?_ _) | (with_reducible refine Below.setCell ?_ ?_ _))) <;> (first | omega | (simp; done) | (simp; omega)))
  have z0 : w.heap.size + 1 + 1 < w0.heap.size := by rw [hw0]; simp
  have k0_0 : w0.cell? ⟨w.heap.size, 0, none⟩ = some (.slice a1 rs.length c1) := by rw [hw0]; go_simp
  have k0_1 : w0.cell? ⟨w.heap.size, 1, none⟩ = some (.slice a2 os.length c2) := by rw [hw0]; go_simp
  have k0_2 : w0.cell? ⟨w.heap.size + 1, 0, none⟩ = some (.int .i64 op) := by rw [hw0]; go_simp
  have k0_3 : w0.cell? ⟨w.heap.size + 1, 1, none⟩ = some (.int .i64 dst) := by rw [hw0]; go_simp
  have k0_4 : w0.cell? ⟨w.heap.size + 1, 2, none⟩ = some (.int .i64 a) := by rw [hw0]; go_simp
  have k0_5 : w0.cell? ⟨w.heap.size + 1, 3, none⟩ = some (.int .i64 b) := by rw [hw0]; go_simp
  have k0_6 : w0.cell? ⟨w.heap.size + 1, 4, none⟩ = some (.int .i64 c) := by rw [hw0]; go_simp
  have k0_7 : w0.cell? ⟨w.heap.size + 1, 5, none⟩ = some (.int .i64 n) := by rw [hw0]; go_simp
  have k0_8 : w0.cell? ⟨w.heap.size + 1 + 1, 0, none⟩ = some (.slice none 0 0) := by rw [hw0]; go_simp
  have k0_9 : w0.cell? ⟨w.heap.size + 1 + 1, 1, none⟩ = some (.slice none 0 0) := by rw [hw0]; go_simp
  have f0_0 : w0.frozen? ⟨w.heap.size + 1 + 1, 0, none⟩ = false := by rw [hw0]; go_simp
  have f0_1 : w0.frozen? ⟨w.heap.size + 1 + 1, 1, none⟩ = false := by rw [hw0]; go_simp
  clear hw0
  refine (l12Copy_any rs os a1 a2 c1 c2 _ (by omega) (by omega) (HR1.out.below (by (repeat (first | with_reducible exact Below.refl _ _ | (with_reducible refine bel_next ?_ ?_ (by assumption)) | (with_reducible refine Below.alloc ?_ ?_ _) | (with_reducible refine Below.drew ?_) | (with_reducible refine below_drewN ?_ _) | (with_reducible refine Below.setCell ?_ ?_ _))) <;> (first | omega | (simp; done) | (simp; omega)))) (HR2.out.below (by (repeat (first | with_reducible exact Below.refl _ _ | (with_reducible refine bel_next ?_ ?_ (by assumption)) | (with_reducible refine Below.alloc ?_ ?_ _) | (with_reducible refine Below.drew ?_) | (with_reducible refine below_drewN ?_ _) | (with_reducible refine Below.setCell ?_ ?_ _))) <;> (first | omega | (simp; done) | (simp; omega)))) HN1.out HN2.out).mono ?_
  rintro e w1 ⟨g1, d1, g2, d2, rfl, ho1, ho2, hne, hb1⟩
  have z1 := hb1.size
  (try simp at z1)
  have y1_0 : w.heap.size < w1.heap.size := (by omega)
  have y1_1 : w.heap.size + 1 < w1.heap.size := (by omega)
  have y1_2 : w.heap.size + 1 + 1 < w1.heap.size := (by omega)
  have k1_0 := bel_keeps hb1 (b := w.heap.size) (o := 0) (v := .slice a1 rs.length c1) (by first | (go_simp; done) | assumption)
  have k1_1 := bel_keeps hb1 (b := w.heap.size) (o := 1) (v := .slice a2 os.length c2) (by first | (go_simp; done) | assumption)
  have k1_2 := bel_keeps hb1 (b := w.heap.size + 1) (o := 0) (v := .int .i64 op) (by first | (go_simp; done) | assumption)
  have k1_3 := bel_keeps hb1 (b := w.heap.size + 1) (o := 1) (v := .int .i64 dst) (by first | (go_simp; done) | assumption)
  have k1_4 := bel_keeps hb1 (b := w.heap.size + 1) (o := 2) (v := .int .i64 a) (by first | (go_simp; done) | assumption)
  have k1_5 := bel_keeps hb1 (b := w.heap.size + 1) (o := 3) (v := .int .i64 b) (by first | (go_simp; done) | assumption)
  have k1_6 := bel_keeps hb1 (b := w.heap.size + 1) (o := 4) (v := .int .i64 c) (by first | (go_simp; done) | assumption)
  have k1_7 := bel_keeps hb1 (b := w.heap.size + 1) (o := 5) (v := .int .i64 n) (by first | (go_simp; done) | assumption)
  have k1_8 := bel_keeps hb1 (b := w.heap.size + 1 + 1) (o := 0) (v := .slice none 0 0) (by first | (go_simp; done) | assumption)
  have k1_9 := bel_keeps hb1 (b := w.heap.size + 1 + 1) (o := 1) (v := .slice none 0 0) (by first | (go_simp; done) | assumption)
  have f1_0 := bel_free hb1 (b := w.heap.size + 1 + 1) (o := 0) (by first | omega | (simp; done) | (simp; omega)) (by first | (go_simp; done) | assumption)
  have f1_1 := bel_free hb1 (b := w.heap.size + 1 + 1) (o := 1) (by first | omega | (simp; done) | (simp; omega)) (by first | (go_simp; done) | assumption)
  clear k0_0 k0_1 k0_2 k0_3 k0_4 k0_5 k0_6 k0_7 k0_8 k0_9 f0_0 f0_1
  have lg1 := ho1.ge
  have lg2 := ho2.ge
  have hO1 := Lib.hid ho1
  have hO2 := Lib.hid ho2
  clear ho1 ho2
  go_wp2_with fail
  obtain ⟨w2, hw2⟩ : ∃ W, W = w1.alloc (.cells #[.slice (some ⟨g1, 0, none⟩) rs.length d1, .slice (some ⟨g2, 0, none⟩) os.length d2] 102) := ⟨_, rfl⟩
  rw [← hw2]
  have hb2 : Below w1.heap.size w1 w2 := by rw [hw2]; exact (Below.refl _ _).alloc (Nat.le_refl _) _
  have x2 : w1.heap.size < w2.heap.size := by rw [hw2]; simp
  have z2 := hb2.size
  (try simp at z2)
  have y2_0 : w.heap.size < w2.heap.size := (by omega)
  have y2_1 : w.heap.size + 1 < w2.heap.size := (by omega)
  have y2_2 : w.heap.size + 1 + 1 < w2.heap.size := (by omega)
  have k2_0 := bel_keeps hb2 (b := w.heap.size) (o := 0) (v := .slice a1 rs.length c1) (by first | (go_simp; done) | assumption)
  have k2_1 := bel_keeps hb2 (b := w.heap.size) (o := 1) (v := .slice a2 os.length c2) (by first | (go_simp; done) | assumption)
  have k2_2 := bel_keeps hb2 (b := w.heap.size + 1) (o := 0) (v := .int .i64 op) (by first | (go_simp; done) | assumption)
  have k2_3 := bel_keeps hb2 (b := w.heap.size + 1) (o := 1) (v := .int .i64 dst) (by first | (go_simp; done) | assumption)
  have k2_4 := bel_keeps hb2 (b := w.heap.size + 1) (o := 2) (v := .int .i64 a) (by first | (go_simp; done) | assumption)
  have k2_5 := bel_keeps hb2 (b := w.heap.size + 1) (o := 3) (v := .int .i64 b) (by first | (go_simp; done) | assumption)
  have k2_6 := bel_keeps hb2 (b := w.heap.size + 1) (o := 4) (v := .int .i64 c) (by first | (go_simp; done) | assumption)
  have k2_7 := bel_keeps hb2 (b := w.heap.size + 1) (o := 5) (v := .int .i64 n) (by first | (go_simp; done) | assumption)
  have k2_8 := bel_keeps hb2 (b := w.heap.size + 1 + 1) (o := 0) (v := .slice none 0 0) (by first | (go_simp; done) | assumption)
  have k2_9 := bel_keeps hb2 (b := w.heap.size + 1 + 1) (o := 1) (v := .slice none 0 0) (by first | (go_simp; done) | assumption)
  have f2_0 := bel_free hb2 (b := w.heap.size + 1 + 1) (o := 0) (by first | omega | (simp; done) | (simp; omega)) (by first | (go_simp; done) | assumption)
  have f2_1 := bel_free hb2 (b := w.heap.size + 1 + 1) (o := 1) (by first | omega | (simp; done) | (simp; omega)) (by first | (go_simp; done) | assumption)
  clear k1_0 k1_1 k1_2 k1_3 k1_4 k1_5 k1_6 k1_7 k1_8 k1_9 f1_0 f1_1
  have kb2_0 : w2.cell? ⟨w1.heap.size, 0, none⟩ = some (.slice (some ⟨g1, 0, none⟩) rs.length d1) := by rw [hw2]; go_simp
  have kb2_1 : w2.cell? ⟨w1.heap.size, 1, none⟩ = some (.slice (some ⟨g2, 0, none⟩) os.length d2) := by rw [hw2]; go_simp
  have kf2_0 : w2.frozen? ⟨w1.heap.size, 0, none⟩ = false := by rw [hw2]; go_simp
  have kf2_1 : w2.frozen? ⟨w1.heap.size, 1, none⟩ = false := by rw [hw2]; go_simp
  clear hw2
  go_wp2_with fail
  refine (sStateOk_any rs os _ _ _ _ _ hM1 hM2 (HR1.out.below (by (repeat (first | with_reducible exact Below.refl _ _ | (with_reducible refine bel_next ?_ ?_ (by assumption)) | (with_reducible refine Below.alloc ?_ ?_ _) | (with_reducible refine Below.drew ?_) | (with_reducible refine below_drewN ?_ _) | (with_reducible refine Below.setCell ?_ ?_ _))) <;> (first | omega | (simp; done) | (simp; omega)))) (HR2.out.below (by (repeat (first | with_reducible exact Below.refl _ _ | (with_reducible refine bel_next ?_ ?_ (by assumption)) | (with_reducible refine Below.alloc ?_ ?_ _) | (with_reducible refine Below.drew ?_) | (with_reducible refine below_drewN ?_ _) | (with_reducible refine Below.setCell ?_ ?_ _))) <;> (first | omega | (simp; done) | (simp; omega))))).mono ?_
  rintro e w3 ⟨rfl, hb3⟩
  have z3 := hb3.size
  (try simp at z3)
  have y3_0 : w.heap.size < w3.heap.size := (by omega)
  have y3_1 : w.heap.size + 1 < w3.heap.size := (by omega)
  have y3_2 : w.heap.size + 1 + 1 < w3.heap.size := (by omega)
  have y3_3 : w1.heap.size < w3.heap.size := (by omega)
  have k3_0 := bel_keeps hb3 (b := w.heap.size) (o := 0) (v := .slice a1 rs.length c1) (by first | (go_simp; done) | assumption)
  have k3_1 := bel_keeps hb3 (b := w.heap.size) (o := 1) (v := .slice a2 os.length c2) (by first | (go_simp; done) | assumption)
  have k3_2 := bel_keeps hb3 (b := w.heap.size + 1) (o := 0) (v := .int .i64 op) (by first | (go_simp; done) | assumption)
  have k3_3 := bel_keeps hb3 (b := w.heap.size + 1) (o := 1) (v := .int .i64 dst) (by first | (go_simp; done) | assumption)
  have k3_4 := bel_keeps hb3 (b := w.heap.size + 1) (o := 2) (v := .int .i64 a) (by first | (go_simp; done) | assumption)
  have k3_5 := bel_keeps hb3 (b := w.heap.size + 1) (o := 3) (v := .int .i64 b) (by first | (go_simp; done) | assumption)
  have k3_6 := bel_keeps hb3 (b := w.heap.size + 1) (o := 4) (v := .int .i64 c) (by first | (go_simp; done) | assumption)
  have k3_7 := bel_keeps hb3 (b := w.heap.size + 1) (o := 5) (v := .int .i64 n) (by first | (go_simp; done) | assumption)
  have k3_8 := bel_keeps hb3 (b := w.heap.size + 1 + 1) (o := 0) (v := .slice none 0 0) (by first | (go_simp; done) | assumption)
  have k3_9 := bel_keeps hb3 (b := w.heap.size + 1 + 1) (o := 1) (v := .slice none 0 0) (by first | (go_simp; done) | assumption)
  have k3_10 := bel_keeps hb3 (b := w1.heap.size) (o := 0) (v := .slice (some ⟨g1, 0, none⟩) rs.length d1) (by first | (go_simp; done) | assumption)
  have k3_11 := bel_keeps hb3 (b := w1.heap.size) (o := 1) (v := .slice (some ⟨g2, 0, none⟩) os.length d2) (by first | (go_simp; done) | assumption)
  have f3_0 := bel_free hb3 (b := w.heap.size + 1 + 1) (o := 0) (by first | omega | (simp; done) | (simp; omega)) (by first | (go_simp; done) | assumption)
  have f3_1 := bel_free hb3 (b := w.heap.size + 1 + 1) (o := 1) (by first | omega | (simp; done) | (simp; omega)) (by first | (go_simp; done) | assumption)
  have f3_2 := bel_free hb3 (b := w1.heap.size) (o := 0) (by first | omega | (simp; done) | (simp; omega)) (by first | (go_simp; done) | assumption)
  have f3_3 := bel_free hb3 (b := w1.heap.size) (o := 1) (by first | omega | (simp; done) | (simp; omega)) (by first | (go_simp; done) | assumption)
  clear k2_0 k2_1 k2_2 k2_3 k2_4 k2_5 k2_6 k2_7 k2_8 k2_9 kb2_0 kb2_1 f2_0 f2_1 kf2_0 kf2_1
  rw [HST.out]
  go_wp2_with fail
  refine (sStmtOk_any ⟨op, dst, a, b, c, n⟩ _).mono ?_
  rintro e w4 ⟨rfl, hb4⟩
  have z4 := hb4.size
  (try simp at z4)
  have y4_0 : w.heap.size < w4.heap.size := (by omega)
  have y4_1 : w.heap.size + 1 < w4.heap.size := (by omega)
  have y4_2 : w.heap.size + 1 + 1 < w4.heap.size := (by omega)
  have y4_3 : w1.heap.size < w4.heap.size := (by omega)
  have k4_0 := bel_keeps hb4 (b := w.heap.size) (o := 0) (v := .slice a1 rs.length c1) (by first | (go_simp; done) | assumption)
  have k4_1 := bel_keeps hb4 (b := w.heap.size) (o := 1) (v := .slice a2 os.length c2) (by first | (go_simp; done) | assumption)
  have k4_2 := bel_keeps hb4 (b := w.heap.size + 1) (o := 0) (v := .int .i64 op) (by first | (go_simp; done) | assumption)
  have k4_3 := bel_keeps hb4 (b := w.heap.size + 1) (o := 1) (v := .int .i64 dst) (by first | (go_simp; done) | assumption)
  have k4_4 := bel_keeps hb4 (b := w.heap.size + 1) (o := 2) (v := .int .i64 a) (by first | (go_simp; done) | assumption)
  have k4_5 := bel_keeps hb4 (b := w.heap.size + 1) (o := 3) (v := .int .i64 b) (by first | (go_simp; done) | assumption)
  have k4_6 := bel_keeps hb4 (b := w.heap.size + 1) (o := 4) (v := .int .i64 c) (by first | (go_simp; done) | assumption)
  have k4_7 := bel_keeps hb4 (b := w.heap.size + 1) (o := 5) (v := .int .i64 n) (by first | (go_simp; done) | assumption)
  have k4_8 := bel_keeps hb4 (b := w.heap.size + 1 + 1) (o := 0) (v := .slice none 0 0) (by first | (go_simp; done) | assumption)
  have k4_9 := bel_keeps hb4 (b := w.heap.size + 1 + 1) (o := 1) (v := .slice none 0 0) (by first | (go_simp; done) | assumption)
  have k4_10 := bel_keeps hb4 (b := w1.heap.size) (o := 0) (v := .slice (some ⟨g1, 0, none⟩) rs.length d1) (by first | (go_simp; done) | assumption)
  have k4_11 := bel_keeps hb4 (b := w1.heap.size) (o := 1) (v := .slice (some ⟨g2, 0, none⟩) os.length d2) (by first | (go_simp; done) | assumption)
  have f4_0 := bel_free hb4 (b := w.heap.size + 1 + 1) (o := 0) (by first | omega | (simp; done) | (simp; omega)) (by first | (go_simp; done) | assumption)
  have f4_1 := bel_free hb4 (b := w.heap.size + 1 + 1) (o := 1) (by first | omega | (simp; done) | (simp; omega)) (by first | (go_simp; done) | assumption)
  have f4_2 := bel_free hb4 (b := w1.heap.size) (o := 0) (by first | omega | (simp; done) | (simp; omega)) (by first | (go_simp; done) | assumption)
  have f4_3 := bel_free hb4 (b := w1.heap.size) (o := 1) (by first | omega | (simp; done) | (simp; omega)) (by first | (go_simp; done) | assumption)
  clear k3_0 k3_1 k3_2 k3_3 k3_4 k3_5 k3_6 k3_7 k3_8 k3_9 k3_10 k3_11 f3_0 f3_1 f3_2 f3_3
  rw [HS.out]
  go_wp2_with fail
  refine bodyPost_ret (v := .agg #[.slice (some ⟨g1, 0, none⟩) (rs.length) d1, .slice (some ⟨g2, 0, none⟩) (os.length) d2]) (by simp [results, Try.results85, go_sem, k4_8, k4_9, f4_0, f4_1]) rfl ⟨g1, d1, g2, d2, by simp, ?_, ?_, hne, ?_⟩
  · simpa using (hO1.out.lo (lo' := w.heap.size) (by omega)).later (by (repeat (first | with_reducible exact Kp.refl _ _ | (with_reducible refine Kp.rng ?_ (by assumption) ?_) | (with_reducible refine Kp.below ?_ (by assumption)) | (with_reducible refine Kp.grown ?_ (by assumption) ?_) | (with_reducible refine Kp.alloc ?_ _) | (with_reducible refine Kp.drew ?_) | (with_reducible refine Kp.drewN ?_ _) | (with_reducible refine Kp.setCell ?_ _ ?_))) <;> (first | omega | (simp; done) | (simp; omega)))
  · simpa using (hO2.out.lo (lo' := w.heap.size) (by omega)).later (by (repeat (first | with_reducible exact Kp.refl _ _ | (with_reducible refine Kp.rng ?_ (by assumption) ?_) | (with_reducible refine Kp.below ?_ (by assumption)) | (with_reducible refine Kp.grown ?_ (by assumption) ?_) | (with_reducible refine Kp.alloc ?_ _) | (with_reducible refine Kp.drew ?_) | (with_reducible refine Kp.drewN ?_ _) | (with_reducible refine Kp.setCell ?_ _ ?_))) <;> (first | omega | (simp; done) | (simp; omega)))
  · exact (by (repeat (first | with_reducible exact Below.refl _ _ | (with_reducible refine bel_next ?_ ?_ (by assumption)) | (with_reducible refine Below.alloc ?_ ?_ _) | (with_reducible refine Below.drew ?_) | (with_reducible refine below_drewN ?_ _) | (with_reducible refine Below.setCell ?_ ?_ _))) <;> (first | omega | (simp; done) | (simp; omega)))
set_option maxRecDepth 20000 in
set_option maxHeartbeats 8000000 in
theorem sStep_const (rs os : List Int) (a1 a2 : Option Addr) (c1 c2 : Nat) (dst a b c n : Int) (rr : List Rw) (ai : Option Addr) (ci : Nat) (w : World) (hm1 : rs.length ≤ 1048576) (hm2 : os.length ≤ 1048576) (hr1 : RdC w a1 (I64 rs)) (hr2 : RdC w a2 (I64 os)) (hmr : rr.length ≤ 1048576) (hml : rowsLe rr) (hri : RdR w ai rr) (h1 : stateOk rs os = true) (h2 : plainB ⟨1, dst, a, b, c, n⟩ = true) (h3 : inputsOk (rr.map Rw.xs) = true) :
    Calls Try.prog 85 #[.agg #[.slice a1 rs.length c1, .slice a2 os.length c2], stV ⟨1, dst, a, b, c, n⟩, .slice ai rr.length ci] w fun e w' => ∃ g1 d1 g2 d2, e = .returned (.agg #[.slice (some ⟨g1, 0, none⟩) (stepRegs rs os ⟨1, dst, a, b, c, n⟩ (rr.map Rw.xs)).length d1, .slice (some ⟨g2, 0, none⟩) (stepOuts rs os ⟨1, dst, a, b, c, n⟩ (rr.map Rw.xs)).length d2]) ∧
      Own w' w.heap.size 3 1 (some ⟨g1, 0, none⟩) (stepRegs rs os ⟨1, dst, a, b, c, n⟩ (rr.map Rw.xs)).length d1 (I64 (stepRegs rs os ⟨1, dst, a, b, c, n⟩ (rr.map Rw.xs))) ∧ Own w' w.heap.size 3 1 (some ⟨g2, 0, none⟩) (stepOuts rs os ⟨1, dst, a, b, c, n⟩ (rr.map Rw.xs)).length d2 (I64 (stepOuts rs os ⟨1, dst, a, b, c, n⟩ (rr.map Rw.xs))) ∧ g1 ≠ g2 ∧ Below w.heap.size w w' := by
  have hM1 : rs.length ≤ maxLen := by unfold maxLen; omega
  have hM2 : os.length ≤ maxLen := by unfold maxLen; omega
  have hMr : rr.length ≤ maxLen := by unfold maxLen; omega
  have HN1 := Lib.hid (rd_none hr1)
  have HN2 := Lib.hid (rd_none hr2)
  have HR1 := Lib.hid hr1
  have HR2 := Lib.hid hr2
  have HRI := Lib.hid hri
  clear hr1 hr2 hri
  have hB : stepB ⟨1, dst, a, b, c, n⟩ rs os (rr.map Rw.xs) = true := by simp [stepB, h1, h2, h3]
  have hst : stOk ⟨1, dst, a, b, c, n⟩ = true := by have h := h2; simp [plainB] at h; first | exact h | exact h.1
  
  have hh := stok_regs hst
  simp only at hh
  obtain ⟨o1, o13, r0, r1, r2, r3, r4, r5, r6, r7⟩ := hh
  have h8 := stateOk_len h1
  have h5 := inputs_len h3
  obtain ⟨v, hv⟩ : ∃ v, v = stepVal ⟨1, dst, a, b, c, n⟩ rs (rr.map Rw.xs) := ⟨_, rfl⟩
  have e1 : (stepRegs rs os ⟨1, dst, a, b, c, n⟩ (rr.map Rw.xs)) = rs.set dst.toNat v := by simp [stepRegs, hB, hv]
  have e2 : (stepOuts rs os ⟨1, dst, a, b, c, n⟩ (rr.map Rw.xs)) = os := by simp [stepOuts]
  have hv2 : v = n := by rw [hv]; simp [stepVal]
  clear hv
  rw [e1, e2]
  clear hB e1 e2
  have H8 := Lib.hid h8
  have H5 := Lib.hid h5
  have HST := Lib.hid h1
  have HS := Lib.hid hst
  have HIN := Lib.hid h3
  clear h1 h2 h3 hst h8 h5
  rw [hv2]
  have hdt : dst.toNat < rs.length := by have := H8.out; omega
  have hd8 : dst < (rs.length : Int) := by have := H8.out; omega
  unfold stV
  go_enter Try.func85, Try.ntmps85
  go_wp2_with fail
  obtain ⟨w0, hw0⟩ : ∃ W, W = ((w.alloc (.cells #[.slice a1 rs.length c1, .slice a2 os.length c2] 102)).alloc (.cells #[.int .i64 1, .int .i64 dst, .int .i64 a, .int .i64 b, .int .i64 c, .int .i64 n] 90)).alloc (.cells #[.slice none 0 0, .slice none 0 0] 102) := ⟨_, rfl⟩
  rw [← hw0]
  have hb0 : Below w.heap.size w w0 := by rw [hw0]; exact (by (repeat (first | with_reducible exact Below.refl _ _ | (with_reducible refine bel_next ?_ ?_ (by assumption)) | (with_reducible refine Below.alloc ?_ ?_ _) | (with_reducible refine Below.drew ?_) | (with_reducible refine below_drewN ?_ _) | (with_reducible refine Below.setCell ?_ ?_ _))) <;> (first | omega | (simp; done) | (simp; omega)))
  have z0 : w.heap.size + 1 + 1 < w0.heap.size := by rw [hw0]; simp
  have k0_0 : w0.cell? ⟨w.heap.size, 0, none⟩ = some (.slice a1 rs.length c1) := by rw [hw0]; go_simp
  have k0_1 : w0.cell? ⟨w.heap.size, 1, none⟩ = some (.slice a2 os.length c2) := by rw [hw0]; go_simp
  have k0_2 : w0.cell? ⟨w.heap.size + 1, 0, none⟩ = some (.int .i64 1) := by rw [hw0]; go_simp
  have k0_3 : w0.cell? ⟨w.heap.size + 1, 1, none⟩ = some (.int .i64 dst) := by rw [hw0]; go_simp
  have k0_4 : w0.cell? ⟨w.heap.size + 1, 2, none⟩ = some (.int .i64 a) := by rw [hw0]; go_simp
  have k0_5 : w0.cell? ⟨w.heap.size + 1, 3, none⟩ = some (.int .i64 b) := by rw [hw0]; go_simp
  have k0_6 : w0.cell? ⟨w.heap.size + 1, 4, none⟩ = some (.int .i64 c) := by rw [hw0]; go_simp
  have k0_7 : w0.cell? ⟨w.heap.size + 1, 5, none⟩ = some (.int .i64 n) := by rw [hw0]; go_simp
  have k0_8 : w0.cell? ⟨w.heap.size + 1 + 1, 0, none⟩ = some (.slice none 0 0) := by rw [hw0]; go_simp
  have k0_9 : w0.cell? ⟨w.heap.size + 1 + 1, 1, none⟩ = some (.slice none 0 0) := by rw [hw0]; go_simp
  have f0_0 : w0.frozen? ⟨w.heap.size + 1 + 1, 0, none⟩ = false := by rw [hw0]; go_simp
  have f0_1 : w0.frozen? ⟨w.heap.size + 1 + 1, 1, none⟩ = false := by rw [hw0]; go_simp
  clear hw0
  refine (l12Copy_any rs os a1 a2 c1 c2 _ (by omega) (by omega) (HR1.out.below (by (repeat (first | with_reducible exact Below.refl _ _ | (with_reducible refine bel_next ?_ ?_ (by assumption)) | (with_reducible refine Below.alloc ?_ ?_ _) | (with_reducible refine Below.drew ?_) | (with_reducible refine below_drewN ?_ _) | (with_reducible refine Below.setCell ?_ ?_ _))) <;> (first | omega | (simp; done) | (simp; omega)))) (HR2.out.below (by (repeat (first | with_reducible exact Below.refl _ _ | (with_reducible refine bel_next ?_ ?_ (by assumption)) | (with_reducible refine Below.alloc ?_ ?_ _) | (with_reducible refine Below.drew ?_) | (with_reducible refine below_drewN ?_ _) | (with_reducible refine Below.setCell ?_ ?_ _))) <;> (first | omega | (simp; done) | (simp; omega)))) HN1.out HN2.out).mono ?_
  rintro e w1 ⟨g1, d1, g2, d2, rfl, ho1, ho2, hne, hb1⟩
  have z1 := hb1.size
  (try simp at z1)
  have y1_0 : w.heap.size < w1.heap.size := (by omega)
  have y1_1 : w.heap.size + 1 < w1.heap.size := (by omega)
  have y1_2 : w.heap.size + 1 + 1 < w1.heap.size := (by omega)
  have k1_0 := bel_keeps hb1 (b := w.heap.size) (o := 0) (v := .slice a1 rs.length c1) (by first | (go_simp; done) | assumption)
  have k1_1 := bel_keeps hb1 (b := w.heap.size) (o := 1) (v := .slice a2 os.length c2) (by first | (go_simp; done) | assumption)
  have k1_2 := bel_keeps hb1 (b := w.heap.size + 1) (o := 0) (v := .int .i64 1) (by first | (go_simp; done) | assumption)
  have k1_3 := bel_keeps hb1 (b := w.heap.size + 1) (o := 1) (v := .int .i64 dst) (by first | (go_simp; done) | assumption)
  have k1_4 := bel_keeps hb1 (b := w.heap.size + 1) (o := 2) (v := .int .i64 a) (by first | (go_simp; done) | assumption)
  have k1_5 := bel_keeps hb1 (b := w.heap.size + 1) (o := 3) (v := .int .i64 b) (by first | (go_simp; done) | assumption)
  have k1_6 := bel_keeps hb1 (b := w.heap.size + 1) (o := 4) (v := .int .i64 c) (by first | (go_simp; done) | assumption)
  have k1_7 := bel_keeps hb1 (b := w.heap.size + 1) (o := 5) (v := .int .i64 n) (by first | (go_simp; done) | assumption)
  have k1_8 := bel_keeps hb1 (b := w.heap.size + 1 + 1) (o := 0) (v := .slice none 0 0) (by first | (go_simp; done) | assumption)
  have k1_9 := bel_keeps hb1 (b := w.heap.size + 1 + 1) (o := 1) (v := .slice none 0 0) (by first | (go_simp; done) | assumption)
  have f1_0 := bel_free hb1 (b := w.heap.size + 1 + 1) (o := 0) (by first | omega | (simp; done) | (simp; omega)) (by first | (go_simp; done) | assumption)
  have f1_1 := bel_free hb1 (b := w.heap.size + 1 + 1) (o := 1) (by first | omega | (simp; done) | (simp; omega)) (by first | (go_simp; done) | assumption)
  clear k0_0 k0_1 k0_2 k0_3 k0_4 k0_5 k0_6 k0_7 k0_8 k0_9 f0_0 f0_1
  have lg1 := ho1.ge
  have lg2 := ho2.ge
  have hO1 := Lib.hid ho1
  have hO2 := Lib.hid ho2
  clear ho1 ho2
  go_wp2_with fail
  obtain ⟨w2, hw2⟩ : ∃ W, W = w1.alloc (.cells #[.slice (some ⟨g1, 0, none⟩) rs.length d1, .slice (some ⟨g2, 0, none⟩) os.length d2] 102) := ⟨_, rfl⟩
  rw [← hw2]
  have hb2 : Below w1.heap.size w1 w2 := by rw [hw2]; exact (Below.refl _ _).alloc (Nat.le_refl _) _
  have x2 : w1.heap.size < w2.heap.size := by rw [hw2]; simp
  have z2 := hb2.size
  (try simp at z2)
  have y2_0 : w.heap.size < w2.heap.size := (by omega)
  have y2_1 : w.heap.size + 1 < w2.heap.size := (by omega)
  have y2_2 : w.heap.size + 1 + 1 < w2.heap.size := (by omega)
  have k2_0 := bel_keeps hb2 (b := w.heap.size) (o := 0) (v := .slice a1 rs.length c1) (by first | (go_simp; done) | assumption)
  have k2_1 := bel_keeps hb2 (b := w.heap.size) (o := 1) (v := .slice a2 os.length c2) (by first | (go_simp; done) | assumption)
  have k2_2 := bel_keeps hb2 (b := w.heap.size + 1) (o := 0) (v := .int .i64 1) (by first | (go_simp; done) | assumption)
  have k2_3 := bel_keeps hb2 (b := w.heap.size + 1) (o := 1) (v := .int .i64 dst) (by first | (go_simp; done) | assumption)
  have k2_4 := bel_keeps hb2 (b := w.heap.size + 1) (o := 2) (v := .int .i64 a) (by first | (go_simp; done) | assumption)
  have k2_5 := bel_keeps hb2 (b := w.heap.size + 1) (o := 3) (v := .int .i64 b) (by first | (go_simp; done) | assumption)
  have k2_6 := bel_keeps hb2 (b := w.heap.size + 1) (o := 4) (v := .int .i64 c) (by first | (go_simp; done) | assumption)
  have k2_7 := bel_keeps hb2 (b := w.heap.size + 1) (o := 5) (v := .int .i64 n) (by first | (go_simp; done) | assumption)
  have k2_8 := bel_keeps hb2 (b := w.heap.size + 1 + 1) (o := 0) (v := .slice none 0 0) (by first | (go_simp; done) | assumption)
  have k2_9 := bel_keeps hb2 (b := w.heap.size + 1 + 1) (o := 1) (v := .slice none 0 0) (by first | (go_simp; done) | assumption)
  have f2_0 := bel_free hb2 (b := w.heap.size + 1 + 1) (o := 0) (by first | omega | (simp; done) | (simp; omega)) (by first | (go_simp; done) | assumption)
  have f2_1 := bel_free hb2 (b := w.heap.size + 1 + 1) (o := 1) (by first | omega | (simp; done) | (simp; omega)) (by first | (go_simp; done) | assumption)
  clear k1_0 k1_1 k1_2 k1_3 k1_4 k1_5 k1_6 k1_7 k1_8 k1_9 f1_0 f1_1
  have kb2_0 : w2.cell? ⟨w1.heap.size, 0, none⟩ = some (.slice (some ⟨g1, 0, none⟩) rs.length d1) := by rw [hw2]; go_simp
  have kb2_1 : w2.cell? ⟨w1.heap.size, 1, none⟩ = some (.slice (some ⟨g2, 0, none⟩) os.length d2) := by rw [hw2]; go_simp
  have kf2_0 : w2.frozen? ⟨w1.heap.size, 0, none⟩ = false := by rw [hw2]; go_simp
  have kf2_1 : w2.frozen? ⟨w1.heap.size, 1, none⟩ = false := by rw [hw2]; go_simp
  clear hw2
  go_wp2_with fail
  refine (sStateOk_any rs os _ _ _ _ _ hM1 hM2 (HR1.out.below (by (repeat (first | with_reducible exact Below.refl _ _ | (with_reducible refine bel_next ?_ ?_ (by assumption)) | (with_reducible refine Below.alloc ?_ ?_ _) | (with_reducible refine Below.drew ?_) | (with_reducible refine below_drewN ?_ _) | (with_reducible refine Below.setCell ?_ ?_ _))) <;> (first | omega | (simp; done) | (simp; omega)))) (HR2.out.below (by (repeat (first | with_reducible exact Below.refl _ _ | (with_reducible refine bel_next ?_ ?_ (by assumption)) | (with_reducible refine Below.alloc ?_ ?_ _) | (with_reducible refine Below.drew ?_) | (with_reducible refine below_drewN ?_ _) | (with_reducible refine Below.setCell ?_ ?_ _))) <;> (first | omega | (simp; done) | (simp; omega))))).mono ?_
  rintro e w3 ⟨rfl, hb3⟩
  have z3 := hb3.size
  (try simp at z3)
  have y3_0 : w.heap.size < w3.heap.size := (by omega)
  have y3_1 : w.heap.size + 1 < w3.heap.size := (by omega)
  have y3_2 : w.heap.size + 1 + 1 < w3.heap.size := (by omega)
  have y3_3 : w1.heap.size < w3.heap.size := (by omega)
  have k3_0 := bel_keeps hb3 (b := w.heap.size) (o := 0) (v := .slice a1 rs.length c1) (by first | (go_simp; done) | assumption)
  have k3_1 := bel_keeps hb3 (b := w.heap.size) (o := 1) (v := .slice a2 os.length c2) (by first | (go_simp; done) | assumption)
  have k3_2 := bel_keeps hb3 (b := w.heap.size + 1) (o := 0) (v := .int .i64 1) (by first | (go_simp; done) | assumption)
  have k3_3 := bel_keeps hb3 (b := w.heap.size + 1) (o := 1) (v := .int .i64 dst) (by first | (go_simp; done) | assumption)
  have k3_4 := bel_keeps hb3 (b := w.heap.size + 1) (o := 2) (v := .int .i64 a) (by first | (go_simp; done) | assumption)
  have k3_5 := bel_keeps hb3 (b := w.heap.size + 1) (o := 3) (v := .int .i64 b) (by first | (go_simp; done) | assumption)
  have k3_6 := bel_keeps hb3 (b := w.heap.size + 1) (o := 4) (v := .int .i64 c) (by first | (go_simp; done) | assumption)
  have k3_7 := bel_keeps hb3 (b := w.heap.size + 1) (o := 5) (v := .int .i64 n) (by first | (go_simp; done) | assumption)
  have k3_8 := bel_keeps hb3 (b := w.heap.size + 1 + 1) (o := 0) (v := .slice none 0 0) (by first | (go_simp; done) | assumption)
  have k3_9 := bel_keeps hb3 (b := w.heap.size + 1 + 1) (o := 1) (v := .slice none 0 0) (by first | (go_simp; done) | assumption)
  have k3_10 := bel_keeps hb3 (b := w1.heap.size) (o := 0) (v := .slice (some ⟨g1, 0, none⟩) rs.length d1) (by first | (go_simp; done) | assumption)
  have k3_11 := bel_keeps hb3 (b := w1.heap.size) (o := 1) (v := .slice (some ⟨g2, 0, none⟩) os.length d2) (by first | (go_simp; done) | assumption)
  have f3_0 := bel_free hb3 (b := w.heap.size + 1 + 1) (o := 0) (by first | omega | (simp; done) | (simp; omega)) (by first | (go_simp; done) | assumption)
  have f3_1 := bel_free hb3 (b := w.heap.size + 1 + 1) (o := 1) (by first | omega | (simp; done) | (simp; omega)) (by first | (go_simp; done) | assumption)
  have f3_2 := bel_free hb3 (b := w1.heap.size) (o := 0) (by first | omega | (simp; done) | (simp; omega)) (by first | (go_simp; done) | assumption)
  have f3_3 := bel_free hb3 (b := w1.heap.size) (o := 1) (by first | omega | (simp; done) | (simp; omega)) (by first | (go_simp; done) | assumption)
  clear k2_0 k2_1 k2_2 k2_3 k2_4 k2_5 k2_6 k2_7 k2_8 k2_9 kb2_0 kb2_1 f2_0 f2_1 kf2_0 kf2_1
  rw [HST.out]
  go_wp2_with fail
  refine (sStmtOk_any ⟨1, dst, a, b, c, n⟩ _).mono ?_
  rintro e w4 ⟨rfl, hb4⟩
  have z4 := hb4.size
  (try simp at z4)
  have y4_0 : w.heap.size < w4.heap.size := (by omega)
  have y4_1 : w.heap.size + 1 < w4.heap.size := (by omega)
  have y4_2 : w.heap.size + 1 + 1 < w4.heap.size := (by omega)
  have y4_3 : w1.heap.size < w4.heap.size := (by omega)
  have k4_0 := bel_keeps hb4 (b := w.heap.size) (o := 0) (v := .slice a1 rs.length c1) (by first | (go_simp; done) | assumption)
  have k4_1 := bel_keeps hb4 (b := w.heap.size) (o := 1) (v := .slice a2 os.length c2) (by first | (go_simp; done) | assumption)
  have k4_2 := bel_keeps hb4 (b := w.heap.size + 1) (o := 0) (v := .int .i64 1) (by first | (go_simp; done) | assumption)
  have k4_3 := bel_keeps hb4 (b := w.heap.size + 1) (o := 1) (v := .int .i64 dst) (by first | (go_simp; done) | assumption)
  have k4_4 := bel_keeps hb4 (b := w.heap.size + 1) (o := 2) (v := .int .i64 a) (by first | (go_simp; done) | assumption)
  have k4_5 := bel_keeps hb4 (b := w.heap.size + 1) (o := 3) (v := .int .i64 b) (by first | (go_simp; done) | assumption)
  have k4_6 := bel_keeps hb4 (b := w.heap.size + 1) (o := 4) (v := .int .i64 c) (by first | (go_simp; done) | assumption)
  have k4_7 := bel_keeps hb4 (b := w.heap.size + 1) (o := 5) (v := .int .i64 n) (by first | (go_simp; done) | assumption)
  have k4_8 := bel_keeps hb4 (b := w.heap.size + 1 + 1) (o := 0) (v := .slice none 0 0) (by first | (go_simp; done) | assumption)
  have k4_9 := bel_keeps hb4 (b := w.heap.size + 1 + 1) (o := 1) (v := .slice none 0 0) (by first | (go_simp; done) | assumption)
  have k4_10 := bel_keeps hb4 (b := w1.heap.size) (o := 0) (v := .slice (some ⟨g1, 0, none⟩) rs.length d1) (by first | (go_simp; done) | assumption)
  have k4_11 := bel_keeps hb4 (b := w1.heap.size) (o := 1) (v := .slice (some ⟨g2, 0, none⟩) os.length d2) (by first | (go_simp; done) | assumption)
  have f4_0 := bel_free hb4 (b := w.heap.size + 1 + 1) (o := 0) (by first | omega | (simp; done) | (simp; omega)) (by first | (go_simp; done) | assumption)
  have f4_1 := bel_free hb4 (b := w.heap.size + 1 + 1) (o := 1) (by first | omega | (simp; done) | (simp; omega)) (by first | (go_simp; done) | assumption)
  have f4_2 := bel_free hb4 (b := w1.heap.size) (o := 0) (by first | omega | (simp; done) | (simp; omega)) (by first | (go_simp; done) | assumption)
  have f4_3 := bel_free hb4 (b := w1.heap.size) (o := 1) (by first | omega | (simp; done) | (simp; omega)) (by first | (go_simp; done) | assumption)
  clear k3_0 k3_1 k3_2 k3_3 k3_4 k3_5 k3_6 k3_7 k3_8 k3_9 k3_10 k3_11 f3_0 f3_1 f3_2 f3_3
  rw [HS.out]
  go_wp2_with fail
  refine (sInputsOk_any rr _ _ _ hMr hml (HRI.out.below (by (repeat (first | with_reducible exact Below.refl _ _ | (with_reducible refine bel_next ?_ ?_ (by assumption)) | (with_reducible refine Below.alloc ?_ ?_ _) | (with_reducible refine Below.drew ?_) | (with_reducible refine below_drewN ?_ _) | (with_reducible refine Below.setCell ?_ ?_ _))) <;> (first | omega | (simp; done) | (simp; omega))))).mono ?_
  rintro e _ ⟨rfl, rfl⟩
  rw [HIN.out]
  obtain ⟨ca, fa⟩ := (show Own w4 _ _ _ _ _ _ _ from hO1.out.later (by (repeat (first | with_reducible exact Kp.refl _ _ | (with_reducible refine Kp.rng ?_ (by assumption) ?_) | (with_reducible refine Kp.below ?_ (by assumption)) | (with_reducible refine Kp.grown ?_ (by assumption) ?_) | (with_reducible refine Kp.alloc ?_ _) | (with_reducible refine Kp.drew ?_) | (with_reducible refine Kp.drewN ?_ _) | (with_reducible refine Kp.setCell ?_ _ ?_))) <;> (first | omega | (simp; done) | (simp; omega)))).get dst.toNat (by simp; exact hdt)
  generalize (I64 rs)[dst.toNat]'_ = u at ca
  have nq0 : w.heap.size ≠ g1 := (by omega)
  have np0 : g1 ≠ w.heap.size := (by omega)
  have nq1 : w.heap.size + 1 ≠ g1 := (by omega)
  have np1 : g1 ≠ w.heap.size + 1 := (by omega)
  have nq2 : w.heap.size + 1 + 1 ≠ g1 := (by omega)
  have np2 : g1 ≠ w.heap.size + 1 + 1 := (by omega)
  have nq3 : w1.heap.size ≠ g1 := (by omega)
  have np3 : g1 ≠ w1.heap.size := (by omega)
  go_wp2_with fail
  refine (l12Copy_n (rs.set dst.toNat n) os rs.length os.length _ _ _ _ _ (by simp) rfl (by omega) (by omega) (by rw [← I64_set]; exact (((show Own w4 _ _ _ _ _ _ _ from hO1.out.later (by (repeat (first | with_reducible exact Kp.refl _ _ | (with_reducible refine Kp.rng ?_ (by assumption) ?_) | (with_reducible refine Kp.below ?_ (by assumption)) | (with_reducible refine Kp.grown ?_ (by assumption) ?_) | (with_reducible refine Kp.alloc ?_ _) | (with_reducible refine Kp.drew ?_) | (with_reducible refine Kp.drewN ?_ _) | (with_reducible refine Kp.setCell ?_ _ ?_))) <;> (first | omega | (simp; done) | (simp; omega))))).put _ _).rd) (hO2.out.later (by (repeat (first | with_reducible exact Kp.refl _ _ | (with_reducible refine Kp.rng ?_ (by assumption) ?_) | (with_reducible refine Kp.below ?_ (by assumption)) | (with_reducible refine Kp.grown ?_ (by assumption) ?_) | (with_reducible refine Kp.alloc ?_ _) | (with_reducible refine Kp.drew ?_) | (with_reducible refine Kp.drewN ?_ _) | (with_reducible refine Kp.setCell ?_ _ ?_))) <;> (first | omega | (simp; done) | (simp; omega)))).rd (by intro h; cases h) (by intro h; cases h)).mono ?_
  rintro e w6' ⟨g5, d5, g6, d6, rfl, ho5, ho6, hne5, hb6'⟩
  have z6' := hb6'.size
  (try simp at z6')
  have e6_0 := bel_keeps hb6' (b := w.heap.size + 1 + 1) (o := 0) (v := .slice none 0 0) (by first | (go_simp; done) | assumption)
  have e7_0 := bel_free hb6' (b := w.heap.size + 1 + 1) (o := 0) (by first | omega | (simp; done) | (simp; omega)) (by first | (go_simp; done) | assumption)
  have e6_1 := bel_keeps hb6' (b := w.heap.size + 1 + 1) (o := 1) (v := .slice none 0 0) (by first | (go_simp; done) | assumption)
  have e7_1 := bel_free hb6' (b := w.heap.size + 1 + 1) (o := 1) (by first | omega | (simp; done) | (simp; omega)) (by first | (go_simp; done) | assumption)
  have l5 := ho5.ge
  have l6 := ho6.ge
  (try simp at l5)
  (try simp at l6)
  have HO5 := Lib.hid ho5
  have HO6 := Lib.hid ho6
  clear ho5 ho6
  go_wp2_with fail
  refine bodyPost_ret (v := .agg #[.slice (some ⟨g5, 0, none⟩) (rs.length) d5, .slice (some ⟨g6, 0, none⟩) (os.length) d6]) (by simp [results, Try.results85, go_sem, e6_0, e6_1, e7_0, e7_1]) rfl ⟨g5, d5, g6, d6, by simp, ?_, ?_, hne5, ?_⟩
  · simpa using (HO5.out.lo (lo' := w.heap.size) (by first | omega | (simp; done) | (simp; omega))).later (by (repeat (first | with_reducible exact Kp.refl _ _ | (with_reducible refine Kp.rng ?_ (by assumption) ?_) | (with_reducible refine Kp.below ?_ (by assumption)) | (with_reducible refine Kp.grown ?_ (by assumption) ?_) | (with_reducible refine Kp.alloc ?_ _) | (with_reducible refine Kp.drew ?_) | (with_reducible refine Kp.drewN ?_ _) | (with_reducible refine Kp.setCell ?_ _ ?_))) <;> (first | omega | (simp; done) | (simp; omega)))
  · simpa using (HO6.out.lo (lo' := w.heap.size) (by first | omega | (simp; done) | (simp; omega))).later (by (repeat (first | with_reducible exact Kp.refl _ _ | (with_reducible refine Kp.rng ?_ (by assumption) ?_) | (with_reducible refine Kp.below ?_ (by assumption)) | (with_reducible refine Kp.grown ?_ (by assumption) ?_) | (with_reducible refine Kp.alloc ?_ _) | (with_reducible refine Kp.drew ?_) | (with_reducible refine Kp.drewN ?_ _) | (with_reducible refine Kp.setCell ?_ _ ?_))) <;> (first | omega | (simp; done) | (simp; omega)))
  · exact (by (repeat (first | with_reducible exact Below.refl _ _ | (with_reducible refine bel_next ?_ ?_ (by assumption)) | (with_reducible refine Below.alloc ?_ ?_ _) | (with_reducible refine Below.drew ?_) | (with_reducible refine below_drewN ?_ _) | (with_reducible refine Below.setCell ?_ ?_ _))) <;> (first | omega | (simp; done) | (simp; omega)))
end Go.Proofs.Ytfcijloiebnloaa

/- SStepB -/
namespace Go.Proofs.Ytfcijloiebnloaa
open Go.RowKit
set_option linter.unusedVariables false
set_option linter.unusedSimpArgs false

set_option maxRecDepth 20000 in
set_option maxHeartbeats 8000000 in
theorem sStep_input (rs os : List Int) (a1 a2 : Option Addr) (c1 c2 : Nat) (dst a b c n : Int) (rr : List Rw) (ai : Option Addr) (ci : Nat) (w : World) (hm1 : rs.length ≤ 1048576) (hm2 : os.length ≤ 1048576) (hr1 : RdC w a1 (I64 rs)) (hr2 : RdC w a2 (I64 os)) (hmr : rr.length ≤ 1048576) (hml : rowsLe rr) (hri : RdR w ai rr) (h1 : stateOk rs os = true) (h2 : plainB ⟨2, dst, a, b, c, n⟩ = true) (h3 : inputsOk (rr.map Rw.xs) = true) :
    Calls Try.prog 85 #[.agg #[.slice a1 rs.length c1, .slice a2 os.length c2], stV ⟨2, dst, a, b, c, n⟩, .slice ai rr.length ci] w fun e w' => ∃ g1 d1 g2 d2, e = .returned (.agg #[.slice (some ⟨g1, 0, none⟩) (stepRegs rs os ⟨2, dst, a, b, c, n⟩ (rr.map Rw.xs)).length d1, .slice (some ⟨g2, 0, none⟩) (stepOuts rs os ⟨2, dst, a, b, c, n⟩ (rr.map Rw.xs)).length d2]) ∧
      Own w' w.heap.size 3 1 (some ⟨g1, 0, none⟩) (stepRegs rs os ⟨2, dst, a, b, c, n⟩ (rr.map Rw.xs)).length d1 (I64 (stepRegs rs os ⟨2, dst, a, b, c, n⟩ (rr.map Rw.xs))) ∧ Own w' w.heap.size 3 1 (some ⟨g2, 0, none⟩) (stepOuts rs os ⟨2, dst, a, b, c, n⟩ (rr.map Rw.xs)).length d2 (I64 (stepOuts rs os ⟨2, dst, a, b, c, n⟩ (rr.map Rw.xs))) ∧ g1 ≠ g2 ∧ Below w.heap.size w w' := by
  have hM1 : rs.length ≤ maxLen := by unfold maxLen; omega
  have hM2 : os.length ≤ maxLen := by unfold maxLen; omega
  have hMr : rr.length ≤ maxLen := by unfold maxLen; omega
  have HN1 := Lib.hid (rd_none hr1)
  have HN2 := Lib.hid (rd_none hr2)
  have HR1 := Lib.hid hr1
  have HR2 := Lib.hid hr2
  have HRI := Lib.hid hri
  clear hr1 hr2 hri
  have hB : stepB ⟨2, dst, a, b, c, n⟩ rs os (rr.map Rw.xs) = true := by simp [stepB, h1, h2, h3]
  have hst : stOk ⟨2, dst, a, b, c, n⟩ = true := by have h := h2; simp [plainB] at h; first | exact h | exact h.1
  
  have hh := stok_regs hst
  simp only at hh
  obtain ⟨o1, o13, r0, r1, r2, r3, r4, r5, r6, r7⟩ := hh
  have h8 := stateOk_len h1
  have h5 := inputs_len h3
  have ha4 : a ≤ 4 ∧ 0 ≤ n ∧ n ≤ 3 := by have h := hst; simp [stOk, inB] at h; omega
  have hal : a.toNat < rr.length := by omega
  obtain ⟨hrow, _⟩ := inputs_row h3 hal
  obtain ⟨v, hv⟩ : ∃ v, v = stepVal ⟨2, dst, a, b, c, n⟩ rs (rr.map Rw.xs) := ⟨_, rfl⟩
  have e1 : (stepRegs rs os ⟨2, dst, a, b, c, n⟩ (rr.map Rw.xs)) = rs.set dst.toNat v := by simp [stepRegs, hB, hv]
  have e2 : (stepOuts rs os ⟨2, dst, a, b, c, n⟩ (rr.map Rw.xs)) = os := by simp [stepOuts]
  have hv2 : ∀ (q1 : a.toNat < rr.length) (q2 : n.toNat < (rr[a.toNat].xs).length), v = (rr[a.toNat].xs)[n.toNat] := by
    intro q1 q2
    rw [hv]; simp [stepVal, List.getD, List.getElem?_eq_getElem hal, List.getElem?_eq_getElem (show n.toNat < rr[a.toNat].xs.length by omega)]
  clear hv
  rw [e1, e2]
  clear hB e1 e2
  have H8 := Lib.hid h8
  have H5 := Lib.hid h5
  have HST := Lib.hid h1
  have HS := Lib.hid hst
  have HIN := Lib.hid h3
  clear h1 h2 h3 hst h8 h5
  have hdt : dst.toNat < rs.length := by have := H8.out; omega
  have hd8 : dst < (rs.length : Int) := by have := H8.out; omega
  have HV2 := Lib.hid hv2
  have HROW := Lib.hid hrow
  clear hv2 hrow
  have hia : a < (rr.length : Int) := by have := H5.out; omega
  unfold stV
  go_enter Try.func85, Try.ntmps85
  go_wp2_with fail
  obtain ⟨w0, hw0⟩ : ∃ W, W = ((w.alloc (.cells #[.slice a1 rs.length c1, .slice a2 os.length c2] 102)).alloc (.cells #[.int .i64 2, .int .i64 dst, .int .i64 a, .int .i64 b, .int .i64 c, .int .i64 n] 90)).alloc (.cells #[.slice none 0 0, .slice none 0 0] 102) := ⟨_, rfl⟩
  rw [← hw0]
  have hb0 : Below w.heap.size w w0 := by rw [hw0]; exact (by (repeat (first | with_reducible exact Below.refl _ _ | (with_reducible refine bel_next ?_ ?_ (by assumption)) | (with_reducible refine Below.alloc ?_ ?_ _) | (with_reducible refine Below.drew ?_) | (with_reducible refine below_drewN ?_ _) | (with_reducible refine Below.setCell ?_ ?_ _))) <;> (first | omega | (simp; done) | (simp; omega)))
  have z0 : w.heap.size + 1 + 1 < w0.heap.size := by rw [hw0]; simp
  have k0_0 : w0.cell? ⟨w.heap.size, 0, none⟩ = some (.slice a1 rs.length c1) := by rw [hw0]; go_simp
  have k0_1 : w0.cell? ⟨w.heap.size, 1, none⟩ = some (.slice a2 os.length c2) := by rw [hw0]; go_simp
  have k0_2 : w0.cell? ⟨w.heap.size + 1, 0, none⟩ = some (.int .i64 2) := by rw [hw0]; go_simp
  have k0_3 : w0.cell? ⟨w.heap.size + 1, 1, none⟩ = some (.int .i64 dst) := by rw [hw0]; go_simp
  have k0_4 : w0.cell? ⟨w.heap.size + 1, 2, none⟩ = some (.int .i64 a) := by rw [hw0]; go_simp
  have k0_5 : w0.cell? ⟨w.heap.size + 1, 3, none⟩ = some (.int .i64 b) := by rw [hw0]; go_simp
  have k0_6 : w0.cell? ⟨w.heap.size + 1, 4, none⟩ = some (.int .i64 c) := by rw [hw0]; go_simp
  have k0_7 : w0.cell? ⟨w.heap.size + 1, 5, none⟩ = some (.int .i64 n) := by rw [hw0]; go_simp
  have k0_8 : w0.cell? ⟨w.heap.size + 1 + 1, 0, none⟩ = some (.slice none 0 0) := by rw [hw0]; go_simp
  have k0_9 : w0.cell? ⟨w.heap.size + 1 + 1, 1, none⟩ = some (.slice none 0 0) := by rw [hw0]; go_simp
  have f0_0 : w0.frozen? ⟨w.heap.size + 1 + 1, 0, none⟩ = false := by rw [hw0]; go_simp
  have f0_1 : w0.frozen? ⟨w.heap.size + 1 + 1, 1, none⟩ = false := by rw [hw0]; go_simp
  clear hw0
  refine (l12Copy_any rs os a1 a2 c1 c2 _ (by omega) (by omega) (HR1.out.below (by (repeat (first | with_reducible exact Below.refl _ _ | (with_reducible refine bel_next ?_ ?_ (by assumption)) | (with_reducible refine Below.alloc ?_ ?_ _) | (with_reducible refine Below.drew ?_) | (with_reducible refine below_drewN ?_ _) | (with_reducible refine Below.setCell ?_ ?_ _))) <;> (first | omega | (simp; done) | (simp; omega)))) (HR2.out.below (by (repeat (first | with_reducible exact Below.refl _ _ | (with_reducible refine bel_next ?_ ?_ (by assumption)) | (with_reducible refine Below.alloc ?_ ?_ _) | (with_reducible refine Below.drew ?_) | (with_reducible refine below_drewN ?_ _) | (with_reducible refine Below.setCell ?_ ?_ _))) <;> (first | omega | (simp; done) | (simp; omega)))) HN1.out HN2.out).mono ?_
  rintro e w1 ⟨g1, d1, g2, d2, rfl, ho1, ho2, hne, hb1⟩
  have z1 := hb1.size
  (try simp at z1)
  have y1_0 : w.heap.size < w1.heap.size := (by omega)
  have y1_1 : w.heap.size + 1 < w1.heap.size := (by omega)
  have y1_2 : w.heap.size + 1 + 1 < w1.heap.size := (by omega)
  have k1_0 := bel_keeps hb1 (b := w.heap.size) (o := 0) (v := .slice a1 rs.length c1) (by first | (go_simp; done) | assumption)
  have k1_1 := bel_keeps hb1 (b := w.heap.size) (o := 1) (v := .slice a2 os.length c2) (by first | (go_simp; done) | assumption)
  have k1_2 := bel_keeps hb1 (b := w.heap.size + 1) (o := 0) (v := .int .i64 2) (by first | (go_simp; done) | assumption)
  have k1_3 := bel_keeps hb1 (b := w.heap.size + 1) (o := 1) (v := .int .i64 dst) (by first | (go_simp; done) | assumption)
  have k1_4 := bel_keeps hb1 (b := w.heap.size + 1) (o := 2) (v := .int .i64 a) (by first | (go_simp; done) | assumption)
  have k1_5 := bel_keeps hb1 (b := w.heap.size + 1) (o := 3) (v := .int .i64 b) (by first | (go_simp; done) | assumption)
  have k1_6 := bel_keeps hb1 (b := w.heap.size + 1) (o := 4) (v := .int .i64 c) (by first | (go_simp; done) | assumption)
  have k1_7 := bel_keeps hb1 (b := w.heap.size + 1) (o := 5) (v := .int .i64 n) (by first | (go_simp; done) | assumption)
  have k1_8 := bel_keeps hb1 (b := w.heap.size + 1 + 1) (o := 0) (v := .slice none 0 0) (by first | (go_simp; done) | assumption)
  have k1_9 := bel_keeps hb1 (b := w.heap.size + 1 + 1) (o := 1) (v := .slice none 0 0) (by first | (go_simp; done) | assumption)
  have f1_0 := bel_free hb1 (b := w.heap.size + 1 + 1) (o := 0) (by first | omega | (simp; done) | (simp; omega)) (by first | (go_simp; done) | assumption)
  have f1_1 := bel_free hb1 (b := w.heap.size + 1 + 1) (o := 1) (by first | omega | (simp; done) | (simp; omega)) (by first | (go_simp; done) | assumption)
  clear k0_0 k0_1 k0_2 k0_3 k0_4 k0_5 k0_6 k0_7 k0_8 k0_9 f0_0 f0_1
  have lg1 := ho1.ge
  have lg2 := ho2.ge
  have hO1 := Lib.hid ho1
  have hO2 := Lib.hid ho2
  clear ho1 ho2
  go_wp2_with fail
  obtain ⟨w2, hw2⟩ : ∃ W, W = w1.alloc (.cells #[.slice (some ⟨g1, 0, none⟩) rs.length d1, .slice (some ⟨g2, 0, none⟩) os.length d2] 102) := ⟨_, rfl⟩
  rw [← hw2]
  have hb2 : Below w1.heap.size w1 w2 := by rw [hw2]; exact (Below.refl _ _).alloc (Nat.le_refl _) _
  have x2 : w1.heap.size < w2.heap.size := by rw [hw2]; simp
  have z2 := hb2.size
  (try simp at z2)
  have y2_0 : w.heap.size < w2.heap.size := (by omega)
  have y2_1 : w.heap.size + 1 < w2.heap.size := (by omega)
  have y2_2 : w.heap.size + 1 + 1 < w2.heap.size := (by omega)
  have k2_0 := bel_keeps hb2 (b := w.heap.size) (o := 0) (v := .slice a1 rs.length c1) (by first | (go_simp; done) | assumption)
  have k2_1 := bel_keeps hb2 (b := w.heap.size) (o := 1) (v := .slice a2 os.length c2) (by first | (go_simp; done) | assumption)
  have k2_2 := bel_keeps hb2 (b := w.heap.size + 1) (o := 0) (v := .int .i64 2) (by first | (go_simp; done) | assumption)
  have k2_3 := bel_keeps hb2 (b := w.heap.size + 1) (o := 1) (v := .int .i64 dst) (by first | (go_simp; done) | assumption)
  have k2_4 := bel_keeps hb2 (b := w.heap.size + 1) (o := 2) (v := .int .i64 a) (by first | (go_simp; done) | assumption)
  have k2_5 := bel_keeps hb2 (b := w.heap.size + 1) (o := 3) (v := .int .i64 b) (by first | (go_simp; done) | assumption)
  have k2_6 := bel_keeps hb2 (b := w.heap.size + 1) (o := 4) (v := .int .i64 c) (by first | (go_simp; done) | assumption)
  have k2_7 := bel_keeps hb2 (b := w.heap.size + 1) (o := 5) (v := .int .i64 n) (by first | (go_simp; done) | assumption)
  have k2_8 := bel_keeps hb2 (b := w.heap.size + 1 + 1) (o := 0) (v := .slice none 0 0) (by first | (go_simp; done) | assumption)
  have k2_9 := bel_keeps hb2 (b := w.heap.size + 1 + 1) (o := 1) (v := .slice none 0 0) (by first | (go_simp; done) | assumption)
  have f2_0 := bel_free hb2 (b := w.heap.size + 1 + 1) (o := 0) (by first | omega | (simp; done) | (simp; omega)) (by first | (go_simp; done) | assumption)
  have f2_1 := bel_free hb2 (b := w.heap.size + 1 + 1) (o := 1) (by first | omega | (simp; done) | (simp; omega)) (by first | (go_simp; done) | assumption)
  clear k1_0 k1_1 k1_2 k1_3 k1_4 k1_5 k1_6 k1_7 k1_8 k1_9 f1_0 f1_1
  have kb2_0 : w2.cell? ⟨w1.heap.size, 0, none⟩ = some (.slice (some ⟨g1, 0, none⟩) rs.length d1) := by rw [hw2]; go_simp
  have kb2_1 : w2.cell? ⟨w1.heap.size, 1, none⟩ = some (.slice (some ⟨g2, 0, none⟩) os.length d2) := by rw [hw2]; go_simp
  have kf2_0 : w2.frozen? ⟨w1.heap.size, 0, none⟩ = false := by rw [hw2]; go_simp
  have kf2_1 : w2.frozen? ⟨w1.heap.size, 1, none⟩ = false := by rw [hw2]; go_simp
  clear hw2
  go_wp2_with fail
  refine (sStateOk_any rs os _ _ _ _ _ hM1 hM2 (HR1.out.below (by (repeat (first | with_reducible exact Below.refl _ _ | (with_reducible refine bel_next ?_ ?_ (by assumption)) | (with_reducible refine Below.alloc ?_ ?_ _) | (with_reducible refine Below.drew ?_) | (with_reducible refine below_drewN ?_ _) | (with_reducible refine Below.setCell ?_ ?_ _))) <;> (first | omega | (simp; done) | (simp; omega)))) (HR2.out.below (by (repeat (first | with_reducible exact Below.refl _ _ | (with_reducible refine bel_next ?_ ?_ (by assumption)) | (with_reducible refine Below.alloc ?_ ?_ _) | (with_reducible refine Below.drew ?_) | (with_reducible refine below_drewN ?_ _) | (with_reducible refine Below.setCell ?_ ?_ _))) <;> (first | omega | (simp; done) | (simp; omega))))).mono ?_
  rintro e w3 ⟨rfl, hb3⟩
  have z3 := hb3.size
  (try simp at z3)
  have y3_0 : w.heap.size < w3.heap.size := (by omega)
  have y3_1 : w.heap.size + 1 < w3.heap.size := (by omega)
  have y3_2 : w.heap.size + 1 + 1 < w3.heap.size := (by omega)
  have y3_3 : w1.heap.size < w3.heap.size := (by omega)
  have k3_0 := bel_keeps hb3 (b := w.heap.size) (o := 0) (v := .slice a1 rs.length c1) (by first | (go_simp; done) | assumption)
  have k3_1 := bel_keeps hb3 (b := w.heap.size) (o := 1) (v := .slice a2 os.length c2) (by first | (go_simp; done) | assumption)
  have k3_2 := bel_keeps hb3 (b := w.heap.size + 1) (o := 0) (v := .int .i64 2) (by first | (go_simp; done) | assumption)
  have k3_3 := bel_keeps hb3 (b := w.heap.size + 1) (o := 1) (v := .int .i64 dst) (by first | (go_simp; done) | assumption)
  have k3_4 := bel_keeps hb3 (b := w.heap.size + 1) (o := 2) (v := .int .i64 a) (by first | (go_simp; done) | assumption)
  have k3_5 := bel_keeps hb3 (b := w.heap.size + 1) (o := 3) (v := .int .i64 b) (by first | (go_simp; done) | assumption)
  have k3_6 := bel_keeps hb3 (b := w.heap.size + 1) (o := 4) (v := .int .i64 c) (by first | (go_simp; done) | assumption)
  have k3_7 := bel_keeps hb3 (b := w.heap.size + 1) (o := 5) (v := .int .i64 n) (by first | (go_simp; done) | assumption)
  have k3_8 := bel_keeps hb3 (b := w.heap.size + 1 + 1) (o := 0) (v := .slice none 0 0) (by first | (go_simp; done) | assumption)
  have k3_9 := bel_keeps hb3 (b := w.heap.size + 1 + 1) (o := 1) (v := .slice none 0 0) (by first | (go_simp; done) | assumption)
  have k3_10 := bel_keeps hb3 (b := w1.heap.size) (o := 0) (v := .slice (some ⟨g1, 0, none⟩) rs.length d1) (by first | (go_simp; done) | assumption)
  have k3_11 := bel_keeps hb3 (b := w1.heap.size) (o := 1) (v := .slice (some ⟨g2, 0, none⟩) os.length d2) (by first | (go_simp; done) | assumption)
  have f3_0 := bel_free hb3 (b := w.heap.size + 1 + 1) (o := 0) (by first | omega | (simp; done) | (simp; omega)) (by first | (go_simp; done) | assumption)
  have f3_1 := bel_free hb3 (b := w.heap.size + 1 + 1) (o := 1) (by first | omega | (simp; done) | (simp; omega)) (by first | (go_simp; done) | assumption)
  have f3_2 := bel_free hb3 (b := w1.heap.size) (o := 0) (by first | omega | (simp; done) | (simp; omega)) (by first | (go_simp; done) | assumption)
  have f3_3 := bel_free hb3 (b := w1.heap.size) (o := 1) (by first | omega | (simp; done) | (simp; omega)) (by first | (go_simp; done) | assumption)
  clear k2_0 k2_1 k2_2 k2_3 k2_4 k2_5 k2_6 k2_7 k2_8 k2_9 kb2_0 kb2_1 f2_0 f2_1 kf2_0 kf2_1
  rw [HST.out]
  go_wp2_with fail
  refine (sStmtOk_any ⟨2, dst, a, b, c, n⟩ _).mono ?_
  rintro e w4 ⟨rfl, hb4⟩
  have z4 := hb4.size
  (try simp at z4)
  have y4_0 : w.heap.size < w4.heap.size := (by omega)
  have y4_1 : w.heap.size + 1 < w4.heap.size := (by omega)
  have y4_2 : w.heap.size + 1 + 1 < w4.heap.size := (by omega)
  have y4_3 : w1.heap.size < w4.heap.size := (by omega)
  have k4_0 := bel_keeps hb4 (b := w.heap.size) (o := 0) (v := .slice a1 rs.length c1) (by first | (go_simp; done) | assumption)
  have k4_1 := bel_keeps hb4 (b := w.heap.size) (o := 1) (v := .slice a2 os.length c2) (by first | (go_simp; done) | assumption)
  have k4_2 := bel_keeps hb4 (b := w.heap.size + 1) (o := 0) (v := .int .i64 2) (by first | (go_simp; done) | assumption)
  have k4_3 := bel_keeps hb4 (b := w.heap.size + 1) (o := 1) (v := .int .i64 dst) (by first | (go_simp; done) | assumption)
  have k4_4 := bel_keeps hb4 (b := w.heap.size + 1) (o := 2) (v := .int .i64 a) (by first | (go_simp; done) | assumption)
  have k4_5 := bel_keeps hb4 (b := w.heap.size + 1) (o := 3) (v := .int .i64 b) (by first | (go_simp; done) | assumption)
  have k4_6 := bel_keeps hb4 (b := w.heap.size + 1) (o := 4) (v := .int .i64 c) (by first | (go_simp; done) | assumption)
  have k4_7 := bel_keeps hb4 (b := w.heap.size + 1) (o := 5) (v := .int .i64 n) (by first | (go_simp; done) | assumption)
  have k4_8 := bel_keeps hb4 (b := w.heap.size + 1 + 1) (o := 0) (v := .slice none 0 0) (by first | (go_simp; done) | assumption)
  have k4_9 := bel_keeps hb4 (b := w.heap.size + 1 + 1) (o := 1) (v := .slice none 0 0) (by first | (go_simp; done) | assumption)
  have k4_10 := bel_keeps hb4 (b := w1.heap.size) (o := 0) (v := .slice (some ⟨g1, 0, none⟩) rs.length d1) (by first | (go_simp; done) | assumption)
  have k4_11 := bel_keeps hb4 (b := w1.heap.size) (o := 1) (v := .slice (some ⟨g2, 0, none⟩) os.length d2) (by first | (go_simp; done) | assumption)
  have f4_0 := bel_free hb4 (b := w.heap.size + 1 + 1) (o := 0) (by first | omega | (simp; done) | (simp; omega)) (by first | (go_simp; done) | assumption)
  have f4_1 := bel_free hb4 (b := w.heap.size + 1 + 1) (o := 1) (by first | omega | (simp; done) | (simp; omega)) (by first | (go_simp; done) | assumption)
  have f4_2 := bel_free hb4 (b := w1.heap.size) (o := 0) (by first | omega | (simp; done) | (simp; omega)) (by first | (go_simp; done) | assumption)
  have f4_3 := bel_free hb4 (b := w1.heap.size) (o := 1) (by first | omega | (simp; done) | (simp; omega)) (by first | (go_simp; done) | assumption)
  clear k3_0 k3_1 k3_2 k3_3 k3_4 k3_5 k3_6 k3_7 k3_8 k3_9 k3_10 k3_11 f3_0 f3_1 f3_2 f3_3
  rw [HS.out]
  go_wp2_with fail
  refine (sInputsOk_any rr _ _ _ hMr hml (HRI.out.below (by (repeat (first | with_reducible exact Below.refl _ _ | (with_reducible refine bel_next ?_ ?_ (by assumption)) | (with_reducible refine Below.alloc ?_ ?_ _) | (with_reducible refine Below.drew ?_) | (with_reducible refine below_drewN ?_ _) | (with_reducible refine Below.setCell ?_ ?_ _))) <;> (first | omega | (simp; done) | (simp; omega))))).mono ?_
  rintro e _ ⟨rfl, rfl⟩
  rw [HIN.out]
  obtain ⟨bi, oi, hai, hci, hrw⟩ := (show RdR w4 ai rr from HRI.out.below (by (repeat (first | with_reducible exact Below.refl _ _ | (with_reducible refine bel_next ?_ ?_ (by assumption)) | (with_reducible refine Below.alloc ?_ ?_ _) | (with_reducible refine Below.drew ?_) | (with_reducible refine below_drewN ?_ _) | (with_reducible refine Below.setCell ?_ ?_ _))) <;> (first | omega | (simp; done) | (simp; omega)))).at a.toNat (by have := H5.out; omega)
  subst hai
  obtain ⟨rw, hrwe⟩ : ∃ r, r = rr[a.toNat]'(by have := H5.out; omega) := ⟨_, rfl⟩
  have hal2 : a.toNat < rr.length := by have := H5.out; omega
  have HV3 := HV2.out hal2
  have hrow3 := HROW.out
  rw [← hrwe] at hci hrw hrow3
  simp only [← hrwe] at HV3
  have hci' : w4.cell? ⟨bi, oi + a.toNat, none⟩ = some (.slice rw.ad rw.xs.length rw.cap) := hci
  clear hci
  obtain ⟨bj, oj, haj, hcj⟩ := hrw.at n.toNat (by omega)
  have cj := hcj n.toNat (by omega)
  rw [← HV3 (by omega)] at cj
  rw [haj] at hci'
  have hin : n < (rw.xs.length : Int) := by omega
  obtain ⟨q, hq⟩ : ∃ q, q = rw.xs.length := ⟨_, rfl⟩
  rw [← hq] at hci' hin
  clear hcj HV3 hrow3 hrwe haj hq hrw
  obtain ⟨ca, fa⟩ := (show Own w4 _ _ _ _ _ _ _ from hO1.out.later (by (repeat (first | with_reducible exact Kp.refl _ _ | (with_reducible refine Kp.rng ?_ (by assumption) ?_) | (with_reducible refine Kp.below ?_ (by assumption)) | (with_reducible refine Kp.grown ?_ (by assumption) ?_) | (with_reducible refine Kp.alloc ?_ _) | (with_reducible refine Kp.drew ?_) | (with_reducible refine Kp.drewN ?_ _) | (with_reducible refine Kp.setCell ?_ _ ?_))) <;> (first | omega | (simp; done) | (simp; omega)))).get dst.toNat (by simp; exact hdt)
  generalize (I64 rs)[dst.toNat]'_ = u at ca
  have nq0 : w.heap.size ≠ g1 := (by omega)
  have np0 : g1 ≠ w.heap.size := (by omega)
  have nq1 : w.heap.size + 1 ≠ g1 := (by omega)
  have np1 : g1 ≠ w.heap.size + 1 := (by omega)
  have nq2 : w.heap.size + 1 + 1 ≠ g1 := (by omega)
  have np2 : g1 ≠ w.heap.size + 1 + 1 := (by omega)
  have nq3 : w1.heap.size ≠ g1 := (by omega)
  have np3 : g1 ≠ w1.heap.size := (by omega)
  go_wp2_with fail
  go_still_tail 14, (by kernel_rfl)
  change wpList _ _ _ _ _ (World.drew _)
  go_wp2_with fail
  refine (l12Copy_n (rs.set dst.toNat v) os rs.length os.length _ _ _ _ _ (by simp) rfl (by omega) (by omega) (by rw [← I64_set]; exact (((show Own w4 _ _ _ _ _ _ _ from hO1.out.later (by (repeat (first | with_reducible exact Kp.refl _ _ | (with_reducible refine Kp.rng ?_ (by assumption) ?_) | (with_reducible refine Kp.below ?_ (by assumption)) | (with_reducible refine Kp.grown ?_ (by assumption) ?_) | (with_reducible refine Kp.alloc ?_ _) | (with_reducible refine Kp.drew ?_) | (with_reducible refine Kp.drewN ?_ _) | (with_reducible refine Kp.setCell ?_ _ ?_))) <;> (first | omega | (simp; done) | (simp; omega))))).put _ _).rd) (hO2.out.later (by (repeat (first | with_reducible exact Kp.refl _ _ | (with_reducible refine Kp.rng ?_ (by assumption) ?_) | (with_reducible refine Kp.below ?_ (by assumption)) | (with_reducible refine Kp.grown ?_ (by assumption) ?_) | (with_reducible refine Kp.alloc ?_ _) | (with_reducible refine Kp.drew ?_) | (with_reducible refine Kp.drewN ?_ _) | (with_reducible refine Kp.setCell ?_ _ ?_))) <;> (first | omega | (simp; done) | (simp; omega)))).rd (by intro h; cases h) (by intro h; cases h)).mono ?_
  rintro e w6' ⟨g5, d5, g6, d6, rfl, ho5, ho6, hne5, hb6'⟩
  have z6' := hb6'.size
  (try simp at z6')
  have e6_0 := bel_keeps hb6' (b := w.heap.size + 1 + 1) (o := 0) (v := .slice none 0 0) (by first | (go_simp; done) | assumption)
  have e7_0 := bel_free hb6' (b := w.heap.size + 1 + 1) (o := 0) (by first | omega | (simp; done) | (simp; omega)) (by first | (go_simp; done) | assumption)
  have e6_1 := bel_keeps hb6' (b := w.heap.size + 1 + 1) (o := 1) (v := .slice none 0 0) (by first | (go_simp; done) | assumption)
  have e7_1 := bel_free hb6' (b := w.heap.size + 1 + 1) (o := 1) (by first | omega | (simp; done) | (simp; omega)) (by first | (go_simp; done) | assumption)
  have l5 := ho5.ge
  have l6 := ho6.ge
  (try simp at l5)
  (try simp at l6)
  have HO5 := Lib.hid ho5
  have HO6 := Lib.hid ho6
  clear ho5 ho6
  go_wp2_with fail
  refine bodyPost_ret (v := .agg #[.slice (some ⟨g5, 0, none⟩) (rs.length) d5, .slice (some ⟨g6, 0, none⟩) (os.length) d6]) (by simp [results, Try.results85, go_sem, e6_0, e6_1, e7_0, e7_1]) rfl ⟨g5, d5, g6, d6, by simp, ?_, ?_, hne5, ?_⟩
  · simpa using (HO5.out.lo (lo' := w.heap.size) (by first | omega | (simp; done) | (simp; omega))).later (by (repeat (first | with_reducible exact Kp.refl _ _ | (with_reducible refine Kp.rng ?_ (by assumption) ?_) | (with_reducible refine Kp.below ?_ (by assumption)) | (with_reducible refine Kp.grown ?_ (by assumption) ?_) | (with_reducible refine Kp.alloc ?_ _) | (with_reducible refine Kp.drew ?_) | (with_reducible refine Kp.drewN ?_ _) | (with_reducible refine Kp.setCell ?_ _ ?_))) <;> (first | omega | (simp; done) | (simp; omega)))
  · simpa using (HO6.out.lo (lo' := w.heap.size) (by first | omega | (simp; done) | (simp; omega))).later (by (repeat (first | with_reducible exact Kp.refl _ _ | (with_reducible refine Kp.rng ?_ (by assumption) ?_) | (with_reducible refine Kp.below ?_ (by assumption)) | (with_reducible refine Kp.grown ?_ (by assumption) ?_) | (with_reducible refine Kp.alloc ?_ _) | (with_reducible refine Kp.drew ?_) | (with_reducible refine Kp.drewN ?_ _) | (with_reducible refine Kp.setCell ?_ _ ?_))) <;> (first | omega | (simp; done) | (simp; omega)))
  · exact (by (repeat (first | with_reducible exact Below.refl _ _ | (with_reducible refine bel_next ?_ ?_ (by assumption)) | (with_reducible refine Below.alloc ?_ ?_ _) | (with_reducible refine Below.drew ?_) | (with_reducible refine below_drewN ?_ _) | (with_reducible refine Below.setCell ?_ ?_ _))) <;> (first | omega | (simp; done) | (simp; omega)))
set_option maxRecDepth 20000 in
set_option maxHeartbeats 8000000 in
theorem sStep_mux0 (rs os : List Int) (a1 a2 : Option Addr) (c1 c2 : Nat) (dst a b c n : Int) (rr : List Rw) (ai : Option Addr) (ci : Nat) (w : World) (hm1 : rs.length ≤ 1048576) (hm2 : os.length ≤ 1048576) (hr1 : RdC w a1 (I64 rs)) (hr2 : RdC w a2 (I64 os)) (hmr : rr.length ≤ 1048576) (hml : rowsLe rr) (hri : RdR w ai rr) (h1 : stateOk rs os = true) (h2 : plainB ⟨10, dst, a, b, c, n⟩ = true) (h3 : inputsOk (rr.map Rw.xs) = true) (hb : ¬ bits .and .i64 (rgd rs a) 1 = 1) :
    Calls Try.prog 85 #[.agg #[.slice a1 rs.length c1, .slice a2 os.length c2], stV ⟨10, dst, a, b, c, n⟩, .slice ai rr.length ci] w fun e w' => ∃ g1 d1 g2 d2, e = .returned (.agg #[.slice (some ⟨g1, 0, none⟩) (stepRegs rs os ⟨10, dst, a, b, c, n⟩ (rr.map Rw.xs)).length d1, .slice (some ⟨g2, 0, none⟩) (stepOuts rs os ⟨10, dst, a, b, c, n⟩ (rr.map Rw.xs)).length d2]) ∧
      Own w' w.heap.size 3 1 (some ⟨g1, 0, none⟩) (stepRegs rs os ⟨10, dst, a, b, c, n⟩ (rr.map Rw.xs)).length d1 (I64 (stepRegs rs os ⟨10, dst, a, b, c, n⟩ (rr.map Rw.xs))) ∧ Own w' w.heap.size 3 1 (some ⟨g2, 0, none⟩) (stepOuts rs os ⟨10, dst, a, b, c, n⟩ (rr.map Rw.xs)).length d2 (I64 (stepOuts rs os ⟨10, dst, a, b, c, n⟩ (rr.map Rw.xs))) ∧ g1 ≠ g2 ∧ Below w.heap.size w w' := by
  have hM1 : rs.length ≤ maxLen := by unfold maxLen; omega
  have hM2 : os.length ≤ maxLen := by unfold maxLen; omega
  have hMr : rr.length ≤ maxLen := by unfold maxLen; omega
  have HN1 := Lib.hid (rd_none hr1)
  have HN2 := Lib.hid (rd_none hr2)
  have HR1 := Lib.hid hr1
  have HR2 := Lib.hid hr2
  have HRI := Lib.hid hri
  clear hr1 hr2 hri
  have hB : stepB ⟨10, dst, a, b, c, n⟩ rs os (rr.map Rw.xs) = true := by simp [stepB, h1, h2, h3]
  have hst : stOk ⟨10, dst, a, b, c, n⟩ = true := by have h := h2; simp [plainB] at h; first | exact h | exact h.1
  
  have hh := stok_regs hst
  simp only at hh
  obtain ⟨o1, o13, r0, r1, r2, r3, r4, r5, r6, r7⟩ := hh
  have h8 := stateOk_len h1
  have h5 := inputs_len h3
  obtain ⟨v, hv⟩ : ∃ v, v = stepVal ⟨10, dst, a, b, c, n⟩ rs (rr.map Rw.xs) := ⟨_, rfl⟩
  have e1 : (stepRegs rs os ⟨10, dst, a, b, c, n⟩ (rr.map Rw.xs)) = rs.set dst.toNat v := by simp [stepRegs, hB, hv]
  have e2 : (stepOuts rs os ⟨10, dst, a, b, c, n⟩ (rr.map Rw.xs)) = os := by simp [stepOuts]
  have hv2 : v = rgd rs c := by rw [hv]; simp [stepVal, hb]
  clear hv
  rw [e1, e2]
  clear hB e1 e2
  have H8 := Lib.hid h8
  have H5 := Lib.hid h5
  have HST := Lib.hid h1
  have HS := Lib.hid hst
  have HIN := Lib.hid h3
  clear h1 h2 h3 hst h8 h5
  have hta : a.toNat < rs.length := by have := H8.out; omega
  have hxa : rgd rs a = rs[a.toNat] := rgd_at hta
  obtain ⟨xa, hqa⟩ : ∃ x, x = rs[a.toNat] := ⟨_, rfl⟩
  rw [← hqa] at hxa
  have hia : a < (rs.length : Int) := by have := H8.out; omega
  have htc : c.toNat < rs.length := by have := H8.out; omega
  have hxc : rgd rs c = rs[c.toNat] := rgd_at htc
  obtain ⟨xc, hqc⟩ : ∃ x, x = rs[c.toNat] := ⟨_, rfl⟩
  rw [← hqc] at hxc
  have hic : c < (rs.length : Int) := by have := H8.out; omega
  rw [hxa] at hb
  rw [hxc] at hv2
  rw [hv2]
  have tb : (bits .and .i64 xa 1 == 1) = false := by simp [hb]
  clear hb hxa hxc hv2
  have hdt : dst.toNat < rs.length := by have := H8.out; omega
  have hd8 : dst < (rs.length : Int) := by have := H8.out; omega
  have HQa := Lib.hid hqa
  clear hqa
  have HQc := Lib.hid hqc
  clear hqc
  unfold stV
  go_enter Try.func85, Try.ntmps85
  go_wp2_with fail
  obtain ⟨w0, hw0⟩ : ∃ W, W = ((w.alloc (.cells #[.slice a1 rs.length c1, .slice a2 os.length c2] 102)).alloc (.cells #[.int .i64 10, .int .i64 dst, .int .i64 a, .int .i64 b, .int .i64 c, .int .i64 n] 90)).alloc (.cells #[.slice none 0 0, .slice none 0 0] 102) := ⟨_, rfl⟩
  rw [← hw0]
  have hb0 : Below w.heap.size w w0 := by rw [hw0]; exact (by (repeat (first | with_reducible exact Below.refl _ _ | (with_reducible refine bel_next ?_ ?_ (by assumption)) | (with_reducible refine Below.alloc ?_ ?_ _) | (with_reducible refine Below.drew ?_) | (with_reducible refine below_drewN ?_ _) | (with_reducible refine Below.setCell ?_ ?_ _))) <;> (first | omega | (simp; done) | (simp; omega)))
  have z0 : w.heap.size + 1 + 1 < w0.heap.size := by rw [hw0]; simp
  have k0_0 : w0.cell? ⟨w.heap.size, 0, none⟩ = some (.slice a1 rs.length c1) := by rw [hw0]; go_simp
  have k0_1 : w0.cell? ⟨w.heap.size, 1, none⟩ = some (.slice a2 os.length c2) := by rw [hw0]; go_simp
  have k0_2 : w0.cell? ⟨w.heap.size + 1, 0, none⟩ = some (.int .i64 10) := by rw [hw0]; go_simp
  have k0_3 : w0.cell? ⟨w.heap.size + 1, 1, none⟩ = some (.int .i64 dst) := by rw [hw0]; go_simp
  have k0_4 : w0.cell? ⟨w.heap.size + 1, 2, none⟩ = some (.int .i64 a) := by rw [hw0]; go_simp
  have k0_5 : w0.cell? ⟨w.heap.size + 1, 3, none⟩ = some (.int .i64 b) := by rw [hw0]; go_simp
  have k0_6 : w0.cell? ⟨w.heap.size + 1, 4, none⟩ = some (.int .i64 c) := by rw [hw0]; go_simp
  have k0_7 : w0.cell? ⟨w.heap.size + 1, 5, none⟩ = some (.int .i64 n) := by rw [hw0]; go_simp
  have k0_8 : w0.cell? ⟨w.heap.size + 1 + 1, 0, none⟩ = some (.slice none 0 0) := by rw [hw0]; go_simp
  have k0_9 : w0.cell? ⟨w.heap.size + 1 + 1, 1, none⟩ = some (.slice none 0 0) := by rw [hw0]; go_simp
  have f0_0 : w0.frozen? ⟨w.heap.size + 1 + 1, 0, none⟩ = false := by rw [hw0]; go_simp
  have f0_1 : w0.frozen? ⟨w.heap.size + 1 + 1, 1, none⟩ = false := by rw [hw0]; go_simp
  clear hw0
  refine (l12Copy_any rs os a1 a2 c1 c2 _ (by omega) (by omega) (HR1.out.below (by (repeat (first | with_reducible exact Below.refl _ _ | (with_reducible refine bel_next ?_ ?_ (by assumption)) | (with_reducible refine Below.alloc ?_ ?_ _) | (with_reducible refine Below.drew ?_) | (with_reducible refine below_drewN ?_ _) | (with_reducible refine Below.setCell ?_ ?_ _))) <;> (first | omega | (simp; done) | (simp; omega)))) (HR2.out.below (by (repeat (first | with_reducible exact Below.refl _ _ | (with_reducible refine bel_next ?_ ?_ (by assumption)) | (with_reducible refine Below.alloc ?_ ?_ _) | (with_reducible refine Below.drew ?_) | (with_reducible refine below_drewN ?_ _) | (with_reducible refine Below.setCell ?_ ?_ _))) <;> (first | omega | (simp; done) | (simp; omega)))) HN1.out HN2.out).mono ?_
  rintro e w1 ⟨g1, d1, g2, d2, rfl, ho1, ho2, hne, hb1⟩
  have z1 := hb1.size
  (try simp at z1)
  have y1_0 : w.heap.size < w1.heap.size := (by omega)
  have y1_1 : w.heap.size + 1 < w1.heap.size := (by omega)
  have y1_2 : w.heap.size + 1 + 1 < w1.heap.size := (by omega)
  have k1_0 := bel_keeps hb1 (b := w.heap.size) (o := 0) (v := .slice a1 rs.length c1) (by first | (go_simp; done) | assumption)
  have k1_1 := bel_keeps hb1 (b := w.heap.size) (o := 1) (v := .slice a2 os.length c2) (by first | (go_simp; done) | assumption)
  have k1_2 := bel_keeps hb1 (b := w.heap.size + 1) (o := 0) (v := .int .i64 10) (by first | (go_simp; done) | assumption)
  have k1_3 := bel_keeps hb1 (b := w.heap.size + 1) (o := 1) (v := .int .i64 dst) (by first | (go_simp; done) | assumption)
  have k1_4 := bel_keeps hb1 (b := w.heap.size + 1) (o := 2) (v := .int .i64 a) (by first | (go_simp; done) | assumption)
  have k1_5 := bel_keeps hb1 (b := w.heap.size + 1) (o := 3) (v := .int .i64 b) (by first | (go_simp; done) | assumption)
  have k1_6 := bel_keeps hb1 (b := w.heap.size + 1) (o := 4) (v := .int .i64 c) (by first | (go_simp; done) | assumption)
  have k1_7 := bel_keeps hb1 (b := w.heap.size + 1) (o := 5) (v := .int .i64 n) (by first | (go_simp; done) | assumption)
  have k1_8 := bel_keeps hb1 (b := w.heap.size + 1 + 1) (o := 0) (v := .slice none 0 0) (by first | (go_simp; done) | assumption)
  have k1_9 := bel_keeps hb1 (b := w.heap.size + 1 + 1) (o := 1) (v := .slice none 0 0) (by first | (go_simp; done) | assumption)
  have f1_0 := bel_free hb1 (b := w.heap.size + 1 + 1) (o := 0) (by first | omega | (simp; done) | (simp; omega)) (by first | (go_simp; done) | assumption)
  have f1_1 := bel_free hb1 (b := w.heap.size + 1 + 1) (o := 1) (by first | omega | (simp; done) | (simp; omega)) (by first | (go_simp; done) | assumption)
  clear k0_0 k0_1 k0_2 k0_3 k0_4 k0_5 k0_6 k0_7 k0_8 k0_9 f0_0 f0_1
  have lg1 := ho1.ge
  have lg2 := ho2.ge
  have hO1 := Lib.hid ho1
  have hO2 := Lib.hid ho2
  clear ho1 ho2
  go_wp2_with fail
  obtain ⟨w2, hw2⟩ : ∃ W, W = w1.alloc (.cells #[.slice (some ⟨g1, 0, none⟩) rs.length d1, .slice (some ⟨g2, 0, none⟩) os.length d2] 102) := ⟨_, rfl⟩
  rw [← hw2]
  have hb2 : Below w1.heap.size w1 w2 := by rw [hw2]; exact (Below.refl _ _).alloc (Nat.le_refl _) _
  have x2 : w1.heap.size < w2.heap.size := by rw [hw2]; simp
  have z2 := hb2.size
  (try simp at z2)
  have y2_0 : w.heap.size < w2.heap.size := (by omega)
  have y2_1 : w.heap.size + 1 < w2.heap.size := (by omega)
  have y2_2 : w.heap.size + 1 + 1 < w2.heap.size := (by omega)
  have k2_0 := bel_keeps hb2 (b := w.heap.size) (o := 0) (v := .slice a1 rs.length c1) (by first | (go_simp; done) | assumption)
  have k2_1 := bel_keeps hb2 (b := w.heap.size) (o := 1) (v := .slice a2 os.length c2) (by first | (go_simp; done) | assumption)
  have k2_2 := bel_keeps hb2 (b := w.heap.size + 1) (o := 0) (v := .int .i64 10) (by first | (go_simp; done) | assumption)
  have k2_3 := bel_keeps hb2 (b := w.heap.size + 1) (o := 1) (v := .int .i64 dst) (by first | (go_simp; done) | assumption)
  have k2_4 := bel_keeps hb2 (b := w.heap.size + 1) (o := 2) (v := .int .i64 a) (by first | (go_simp; done) | assumption)
  have k2_5 := bel_keeps hb2 (b := w.heap.size + 1) (o := 3) (v := .int .i64 b) (by first | (go_simp; done) | assumption)
  have k2_6 := bel_keeps hb2 (b := w.heap.size + 1) (o := 4) (v := .int .i64 c) (by first | (go_simp; done) | assumption)
  have k2_7 := bel_keeps hb2 (b := w.heap.size + 1) (o := 5) (v := .int .i64 n) (by first | (go_simp; done) | assumption)
  have k2_8 := bel_keeps hb2 (b := w.heap.size + 1 + 1) (o := 0) (v := .slice none 0 0) (by first | (go_simp; done) | assumption)
  have k2_9 := bel_keeps hb2 (b := w.heap.size + 1 + 1) (o := 1) (v := .slice none 0 0) (by first | (go_simp; done) | assumption)
  have f2_0 := bel_free hb2 (b := w.heap.size + 1 + 1) (o := 0) (by first | omega | (simp; done) | (simp; omega)) (by first | (go_simp; done) | assumption)
  have f2_1 := bel_free hb2 (b := w.heap.size + 1 + 1) (o := 1) (by first | omega | (simp; done) | (simp; omega)) (by first | (go_simp; done) | assumption)
  clear k1_0 k1_1 k1_2 k1_3 k1_4 k1_5 k1_6 k1_7 k1_8 k1_9 f1_0 f1_1
  have kb2_0 : w2.cell? ⟨w1.heap.size, 0, none⟩ = some (.slice (some ⟨g1, 0, none⟩) rs.length d1) := by rw [hw2]; go_simp
  have kb2_1 : w2.cell? ⟨w1.heap.size, 1, none⟩ = some (.slice (some ⟨g2, 0, none⟩) os.length d2) := by rw [hw2]; go_simp
  have kf2_0 : w2.frozen? ⟨w1.heap.size, 0, none⟩ = false := by rw [hw2]; go_simp
  have kf2_1 : w2.frozen? ⟨w1.heap.size, 1, none⟩ = false := by rw [hw2]; go_simp
  clear hw2
  go_wp2_with fail
  refine (sStateOk_any rs os _ _ _ _ _ hM1 hM2 (HR1.out.below (by (repeat (first | with_reducible exact Below.refl _ _ | (with_reducible refine bel_next ?_ ?_ (by assumption)) | (with_reducible refine Below.alloc ?_ ?_ _) | (with_reducible refine Below.drew ?_) | (with_reducible refine below_drewN ?_ _) | (with_reducible refine Below.setCell ?_ ?_ _))) <;> (first | omega | (simp; done) | (simp; omega)))) (HR2.out.below (by (repeat (first | with_reducible exact Below.refl _ _ | (with_reducible refine bel_next ?_ ?_ (by assumption)) | (with_reducible refine Below.alloc ?_ ?_ _) | (with_reducible refine Below.drew ?_) | (with_reducible refine below_drewN ?_ _) | (with_reducible refine Below.setCell ?_ ?_ _))) <;> (first | omega | (simp; done) | (simp; omega))))).mono ?_
  rintro e w3 ⟨rfl, hb3⟩
  have z3 := hb3.size
  (try simp at z3)
  have y3_0 : w.heap.size < w3.heap.size := (by omega)
  have y3_1 : w.heap.size + 1 < w3.heap.size := (by omega)
  have y3_2 : w.heap.size + 1 + 1 < w3.heap.size := (by omega)
  have y3_3 : w1.heap.size < w3.heap.size := (by omega)
  have k3_0 := bel_keeps hb3 (b := w.heap.size) (o := 0) (v := .slice a1 rs.length c1) (by first | (go_simp; done) | assumption)
  have k3_1 := bel_keeps hb3 (b := w.heap.size) (o := 1) (v := .slice a2 os.length c2) (by first | (go_simp; done) | assumption)
  have k3_2 := bel_keeps hb3 (b := w.heap.size + 1) (o := 0) (v := .int .i64 10) (by first | (go_simp; done) | assumption)
  have k3_3 := bel_keeps hb3 (b := w.heap.size + 1) (o := 1) (v := .int .i64 dst) (by first | (go_simp; done) | assumption)
  have k3_4 := bel_keeps hb3 (b := w.heap.size + 1) (o := 2) (v := .int .i64 a) (by first | (go_simp; done) | assumption)
  have k3_5 := bel_keeps hb3 (b := w.heap.size + 1) (o := 3) (v := .int .i64 b) (by first | (go_simp; done) | assumption)
  have k3_6 := bel_keeps hb3 (b := w.heap.size + 1) (o := 4) (v := .int .i64 c) (by first | (go_simp; done) | assumption)
  have k3_7 := bel_keeps hb3 (b := w.heap.size + 1) (o := 5) (v := .int .i64 n) (by first | (go_simp; done) | assumption)
  have k3_8 := bel_keeps hb3 (b := w.heap.size + 1 + 1) (o := 0) (v := .slice none 0 0) (by first | (go_simp; done) | assumption)
  have k3_9 := bel_keeps hb3 (b := w.heap.size + 1 + 1) (o := 1) (v := .slice none 0 0) (by first | (go_simp; done) | assumption)
  have k3_10 := bel_keeps hb3 (b := w1.heap.size) (o := 0) (v := .slice (some ⟨g1, 0, none⟩) rs.length d1) (by first | (go_simp; done) | assumption)
  have k3_11 := bel_keeps hb3 (b := w1.heap.size) (o := 1) (v := .slice (some ⟨g2, 0, none⟩) os.length d2) (by first | (go_simp; done) | assumption)
  have f3_0 := bel_free hb3 (b := w.heap.size + 1 + 1) (o := 0) (by first | omega | (simp; done) | (simp; omega)) (by first | (go_simp; done) | assumption)
  have f3_1 := bel_free hb3 (b := w.heap.size + 1 + 1) (o := 1) (by first | omega | (simp; done) | (simp; omega)) (by first | (go_simp; done) | assumption)
  have f3_2 := bel_free hb3 (b := w1.heap.size) (o := 0) (by first | omega | (simp; done) | (simp; omega)) (by first | (go_simp; done) | assumption)
  have f3_3 := bel_free hb3 (b := w1.heap.size) (o := 1) (by first | omega | (simp; done) | (simp; omega)) (by first | (go_simp; done) | assumption)
  clear k2_0 k2_1 k2_2 k2_3 k2_4 k2_5 k2_6 k2_7 k2_8 k2_9 kb2_0 kb2_1 f2_0 f2_1 kf2_0 kf2_1
  rw [HST.out]
  go_wp2_with fail
  refine (sStmtOk_any ⟨10, dst, a, b, c, n⟩ _).mono ?_
  rintro e w4 ⟨rfl, hb4⟩
  have z4 := hb4.size
  (try simp at z4)
  have y4_0 : w.heap.size < w4.heap.size := (by omega)
  have y4_1 : w.heap.size + 1 < w4.heap.size := (by omega)
  have y4_2 : w.heap.size + 1 + 1 < w4.heap.size := (by omega)
  have y4_3 : w1.heap.size < w4.heap.size := (by omega)
  have k4_0 := bel_keeps hb4 (b := w.heap.size) (o := 0) (v := .slice a1 rs.length c1) (by first | (go_simp; done) | assumption)
  have k4_1 := bel_keeps hb4 (b := w.heap.size) (o := 1) (v := .slice a2 os.length c2) (by first | (go_simp; done) | assumption)
  have k4_2 := bel_keeps hb4 (b := w.heap.size + 1) (o := 0) (v := .int .i64 10) (by first | (go_simp; done) | assumption)
  have k4_3 := bel_keeps hb4 (b := w.heap.size + 1) (o := 1) (v := .int .i64 dst) (by first | (go_simp; done) | assumption)
  have k4_4 := bel_keeps hb4 (b := w.heap.size + 1) (o := 2) (v := .int .i64 a) (by first | (go_simp; done) | assumption)
  have k4_5 := bel_keeps hb4 (b := w.heap.size + 1) (o := 3) (v := .int .i64 b) (by first | (go_simp; done) | assumption)
  have k4_6 := bel_keeps hb4 (b := w.heap.size + 1) (o := 4) (v := .int .i64 c) (by first | (go_simp; done) | assumption)
  have k4_7 := bel_keeps hb4 (b := w.heap.size + 1) (o := 5) (v := .int .i64 n) (by first | (go_simp; done) | assumption)
  have k4_8 := bel_keeps hb4 (b := w.heap.size + 1 + 1) (o := 0) (v := .slice none 0 0) (by first | (go_simp; done) | assumption)
  have k4_9 := bel_keeps hb4 (b := w.heap.size + 1 + 1) (o := 1) (v := .slice none 0 0) (by first | (go_simp; done) | assumption)
  have k4_10 := bel_keeps hb4 (b := w1.heap.size) (o := 0) (v := .slice (some ⟨g1, 0, none⟩) rs.length d1) (by first | (go_simp; done) | assumption)
  have k4_11 := bel_keeps hb4 (b := w1.heap.size) (o := 1) (v := .slice (some ⟨g2, 0, none⟩) os.length d2) (by first | (go_simp; done) | assumption)
  have f4_0 := bel_free hb4 (b := w.heap.size + 1 + 1) (o := 0) (by first | omega | (simp; done) | (simp; omega)) (by first | (go_simp; done) | assumption)
  have f4_1 := bel_free hb4 (b := w.heap.size + 1 + 1) (o := 1) (by first | omega | (simp; done) | (simp; omega)) (by first | (go_simp; done) | assumption)
  have f4_2 := bel_free hb4 (b := w1.heap.size) (o := 0) (by first | omega | (simp; done) | (simp; omega)) (by first | (go_simp; done) | assumption)
  have f4_3 := bel_free hb4 (b := w1.heap.size) (o := 1) (by first | omega | (simp; done) | (simp; omega)) (by first | (go_simp; done) | assumption)
  clear k3_0 k3_1 k3_2 k3_3 k3_4 k3_5 k3_6 k3_7 k3_8 k3_9 k3_10 k3_11 f3_0 f3_1 f3_2 f3_3
  rw [HS.out]
  go_wp2_with fail
  refine (sInputsOk_any rr _ _ _ hMr hml (HRI.out.below (by (repeat (first | with_reducible exact Below.refl _ _ | (with_reducible refine bel_next ?_ ?_ (by assumption)) | (with_reducible refine Below.alloc ?_ ?_ _) | (with_reducible refine Below.drew ?_) | (with_reducible refine below_drewN ?_ _) | (with_reducible refine Below.setCell ?_ ?_ _))) <;> (first | omega | (simp; done) | (simp; omega))))).mono ?_
  rintro e _ ⟨rfl, rfl⟩
  rw [HIN.out]
  obtain ⟨bba, ooa, haaa, hcca⟩ := (show RdC w4 a1 (I64 rs) from HR1.out.below (by (repeat (first | with_reducible exact Below.refl _ _ | (with_reducible refine bel_next ?_ ?_ (by assumption)) | (with_reducible refine Below.alloc ?_ ?_ _) | (with_reducible refine Below.drew ?_) | (with_reducible refine below_drewN ?_ _) | (with_reducible refine Below.setCell ?_ ?_ _))) <;> (first | omega | (simp; done) | (simp; omega)))).at a.toNat (by have := H8.out; omega)
  have cca := hcca a.toNat (by have := H8.out; omega)
  rw [← HQa.out] at cca
  have lta := lt_of_cell cca
  subst haaa
  clear hcca
  obtain ⟨bbc, ooc, haac, hccc⟩ := (show RdC w4 (some ⟨bba, ooa, none⟩) (I64 rs) from HR1.out.below (by (repeat (first | with_reducible exact Below.refl _ _ | (with_reducible refine bel_next ?_ ?_ (by assumption)) | (with_reducible refine Below.alloc ?_ ?_ _) | (with_reducible refine Below.drew ?_) | (with_reducible refine below_drewN ?_ _) | (with_reducible refine Below.setCell ?_ ?_ _))) <;> (first | omega | (simp; done) | (simp; omega)))).at c.toNat (by have := H8.out; omega)
  simp only [Option.some.injEq, Addr.mk.injEq, and_true] at haac
  obtain ⟨rfl, rfl⟩ := haac
  have ccc := hccc c.toNat (by have := H8.out; omega)
  rw [← HQc.out] at ccc
  clear hccc
  have hab : bba < w.heap.size := by rcases HR1.out with h | ⟨b, o, h, hc⟩ <;> first | (have hz : rs.length = 0 := (by simpa using congrArg List.length h); have := H8.out; omega) | (simp only [Option.some.injEq, Addr.mk.injEq, and_true] at h; obtain ⟨rfl, rfl⟩ := h; exact lt_of_cell (hc 0 (by have := H8.out; simp; omega)))
  obtain ⟨ca, fa⟩ := (show Own w4 _ _ _ _ _ _ _ from hO1.out.later (by (repeat (first | with_reducible exact Kp.refl _ _ | (with_reducible refine Kp.rng ?_ (by assumption) ?_) | (with_reducible refine Kp.below ?_ (by assumption)) | (with_reducible refine Kp.grown ?_ (by assumption) ?_) | (with_reducible refine Kp.alloc ?_ _) | (with_reducible refine Kp.drew ?_) | (with_reducible refine Kp.drewN ?_ _) | (with_reducible refine Kp.setCell ?_ _ ?_))) <;> (first | omega | (simp; done) | (simp; omega)))).get dst.toNat (by simp; exact hdt)
  generalize (I64 rs)[dst.toNat]'_ = u at ca
  have nq0 : w.heap.size ≠ g1 := (by omega)
  have np0 : g1 ≠ w.heap.size := (by omega)
  have nq1 : w.heap.size + 1 ≠ g1 := (by omega)
  have np1 : g1 ≠ w.heap.size + 1 := (by omega)
  have nq2 : w.heap.size + 1 + 1 ≠ g1 := (by omega)
  have np2 : g1 ≠ w.heap.size + 1 + 1 := (by omega)
  have nq3 : w1.heap.size ≠ g1 := (by omega)
  have np3 : g1 ≠ w1.heap.size := (by omega)
  have nq4 : bba ≠ g1 := (by omega)
  have np4 : g1 ≠ bba := (by omega)
  go_wp2_with fail
  go_still_tail 11, (by kernel_rfl)
  change wpList _ _ _ _ _ (World.drew _)
  go_wp2_with fail
  refine (l12Copy_n (rs.set dst.toNat xc) os rs.length os.length _ _ _ _ _ (by simp) rfl (by omega) (by omega) (by rw [← I64_set]; exact (((show Own w4 _ _ _ _ _ _ _ from hO1.out.later (by (repeat (first | with_reducible exact Kp.refl _ _ | (with_reducible refine Kp.rng ?_ (by assumption) ?_) | (with_reducible refine Kp.below ?_ (by assumption)) | (with_reducible refine Kp.grown ?_ (by assumption) ?_) | (with_reducible refine Kp.alloc ?_ _) | (with_reducible refine Kp.drew ?_) | (with_reducible refine Kp.drewN ?_ _) | (with_reducible refine Kp.setCell ?_ _ ?_))) <;> (first | omega | (simp; done) | (simp; omega))))).put _ _).rd) (hO2.out.later (by (repeat (first | with_reducible exact Kp.refl _ _ | (with_reducible refine Kp.rng ?_ (by assumption) ?_) | (with_reducible refine Kp.below ?_ (by assumption)) | (with_reducible refine Kp.grown ?_ (by assumption) ?_) | (with_reducible refine Kp.alloc ?_ _) | (with_reducible refine Kp.drew ?_) | (with_reducible refine Kp.drewN ?_ _) | (with_reducible refine Kp.setCell ?_ _ ?_))) <;> (first | omega | (simp; done) | (simp; omega)))).rd (by intro h; cases h) (by intro h; cases h)).mono ?_
  rintro e w6' ⟨g5, d5, g6, d6, rfl, ho5, ho6, hne5, hb6'⟩
  have z6' := hb6'.size
  (try simp at z6')
  have e6_0 := bel_keeps hb6' (b := w.heap.size + 1 + 1) (o := 0) (v := .slice none 0 0) (by first | (go_simp; done) | assumption)
  have e7_0 := bel_free hb6' (b := w.heap.size + 1 + 1) (o := 0) (by first | omega | (simp; done) | (simp; omega)) (by first | (go_simp; done) | assumption)
  have e6_1 := bel_keeps hb6' (b := w.heap.size + 1 + 1) (o := 1) (v := .slice none 0 0) (by first | (go_simp; done) | assumption)
  have e7_1 := bel_free hb6' (b := w.heap.size + 1 + 1) (o := 1) (by first | omega | (simp; done) | (simp; omega)) (by first | (go_simp; done) | assumption)
  have l5 := ho5.ge
  have l6 := ho6.ge
  (try simp at l5)
  (try simp at l6)
  have HO5 := Lib.hid ho5
  have HO6 := Lib.hid ho6
  clear ho5 ho6
  go_wp2_with fail
  refine bodyPost_ret (v := .agg #[.slice (some ⟨g5, 0, none⟩) (rs.length) d5, .slice (some ⟨g6, 0, none⟩) (os.length) d6]) (by simp [results, Try.results85, go_sem, e6_0, e6_1, e7_0, e7_1]) rfl ⟨g5, d5, g6, d6, by simp, ?_, ?_, hne5, ?_⟩
  · simpa using (HO5.out.lo (lo' := w.heap.size) (by first | omega | (simp; done) | (simp; omega))).later (by (repeat (first | with_reducible exact Kp.refl _ _ | (with_reducible refine Kp.rng ?_ (by assumption) ?_) | (with_reducible refine Kp.below ?_ (by assumption)) | (with_reducible refine Kp.grown ?_ (by assumption) ?_) | (with_reducible refine Kp.alloc ?_ _) | (with_reducible refine Kp.drew ?_) | (with_reducible refine Kp.drewN ?_ _) | (with_reducible refine Kp.setCell ?_ _ ?_))) <;> (first | omega | (simp; done) | (simp; omega)))
  · simpa using (HO6.out.lo (lo' := w.heap.size) (by first | omega | (simp; done) | (simp; omega))).later (by (repeat (first | with_reducible exact Kp.refl _ _ | (with_reducible refine Kp.rng ?_ (by assumption) ?_) | (with_reducible refine Kp.below ?_ (by assumption)) | (with_reducible refine Kp.grown ?_ (by assumption) ?_) | (with_reducible refine Kp.alloc ?_ _) | (with_reducible refine Kp.drew ?_) | (with_reducible refine Kp.drewN ?_ _) | (with_reducible refine Kp.setCell ?_ _ ?_))) <;> (first | omega | (simp; done) | (simp; omega)))
  · exact (by (repeat (first | with_reducible exact Below.refl _ _ | (with_reducible refine bel_next ?_ ?_ (by assumption)) | (with_reducible refine Below.alloc ?_ ?_ _) | (with_reducible refine Below.drew ?_) | (with_reducible refine below_drewN ?_ _) | (with_reducible refine Below.setCell ?_ ?_ _))) <;> (first | omega | (simp; done) | (simp; omega)))
set_option maxRecDepth 20000 in
set_option maxHeartbeats 8000000 in
theorem sStep_mux1 (rs os : List Int) (a1 a2 : Option Addr) (c1 c2 : Nat) (dst a b c n : Int) (rr : List Rw) (ai : Option Addr) (ci : Nat) (w : World) (hm1 : rs.length ≤ 1048576) (hm2 : os.length ≤ 1048576) (hr1 : RdC w a1 (I64 rs)) (hr2 : RdC w a2 (I64 os)) (hmr : rr.length ≤ 1048576) (hml : rowsLe rr) (hri : RdR w ai rr) (h1 : stateOk rs os = true) (h2 : plainB ⟨10, dst, a, b, c, n⟩ = true) (h3 : inputsOk (rr.map Rw.xs) = true) (hb : bits .and .i64 (rgd rs a) 1 = 1) :
    Calls Try.prog 85 #[.agg #[.slice a1 rs.length c1, .slice a2 os.length c2], stV ⟨10, dst, a, b, c, n⟩, .slice ai rr.length ci] w fun e w' => ∃ g1 d1 g2 d2, e = .returned (.agg #[.slice (some ⟨g1, 0, none⟩) (stepRegs rs os ⟨10, dst, a, b, c, n⟩ (rr.map Rw.xs)).length d1, .slice (some ⟨g2, 0, none⟩) (stepOuts rs os ⟨10, dst, a, b, c, n⟩ (rr.map Rw.xs)).length d2]) ∧
      Own w' w.heap.size 3 1 (some ⟨g1, 0, none⟩) (stepRegs rs os ⟨10, dst, a, b, c, n⟩ (rr.map Rw.xs)).length d1 (I64 (stepRegs rs os ⟨10, dst, a, b, c, n⟩ (rr.map Rw.xs))) ∧ Own w' w.heap.size 3 1 (some ⟨g2, 0, none⟩) (stepOuts rs os ⟨10, dst, a, b, c, n⟩ (rr.map Rw.xs)).length d2 (I64 (stepOuts rs os ⟨10, dst, a, b, c, n⟩ (rr.map Rw.xs))) ∧ g1 ≠ g2 ∧ Below w.heap.size w w' := by
  have hM1 : rs.length ≤ maxLen := by unfold maxLen; omega
  have hM2 : os.length ≤ maxLen := by unfold maxLen; omega
  have hMr : rr.length ≤ maxLen := by unfold maxLen; omega
  have HN1 := Lib.hid (rd_none hr1)
  have HN2 := Lib.hid (rd_none hr2)
  have HR1 := Lib.hid hr1
  have HR2 := Lib.hid hr2
  have HRI := Lib.hid hri
  clear hr1 hr2 hri
  have hB : stepB ⟨10, dst, a, b, c, n⟩ rs os (rr.map Rw.xs) = true := by simp [stepB, h1, h2, h3]
  have hst : stOk ⟨10, dst, a, b, c, n⟩ = true := by have h := h2; simp [plainB] at h; first | exact h | exact h.1
  
  have hh := stok_regs hst
  simp only at hh
  obtain ⟨o1, o13, r0, r1, r2, r3, r4, r5, r6, r7⟩ := hh
  have h8 := stateOk_len h1
  have h5 := inputs_len h3
  obtain ⟨v, hv⟩ : ∃ v, v = stepVal ⟨10, dst, a, b, c, n⟩ rs (rr.map Rw.xs) := ⟨_, rfl⟩
  have e1 : (stepRegs rs os ⟨10, dst, a, b, c, n⟩ (rr.map Rw.xs)) = rs.set dst.toNat v := by simp [stepRegs, hB, hv]
  have e2 : (stepOuts rs os ⟨10, dst, a, b, c, n⟩ (rr.map Rw.xs)) = os := by simp [stepOuts]
  have hv2 : v = rgd rs b := by rw [hv]; simp [stepVal, hb]
  clear hv
  rw [e1, e2]
  clear hB e1 e2
  have H8 := Lib.hid h8
  have H5 := Lib.hid h5
  have HST := Lib.hid h1
  have HS := Lib.hid hst
  have HIN := Lib.hid h3
  clear h1 h2 h3 hst h8 h5
  have hta : a.toNat < rs.length := by have := H8.out; omega
  have hxa : rgd rs a = rs[a.toNat] := rgd_at hta
  obtain ⟨xa, hqa⟩ : ∃ x, x = rs[a.toNat] := ⟨_, rfl⟩
  rw [← hqa] at hxa
  have hia : a < (rs.length : Int) := by have := H8.out; omega
  have htb : b.toNat < rs.length := by have := H8.out; omega
  have hxb : rgd rs b = rs[b.toNat] := rgd_at htb
  obtain ⟨xb, hqb⟩ : ∃ x, x = rs[b.toNat] := ⟨_, rfl⟩
  rw [← hqb] at hxb
  have hib : b < (rs.length : Int) := by have := H8.out; omega
  have htc : c.toNat < rs.length := by have := H8.out; omega
  have hxc : rgd rs c = rs[c.toNat] := rgd_at htc
  obtain ⟨xc, hqc⟩ : ∃ x, x = rs[c.toNat] := ⟨_, rfl⟩
  rw [← hqc] at hxc
  have hic : c < (rs.length : Int) := by have := H8.out; omega
  rw [hxa] at hb
  rw [hxb] at hv2
  rw [hv2]
  have tb : (bits .and .i64 xa 1 == 1) = true := by simp [hb]
  clear hb hxa hxb hv2
  have hdt : dst.toNat < rs.length := by have := H8.out; omega
  have hd8 : dst < (rs.length : Int) := by have := H8.out; omega
  have HQa := Lib.hid hqa
  clear hqa
  have HQb := Lib.hid hqb
  clear hqb
  have HQc := Lib.hid hqc
  clear hqc
  unfold stV
  go_enter Try.func85, Try.ntmps85
  go_wp2_with fail
  obtain ⟨w0, hw0⟩ : ∃ W, W = ((w.alloc (.cells #[.slice a1 rs.length c1, .slice a2 os.length c2] 102)).alloc (.cells #[.int .i64 10, .int .i64 dst, .int .i64 a, .int .i64 b, .int .i64 c, .int .i64 n] 90)).alloc (.cells #[.slice none 0 0, .slice none 0 0] 102) := ⟨_, rfl⟩
  rw [← hw0]
  have hb0 : Below w.heap.size w w0 := by rw [hw0]; exact (by (repeat (first | with_reducible exact Below.refl _ _ | (with_reducible refine bel_next ?_ ?_ (by assumption)) | (with_reducible refine Below.alloc ?_ ?_ _) | (with_reducible refine Below.drew ?_) | (with_reducible refine below_drewN ?_ _) | (with_reducible refine Below.setCell ?_ ?_ _))) <;> (first | omega | (simp; done) | (simp; omega)))
  have z0 : w.heap.size + 1 + 1 < w0.heap.size := by rw [hw0]; simp
  have k0_0 : w0.cell? ⟨w.heap.size, 0, none⟩ = some (.slice a1 rs.length c1) := by rw [hw0]; go_simp
  have k0_1 : w0.cell? ⟨w.heap.size, 1, none⟩ = some (.slice a2 os.length c2) := by rw [hw0]; go_simp
  have k0_2 : w0.cell? ⟨w.heap.size + 1, 0, none⟩ = some (.int .i64 10) := by rw [hw0]; go_simp
  have k0_3 : w0.cell? ⟨w.heap.size + 1, 1, none⟩ = some (.int .i64 dst) := by rw [hw0]; go_simp
  have k0_4 : w0.cell? ⟨w.heap.size + 1, 2, none⟩ = some (.int .i64 a) := by rw [hw0]; go_simp
  have k0_5 : w0.cell? ⟨w.heap.size + 1, 3, none⟩ = some (.int .i64 b) := by rw [hw0]; go_simp
  have k0_6 : w0.cell? ⟨w.heap.size + 1, 4, none⟩ = some (.int .i64 c) := by rw [hw0]; go_simp
  have k0_7 : w0.cell? ⟨w.heap.size + 1, 5, none⟩ = some (.int .i64 n) := by rw [hw0]; go_simp
  have k0_8 : w0.cell? ⟨w.heap.size + 1 + 1, 0, none⟩ = some (.slice none 0 0) := by rw [hw0]; go_simp
  have k0_9 : w0.cell? ⟨w.heap.size + 1 + 1, 1, none⟩ = some (.slice none 0 0) := by rw [hw0]; go_simp
  have f0_0 : w0.frozen? ⟨w.heap.size + 1 + 1, 0, none⟩ = false := by rw [hw0]; go_simp
  have f0_1 : w0.frozen? ⟨w.heap.size + 1 + 1, 1, none⟩ = false := by rw [hw0]; go_simp
  clear hw0
  refine (l12Copy_any rs os a1 a2 c1 c2 _ (by omega) (by omega) (HR1.out.below (by (repeat (first | with_reducible exact Below.refl _ _ | (with_reducible refine bel_next ?_ ?_ (by assumption)) | (with_reducible refine Below.alloc ?_ ?_ _) | (with_reducible refine Below.drew ?_) | (with_reducible refine below_drewN ?_ _) | (with_reducible refine Below.setCell ?_ ?_ _))) <;> (first | omega | (simp; done) | (simp; omega)))) (HR2.out.below (by (repeat (first | with_reducible exact Below.refl _ _ | (with_reducible refine bel_next ?_ ?_ (by assumption)) | (with_reducible refine Below.alloc ?_ ?_ _) | (with_reducible refine Below.drew ?_) | (with_reducible refine below_drewN ?_ _) | (with_reducible refine Below.setCell ?_ ?_ _))) <;> (first | omega | (simp; done) | (simp; omega)))) HN1.out HN2.out).mono ?_
  rintro e w1 ⟨g1, d1, g2, d2, rfl, ho1, ho2, hne, hb1⟩
  have z1 := hb1.size
  (try simp at z1)
  have y1_0 : w.heap.size < w1.heap.size := (by omega)
  have y1_1 : w.heap.size + 1 < w1.heap.size := (by omega)
  have y1_2 : w.heap.size + 1 + 1 < w1.heap.size := (by omega)
  have k1_0 := bel_keeps hb1 (b := w.heap.size) (o := 0) (v := .slice a1 rs.length c1) (by first | (go_simp; done) | assumption)
  have k1_1 := bel_keeps hb1 (b := w.heap.size) (o := 1) (v := .slice a2 os.length c2) (by first | (go_simp; done) | assumption)
  have k1_2 := bel_keeps hb1 (b := w.heap.size + 1) (o := 0) (v := .int .i64 10) (by first | (go_simp; done) | assumption)
  have k1_3 := bel_keeps hb1 (b := w.heap.size + 1) (o := 1) (v := .int .i64 dst) (by first | (go_simp; done) | assumption)
  have k1_4 := bel_keeps hb1 (b := w.heap.size + 1) (o := 2) (v := .int .i64 a) (by first | (go_simp; done) | assumption)
  have k1_5 := bel_keeps hb1 (b := w.heap.size + 1) (o := 3) (v := .int .i64 b) (by first | (go_simp; done) | assumption)
  have k1_6 := bel_keeps hb1 (b := w.heap.size + 1) (o := 4) (v := .int .i64 c) (by first | (go_simp; done) | assumption)
  have k1_7 := bel_keeps hb1 (b := w.heap.size + 1) (o := 5) (v := .int .i64 n) (by first | (go_simp; done) | assumption)
  have k1_8 := bel_keeps hb1 (b := w.heap.size + 1 + 1) (o := 0) (v := .slice none 0 0) (by first | (go_simp; done) | assumption)
  have k1_9 := bel_keeps hb1 (b := w.heap.size + 1 + 1) (o := 1) (v := .slice none 0 0) (by first | (go_simp; done) | assumption)
  have f1_0 := bel_free hb1 (b := w.heap.size + 1 + 1) (o := 0) (by first | omega | (simp; done) | (simp; omega)) (by first | (go_simp; done) | assumption)
  have f1_1 := bel_free hb1 (b := w.heap.size + 1 + 1) (o := 1) (by first | omega | (simp; done) | (simp; omega)) (by first | (go_simp; done) | assumption)
  clear k0_0 k0_1 k0_2 k0_3 k0_4 k0_5 k0_6 k0_7 k0_8 k0_9 f0_0 f0_1
  have lg1 := ho1.ge
  have lg2 := ho2.ge
  have hO1 := Lib.hid ho1
  have hO2 := Lib.hid ho2
  clear ho1 ho2
  go_wp2_with fail
  obtain ⟨w2, hw2⟩ : ∃ W, W = w1.alloc (.cells #[.slice (some ⟨g1, 0, none⟩) rs.length d1, .slice (some ⟨g2, 0, none⟩) os.length d2] 102) := ⟨_, rfl⟩
  rw [← hw2]
  have hb2 : Below w1.heap.size w1 w2 := by rw [hw2]; exact (Below.refl _ _).alloc (Nat.le_refl _) _
  have x2 : w1.heap.size < w2.heap.size := by rw [hw2]; simp
  have z2 := hb2.size
  (try simp at z2)
  have y2_0 : w.heap.size < w2.heap.size := (by omega)
  have y2_1 : w.heap.size + 1 < w2.heap.size := (by omega)
  have y2_2 : w.heap.size + 1 + 1 < w2.heap.size := (by omega)
  have k2_0 := bel_keeps hb2 (b := w.heap.size) (o := 0) (v := .slice a1 rs.length c1) (by first | (go_simp; done) | assumption)
  have k2_1 := bel_keeps hb2 (b := w.heap.size) (o := 1) (v := .slice a2 os.length c2) (by first | (go_simp; done) | assumption)
  have k2_2 := bel_keeps hb2 (b := w.heap.size + 1) (o := 0) (v := .int .i64 10) (by first | (go_simp; done) | assumption)
  have k2_3 := bel_keeps hb2 (b := w.heap.size + 1) (o := 1) (v := .int .i64 dst) (by first | (go_simp; done) | assumption)
  have k2_4 := bel_keeps hb2 (b := w.heap.size + 1) (o := 2) (v := .int .i64 a) (by first | (go_simp; done) | assumption)
  have k2_5 := bel_keeps hb2 (b := w.heap.size + 1) (o := 3) (v := .int .i64 b) (by first | (go_simp; done) | assumption)
  have k2_6 := bel_keeps hb2 (b := w.heap.size + 1) (o := 4) (v := .int .i64 c) (by first | (go_simp; done) | assumption)
  have k2_7 := bel_keeps hb2 (b := w.heap.size + 1) (o := 5) (v := .int .i64 n) (by first | (go_simp; done) | assumption)
  have k2_8 := bel_keeps hb2 (b := w.heap.size + 1 + 1) (o := 0) (v := .slice none 0 0) (by first | (go_simp; done) | assumption)
  have k2_9 := bel_keeps hb2 (b := w.heap.size + 1 + 1) (o := 1) (v := .slice none 0 0) (by first | (go_simp; done) | assumption)
  have f2_0 := bel_free hb2 (b := w.heap.size + 1 + 1) (o := 0) (by first | omega | (simp; done) | (simp; omega)) (by first | (go_simp; done) | assumption)
  have f2_1 := bel_free hb2 (b := w.heap.size + 1 + 1) (o := 1) (by first | omega | (simp; done) | (simp; omega)) (by first | (go_simp; done) | assumption)
  clear k1_0 k1_1 k1_2 k1_3 k1_4 k1_5 k1_6 k1_7 k1_8 k1_9 f1_0 f1_1
  have kb2_0 : w2.cell? ⟨w1.heap.size, 0, none⟩ = some (.slice (some ⟨g1, 0, none⟩) rs.length d1) := by rw [hw2]; go_simp
  have kb2_1 : w2.cell? ⟨w1.heap.size, 1, none⟩ = some (.slice (some ⟨g2, 0, none⟩) os.length d2) := by rw [hw2]; go_simp
  have kf2_0 : w2.frozen? ⟨w1.heap.size, 0, none⟩ = false := by rw [hw2]; go_simp
  have kf2_1 : w2.frozen? ⟨w1.heap.size, 1, none⟩ = false := by rw [hw2]; go_simp
  clear hw2
  go_wp2_with fail
  refine (sStateOk_any rs os _ _ _ _ _ hM1 hM2 (HR1.out.below (by (repeat (first | with_reducible exact Below.refl _ _ | (with_reducible refine bel_next ?_ ?_ (by assumption)) | (with_reducible refine Below.alloc ?_ ?_ _) | (with_reducible refine Below.drew ?_) | (with_reducible refine below_drewN ?_ _) | (with_reducible refine Below.setCell ?_ ?_ _))) <;> (first | omega | (simp; done) | (simp; omega)))) (HR2.out.below (by (repeat (first | with_reducible exact Below.refl _ _ | (with_reducible refine bel_next ?_ ?_ (by assumption)) | (with_reducible refine Below.alloc ?_ ?_ _) | (with_reducible refine Below.drew ?_) | (with_reducible refine below_drewN ?_ _) | (with_reducible refine Below.setCell ?_ ?_ _))) <;> (first | omega | (simp; done) | (simp; omega))))).mono ?_
  rintro e w3 ⟨rfl, hb3⟩
  have z3 := hb3.size
  (try simp at z3)
  have y3_0 : w.heap.size < w3.heap.size := (by omega)
  have y3_1 : w.heap.size + 1 < w3.heap.size := (by omega)
  have y3_2 : w.heap.size + 1 + 1 < w3.heap.size := (by omega)
  have y3_3 : w1.heap.size < w3.heap.size := (by omega)
  have k3_0 := bel_keeps hb3 (b := w.heap.size) (o := 0) (v := .slice a1 rs.length c1) (by first | (go_simp; done) | assumption)
  have k3_1 := bel_keeps hb3 (b := w.heap.size) (o := 1) (v := .slice a2 os.length c2) (by first | (go_simp; done) | assumption)
  have k3_2 := bel_keeps hb3 (b := w.heap.size + 1) (o := 0) (v := .int .i64 10) (by first | (go_simp; done) | assumption)
  have k3_3 := bel_keeps hb3 (b := w.heap.size + 1) (o := 1) (v := .int .i64 dst) (by first | (go_simp; done) | assumption)
  have k3_4 := bel_keeps hb3 (b := w.heap.size + 1) (o := 2) (v := .int .i64 a) (by first | (go_simp; done) | assumption)
  have k3_5 := bel_keeps hb3 (b := w.heap.size + 1) (o := 3) (v := .int .i64 b) (by first | (go_simp; done) | assumption)
  have k3_6 := bel_keeps hb3 (b := w.heap.size + 1) (o := 4) (v := .int .i64 c) (by first | (go_simp; done) | assumption)
  have k3_7 := bel_keeps hb3 (b := w.heap.size + 1) (o := 5) (v := .int .i64 n) (by first | (go_simp; done) | assumption)
  have k3_8 := bel_keeps hb3 (b := w.heap.size + 1 + 1) (o := 0) (v := .slice none 0 0) (by first | (go_simp; done) | assumption)
  have k3_9 := bel_keeps hb3 (b := w.heap.size + 1 + 1) (o := 1) (v := .slice none 0 0) (by first | (go_simp; done) | assumption)
  have k3_10 := bel_keeps hb3 (b := w1.heap.size) (o := 0) (v := .slice (some ⟨g1, 0, none⟩) rs.length d1) (by first | (go_simp; done) | assumption)
  have k3_11 := bel_keeps hb3 (b := w1.heap.size) (o := 1) (v := .slice (some ⟨g2, 0, none⟩) os.length d2) (by first | (go_simp; done) | assumption)
  have f3_0 := bel_free hb3 (b := w.heap.size + 1 + 1) (o := 0) (by first | omega | (simp; done) | (simp; omega)) (by first | (go_simp; done) | assumption)
  have f3_1 := bel_free hb3 (b := w.heap.size + 1 + 1) (o := 1) (by first | omega | (simp; done) | (simp; omega)) (by first | (go_simp; done) | assumption)
  have f3_2 := bel_free hb3 (b := w1.heap.size) (o := 0) (by first | omega | (simp; done) | (simp; omega)) (by first | (go_simp; done) | assumption)
  have f3_3 := bel_free hb3 (b := w1.heap.size) (o := 1) (by first | omega | (simp; done) | (simp; omega)) (by first | (go_simp; done) | assumption)
  clear k2_0 k2_1 k2_2 k2_3 k2_4 k2_5 k2_6 k2_7 k2_8 k2_9 kb2_0 kb2_1 f2_0 f2_1 kf2_0 kf2_1
  rw [HST.out]
  go_wp2_with fail
  refine (sStmtOk_any ⟨10, dst, a, b, c, n⟩ _).mono ?_
  rintro e w4 ⟨rfl, hb4⟩
  have z4 := hb4.size
  (try simp at z4)
  have y4_0 : w.heap.size < w4.heap.size := (by omega)
  have y4_1 : w.heap.size + 1 < w4.heap.size := (by omega)
  have y4_2 : w.heap.size + 1 + 1 < w4.heap.size := (by omega)
  have y4_3 : w1.heap.size < w4.heap.size := (by omega)
  have k4_0 := bel_keeps hb4 (b := w.heap.size) (o := 0) (v := .slice a1 rs.length c1) (by first | (go_simp; done) | assumption)
  have k4_1 := bel_keeps hb4 (b := w.heap.size) (o := 1) (v := .slice a2 os.length c2) (by first | (go_simp; done) | assumption)
  have k4_2 := bel_keeps hb4 (b := w.heap.size + 1) (o := 0) (v := .int .i64 10) (by first | (go_simp; done) | assumption)
  have k4_3 := bel_keeps hb4 (b := w.heap.size + 1) (o := 1) (v := .int .i64 dst) (by first | (go_simp; done) | assumption)
  have k4_4 := bel_keeps hb4 (b := w.heap.size + 1) (o := 2) (v := .int .i64 a) (by first | (go_simp; done) | assumption)
  have k4_5 := bel_keeps hb4 (b := w.heap.size + 1) (o := 3) (v := .int .i64 b) (by first | (go_simp; done) | assumption)
  have k4_6 := bel_keeps hb4 (b := w.heap.size + 1) (o := 4) (v := .int .i64 c) (by first | (go_simp; done) | assumption)
  have k4_7 := bel_keeps hb4 (b := w.heap.size + 1) (o := 5) (v := .int .i64 n) (by first | (go_simp; done) | assumption)
  have k4_8 := bel_keeps hb4 (b := w.heap.size + 1 + 1) (o := 0) (v := .slice none 0 0) (by first | (go_simp; done) | assumption)
  have k4_9 := bel_keeps hb4 (b := w.heap.size + 1 + 1) (o := 1) (v := .slice none 0 0) (by first | (go_simp; done) | assumption)
  have k4_10 := bel_keeps hb4 (b := w1.heap.size) (o := 0) (v := .slice (some ⟨g1, 0, none⟩) rs.length d1) (by first | (go_simp; done) | assumption)
  have k4_11 := bel_keeps hb4 (b := w1.heap.size) (o := 1) (v := .slice (some ⟨g2, 0, none⟩) os.length d2) (by first | (go_simp; done) | assumption)
  have f4_0 := bel_free hb4 (b := w.heap.size + 1 + 1) (o := 0) (by first | omega | (simp; done) | (simp; omega)) (by first | (go_simp; done) | assumption)
  have f4_1 := bel_free hb4 (b := w.heap.size + 1 + 1) (o := 1) (by first | omega | (simp; done) | (simp; omega)) (by first | (go_simp; done) | assumption)
  have f4_2 := bel_free hb4 (b := w1.heap.size) (o := 0) (by first | omega | (simp; done) | (simp; omega)) (by first | (go_simp; done) | assumption)
  have f4_3 := bel_free hb4 (b := w1.heap.size) (o := 1) (by first | omega | (simp; done) | (simp; omega)) (by first | (go_simp; done) | assumption)
  clear k3_0 k3_1 k3_2 k3_3 k3_4 k3_5 k3_6 k3_7 k3_8 k3_9 k3_10 k3_11 f3_0 f3_1 f3_2 f3_3
  rw [HS.out]
  go_wp2_with fail
  refine (sInputsOk_any rr _ _ _ hMr hml (HRI.out.below (by (repeat (first | with_reducible exact Below.refl _ _ | (with_reducible refine bel_next ?_ ?_ (by assumption)) | (with_reducible refine Below.alloc ?_ ?_ _) | (with_reducible refine Below.drew ?_) | (with_reducible refine below_drewN ?_ _) | (with_reducible refine Below.setCell ?_ ?_ _))) <;> (first | omega | (simp; done) | (simp; omega))))).mono ?_
  rintro e _ ⟨rfl, rfl⟩
  rw [HIN.out]
  obtain ⟨bba, ooa, haaa, hcca⟩ := (show RdC w4 a1 (I64 rs) from HR1.out.below (by (repeat (first | with_reducible exact Below.refl _ _ | (with_reducible refine bel_next ?_ ?_ (by assumption)) | (with_reducible refine Below.alloc ?_ ?_ _) | (with_reducible refine Below.drew ?_) | (with_reducible refine below_drewN ?_ _) | (with_reducible refine Below.setCell ?_ ?_ _))) <;> (first | omega | (simp; done) | (simp; omega)))).at a.toNat (by have := H8.out; omega)
  have cca := hcca a.toNat (by have := H8.out; omega)
  rw [← HQa.out] at cca
  have lta := lt_of_cell cca
  subst haaa
  clear hcca
  obtain ⟨bbb, oob, haab, hccb⟩ := (show RdC w4 (some ⟨bba, ooa, none⟩) (I64 rs) from HR1.out.below (by (repeat (first | with_reducible exact Below.refl _ _ | (with_reducible refine bel_next ?_ ?_ (by assumption)) | (with_reducible refine Below.alloc ?_ ?_ _) | (with_reducible refine Below.drew ?_) | (with_reducible refine below_drewN ?_ _) | (with_reducible refine Below.setCell ?_ ?_ _))) <;> (first | omega | (simp; done) | (simp; omega)))).at b.toNat (by have := H8.out; omega)
  simp only [Option.some.injEq, Addr.mk.injEq, and_true] at haab
  obtain ⟨rfl, rfl⟩ := haab
  have ccb := hccb b.toNat (by have := H8.out; omega)
  rw [← HQb.out] at ccb
  clear hccb
  obtain ⟨bbc, ooc, haac, hccc⟩ := (show RdC w4 (some ⟨bba, ooa, none⟩) (I64 rs) from HR1.out.below (by (repeat (first | with_reducible exact Below.refl _ _ | (with_reducible refine bel_next ?_ ?_ (by assumption)) | (with_reducible refine Below.alloc ?_ ?_ _) | (with_reducible refine Below.drew ?_) | (with_reducible refine below_drewN ?_ _) | (with_reducible refine Below.setCell ?_ ?_ _))) <;> (first | omega | (simp; done) | (simp; omega)))).at c.toNat (by have := H8.out; omega)
  simp only [Option.some.injEq, Addr.mk.injEq, and_true] at haac
  obtain ⟨rfl, rfl⟩ := haac
  have ccc := hccc c.toNat (by have := H8.out; omega)
  rw [← HQc.out] at ccc
  clear hccc
  have hab : bba < w.heap.size := by rcases HR1.out with h | ⟨b, o, h, hc⟩ <;> first | (have hz : rs.length = 0 := (by simpa using congrArg List.length h); have := H8.out; omega) | (simp only [Option.some.injEq, Addr.mk.injEq, and_true] at h; obtain ⟨rfl, rfl⟩ := h; exact lt_of_cell (hc 0 (by have := H8.out; simp; omega)))
  obtain ⟨ca, fa⟩ := (show Own w4 _ _ _ _ _ _ _ from hO1.out.later (by (repeat (first | with_reducible exact Kp.refl _ _ | (with_reducible refine Kp.rng ?_ (by assumption) ?_) | (with_reducible refine Kp.below ?_ (by assumption)) | (with_reducible refine Kp.grown ?_ (by assumption) ?_) | (with_reducible refine Kp.alloc ?_ _) | (with_reducible refine Kp.drew ?_) | (with_reducible refine Kp.drewN ?_ _) | (with_reducible refine Kp.setCell ?_ _ ?_))) <;> (first | omega | (simp; done) | (simp; omega)))).get dst.toNat (by simp; exact hdt)
  generalize (I64 rs)[dst.toNat]'_ = u at ca
  have nq0 : w.heap.size ≠ g1 := (by omega)
  have np0 : g1 ≠ w.heap.size := (by omega)
  have nq1 : w.heap.size + 1 ≠ g1 := (by omega)
  have np1 : g1 ≠ w.heap.size + 1 := (by omega)
  have nq2 : w.heap.size + 1 + 1 ≠ g1 := (by omega)
  have np2 : g1 ≠ w.heap.size + 1 + 1 := (by omega)
  have nq3 : w1.heap.size ≠ g1 := (by omega)
  have np3 : g1 ≠ w1.heap.size := (by omega)
  have nq4 : bba ≠ g1 := (by omega)
  have np4 : g1 ≠ bba := (by omega)
  go_wp2_with fail
  go_still_tail 11, (by kernel_rfl)
  change wpList _ _ _ _ _ (World.drew _)
  go_wp2_with fail
  obtain ⟨w5, hw5⟩ : ∃ W, W = (World.setCell w4 ⟨g1, dst.toNat, none⟩ (.int .i64 xc)).drew := ⟨_, rfl⟩
  rw [← hw5]
  have hr5 : Rng g1 (g1 + 1) w4 w5 := by rw [hw5]; intro q hq; exact (by (repeat (first | with_reducible exact Kp.refl _ _ | (with_reducible refine Kp.rng ?_ (by assumption) ?_) | (with_reducible refine Kp.below ?_ (by assumption)) | (with_reducible refine Kp.grown ?_ (by assumption) ?_) | (with_reducible refine Kp.alloc ?_ _) | (with_reducible refine Kp.drew ?_) | (with_reducible refine Kp.drewN ?_ _) | (with_reducible refine Kp.setCell ?_ _ ?_))) <;> (first | omega | (simp; done) | (simp; omega)))
  have hb5 : Below w.heap.size w w5 := by rw [hw5]; exact (by (repeat (first | with_reducible exact Below.refl _ _ | (with_reducible refine bel_next ?_ ?_ (by assumption)) | (with_reducible refine Below.alloc ?_ ?_ _) | (with_reducible refine Below.drew ?_) | (with_reducible refine below_drewN ?_ _) | (with_reducible refine Below.setCell ?_ ?_ _))) <;> (first | omega | (simp; done) | (simp; omega)))
  have zz5 : w4.heap.size ≤ w5.heap.size := by rw [hw5]; simp [World.setCell, World.drew]
  have o15 : Own w5 w0.heap.size 3 1 (some ⟨g1, 0, none⟩) rs.length d1 ((I64 rs).set dst.toNat (.int .i64 xc)) := by rw [hw5]; exact ((show Own w4 _ _ _ _ _ _ _ from hO1.out.later (by (repeat (first | with_reducible exact Kp.refl _ _ | (with_reducible refine Kp.rng ?_ (by assumption) ?_) | (with_reducible refine Kp.below ?_ (by assumption)) | (with_reducible refine Kp.grown ?_ (by assumption) ?_) | (with_reducible refine Kp.alloc ?_ _) | (with_reducible refine Kp.drew ?_) | (with_reducible refine Kp.drewN ?_ _) | (with_reducible refine Kp.setCell ?_ _ ?_))) <;> (first | omega | (simp; done) | (simp; omega)))).put dst.toNat (.int .i64 xc)).drew
  have ca5 : w5.cell? ⟨g1, dst.toNat, none⟩ = some (.int .i64 xc) := by rw [hw5]; go_simp
  have fa5 : w5.frozen? ⟨g1, dst.toNat, none⟩ = false := by rw [hw5]; go_simp
  have z5 := hb5.size
  (try simp at z5)
  have y5_0 : w.heap.size < w5.heap.size := (by omega)
  have y5_1 : w.heap.size + 1 < w5.heap.size := (by omega)
  have y5_2 : w.heap.size + 1 + 1 < w5.heap.size := (by omega)
  have y5_3 : w1.heap.size < w5.heap.size := (by omega)
  have y5_4 : bba < w5.heap.size := (by omega)
  have k5_0 : w5.cell? ⟨w.heap.size, 0, none⟩ = some (.slice (some ⟨bba, ooa, none⟩) rs.length c1) := hr5.keeps (by omega) (by first | (go_simp; done) | assumption)
  have k5_1 : w5.cell? ⟨w.heap.size, 1, none⟩ = some (.slice a2 os.length c2) := hr5.keeps (by omega) (by first | (go_simp; done) | assumption)
  have k5_2 : w5.cell? ⟨w.heap.size + 1, 0, none⟩ = some (.int .i64 10) := hr5.keeps (by omega) (by first | (go_simp; done) | assumption)
  have k5_3 : w5.cell? ⟨w.heap.size + 1, 1, none⟩ = some (.int .i64 dst) := hr5.keeps (by omega) (by first | (go_simp; done) | assumption)
  have k5_4 : w5.cell? ⟨w.heap.size + 1, 2, none⟩ = some (.int .i64 a) := hr5.keeps (by omega) (by first | (go_simp; done) | assumption)
  have k5_5 : w5.cell? ⟨w.heap.size + 1, 3, none⟩ = some (.int .i64 b) := hr5.keeps (by omega) (by first | (go_simp; done) | assumption)
  have k5_6 : w5.cell? ⟨w.heap.size + 1, 4, none⟩ = some (.int .i64 c) := hr5.keeps (by omega) (by first | (go_simp; done) | assumption)
  have k5_7 : w5.cell? ⟨w.heap.size + 1, 5, none⟩ = some (.int .i64 n) := hr5.keeps (by omega) (by first | (go_simp; done) | assumption)
  have k5_8 : w5.cell? ⟨w.heap.size + 1 + 1, 0, none⟩ = some (.slice none 0 0) := hr5.keeps (by omega) (by first | (go_simp; done) | assumption)
  have k5_9 : w5.cell? ⟨w.heap.size + 1 + 1, 1, none⟩ = some (.slice none 0 0) := hr5.keeps (by omega) (by first | (go_simp; done) | assumption)
  have k5_10 : w5.cell? ⟨w1.heap.size, 0, none⟩ = some (.slice (some ⟨g1, 0, none⟩) rs.length d1) := hr5.keeps (by omega) (by first | (go_simp; done) | assumption)
  have k5_11 : w5.cell? ⟨w1.heap.size, 1, none⟩ = some (.slice (some ⟨g2, 0, none⟩) os.length d2) := hr5.keeps (by omega) (by first | (go_simp; done) | assumption)
  have k5_12 : w5.cell? ⟨bba, ooa + b.toNat, none⟩ = some (.int .i64 xb) := hr5.keeps (by omega) (by first | (go_simp; done) | assumption)
  have f5_0 : w5.frozen? ⟨w.heap.size + 1 + 1, 0, none⟩ = false := hr5.free (by omega) (by omega) (by first | (go_simp; done) | assumption)
  have f5_1 : w5.frozen? ⟨w.heap.size + 1 + 1, 1, none⟩ = false := hr5.free (by omega) (by omega) (by first | (go_simp; done) | assumption)
  have f5_2 : w5.frozen? ⟨w1.heap.size, 0, none⟩ = false := hr5.free (by omega) (by omega) (by first | (go_simp; done) | assumption)
  have f5_3 : w5.frozen? ⟨w1.heap.size, 1, none⟩ = false := hr5.free (by omega) (by omega) (by first | (go_simp; done) | assumption)
  clear k4_0 k4_1 k4_2 k4_3 k4_4 k4_5 k4_6 k4_7 k4_8 k4_9 k4_10 k4_11 ccb f4_0 f4_1 f4_2 f4_3
  clear hw5
  go_still_tail 11, (by kernel_rfl)
  change wpList _ _ _ _ _ (World.drew _)
  go_wp2_with fail
  refine (l12Copy_n (rs.set dst.toNat xb) os rs.length os.length _ _ _ _ _ (by simp) rfl (by omega) (by omega) (by have o := (o15.put dst.toNat (.int .i64 xb)).rd; rw [List.set_set, I64_set] at o; exact o) (hO2.out.later (by (repeat (first | with_reducible exact Kp.refl _ _ | (with_reducible refine Kp.rng ?_ (by assumption) ?_) | (with_reducible refine Kp.below ?_ (by assumption)) | (with_reducible refine Kp.grown ?_ (by assumption) ?_) | (with_reducible refine Kp.alloc ?_ _) | (with_reducible refine Kp.drew ?_) | (with_reducible refine Kp.drewN ?_ _) | (with_reducible refine Kp.setCell ?_ _ ?_))) <;> (first | omega | (simp; done) | (simp; omega)))).rd (by intro h; cases h) (by intro h; cases h)).mono ?_
  rintro e w6' ⟨g5, d5, g6, d6, rfl, ho5, ho6, hne5, hb6'⟩
  have z6' := hb6'.size
  (try simp at z6')
  have e6_0 := bel_keeps hb6' (b := w.heap.size + 1 + 1) (o := 0) (v := .slice none 0 0) (by first | (go_simp; done) | assumption)
  have e7_0 := bel_free hb6' (b := w.heap.size + 1 + 1) (o := 0) (by first | omega | (simp; done) | (simp; omega)) (by first | (go_simp; done) | assumption)
  have e6_1 := bel_keeps hb6' (b := w.heap.size + 1 + 1) (o := 1) (v := .slice none 0 0) (by first | (go_simp; done) | assumption)
  have e7_1 := bel_free hb6' (b := w.heap.size + 1 + 1) (o := 1) (by first | omega | (simp; done) | (simp; omega)) (by first | (go_simp; done) | assumption)
  have l5 := ho5.ge
  have l6 := ho6.ge
  (try simp at l5)
  (try simp at l6)
  have HO5 := Lib.hid ho5
  have HO6 := Lib.hid ho6
  clear ho5 ho6
  go_wp2_with fail
  refine bodyPost_ret (v := .agg #[.slice (some ⟨g5, 0, none⟩) (rs.length) d5, .slice (some ⟨g6, 0, none⟩) (os.length) d6]) (by simp [results, Try.results85, go_sem, e6_0, e6_1, e7_0, e7_1]) rfl ⟨g5, d5, g6, d6, by simp, ?_, ?_, hne5, ?_⟩
  · simpa using (HO5.out.lo (lo' := w.heap.size) (by first | omega | (simp; done) | (simp; omega))).later (by (repeat (first | with_reducible exact Kp.refl _ _ | (with_reducible refine Kp.rng ?_ (by assumption) ?_) | (with_reducible refine Kp.below ?_ (by assumption)) | (with_reducible refine Kp.grown ?_ (by assumption) ?_) | (with_reducible refine Kp.alloc ?_ _) | (with_reducible refine Kp.drew ?_) | (with_reducible refine Kp.drewN ?_ _) | (with_reducible refine Kp.setCell ?_ _ ?_))) <;> (first | omega | (simp; done) | (simp; omega)))
  · simpa using (HO6.out.lo (lo' := w.heap.size) (by first | omega | (simp; done) | (simp; omega))).later (by (repeat (first | with_reducible exact Kp.refl _ _ | (with_reducible refine Kp.rng ?_ (by assumption) ?_) | (with_reducible refine Kp.below ?_ (by assumption)) | (with_reducible refine Kp.grown ?_ (by assumption) ?_) | (with_reducible refine Kp.alloc ?_ _) | (with_reducible refine Kp.drew ?_) | (with_reducible refine Kp.drewN ?_ _) | (with_reducible refine Kp.setCell ?_ _ ?_))) <;> (first | omega | (simp; done) | (simp; omega)))
  · exact (by (repeat (first | with_reducible exact Below.refl _ _ | (with_reducible refine bel_next ?_ ?_ (by assumption)) | (with_reducible refine Below.alloc ?_ ?_ _) | (with_reducible refine Below.drew ?_) | (with_reducible refine below_drewN ?_ _) | (with_reducible refine Below.setCell ?_ ?_ _))) <;> (first | omega | (simp; done) | (simp; omega)))
set_option maxRecDepth 20000 in
set_option maxHeartbeats 8000000 in
theorem sStep_def (rs os : List Int) (a1 a2 : Option Addr) (c1 c2 : Nat) (op dst a b c n : Int) (rr : List Rw) (ai : Option Addr) (ci : Nat) (w : World) (hm1 : rs.length ≤ 1048576) (hm2 : os.length ≤ 1048576) (hr1 : RdC w a1 (I64 rs)) (hr2 : RdC w a2 (I64 os)) (hmr : rr.length ≤ 1048576) (hml : rowsLe rr) (hri : RdR w ai rr) (h1 : stateOk rs os = true) (h2 : plainB ⟨op, dst, a, b, c, n⟩ = true) (h3 : inputsOk (rr.map Rw.xs) = true) (p1 : ¬ op = 1) (p2 : ¬ op = 2) (p10 : ¬ op = 10) (p11 : ¬ op = 11) :
    Calls Try.prog 85 #[.agg #[.slice a1 rs.length c1, .slice a2 os.length c2], stV ⟨op, dst, a, b, c, n⟩, .slice ai rr.length ci] w fun e w' => ∃ g1 d1 g2 d2, e = .returned (.agg #[.slice (some ⟨g1, 0, none⟩) (stepRegs rs os ⟨op, dst, a, b, c, n⟩ (rr.map Rw.xs)).length d1, .slice (some ⟨g2, 0, none⟩) (stepOuts rs os ⟨op, dst, a, b, c, n⟩ (rr.map Rw.xs)).length d2]) ∧
      Own w' w.heap.size 3 1 (some ⟨g1, 0, none⟩) (stepRegs rs os ⟨op, dst, a, b, c, n⟩ (rr.map Rw.xs)).length d1 (I64 (stepRegs rs os ⟨op, dst, a, b, c, n⟩ (rr.map Rw.xs))) ∧ Own w' w.heap.size 3 1 (some ⟨g2, 0, none⟩) (stepOuts rs os ⟨op, dst, a, b, c, n⟩ (rr.map Rw.xs)).length d2 (I64 (stepOuts rs os ⟨op, dst, a, b, c, n⟩ (rr.map Rw.xs))) ∧ g1 ≠ g2 ∧ Below w.heap.size w w' := by
  have hM1 : rs.length ≤ maxLen := by unfold maxLen; omega
  have hM2 : os.length ≤ maxLen := by unfold maxLen; omega
  have hMr : rr.length ≤ maxLen := by unfold maxLen; omega
  have HN1 := Lib.hid (rd_none hr1)
  have HN2 := Lib.hid (rd_none hr2)
  have HR1 := Lib.hid hr1
  have HR2 := Lib.hid hr2
  have HRI := Lib.hid hri
  clear hr1 hr2 hri
  have hB : stepB ⟨op, dst, a, b, c, n⟩ rs os (rr.map Rw.xs) = true := by simp [stepB, h1, h2, h3]
  have hst : stOk ⟨op, dst, a, b, c, n⟩ = true := by have h := h2; simp [plainB] at h; first | exact h | exact h.1
  have hop : op ≤ 11 := by have h := h2; simp [plainB] at h; exact h.2
  have hh := stok_regs hst
  simp only at hh
  obtain ⟨o1, o13, r0, r1, r2, r3, r4, r5, r6, r7⟩ := hh
  have h8 := stateOk_len h1
  have h5 := inputs_len h3
  obtain ⟨v, hv⟩ : ∃ v, v = stepVal ⟨op, dst, a, b, c, n⟩ rs (rr.map Rw.xs) := ⟨_, rfl⟩
  have e1 : (stepRegs rs os ⟨op, dst, a, b, c, n⟩ (rr.map Rw.xs)) = rs.set dst.toNat v := by simp [stepRegs, hB, hv, p11]
  have e2 : (stepOuts rs os ⟨op, dst, a, b, c, n⟩ (rr.map Rw.xs)) = os := by simp [stepOuts, p11]
  have hv2 : v = operateF op (rgd rs a) (rgd rs b) := by rw [hv]; simp [stepVal, p1, p2, p10, p11]
  clear hv
  rw [e1, e2]
  clear hB e1 e2
  have H8 := Lib.hid h8
  have H5 := Lib.hid h5
  have HST := Lib.hid h1
  have HS := Lib.hid hst
  have HIN := Lib.hid h3
  have q1 : (op == 1) = false := by simp [p1]
  have q2 : (op == 2) = false := by simp [p2]
  have q10 : (op == 10) = false := by simp [p10]
  have q11 : (op == 11) = false := by simp [p11]
  clear p1 p2 p10 p11
  clear h1 h2 h3 hst h8 h5
  have hta : a.toNat < rs.length := by have := H8.out; omega
  have hxa : rgd rs a = rs[a.toNat] := rgd_at hta
  obtain ⟨xa, hqa⟩ : ∃ x, x = rs[a.toNat] := ⟨_, rfl⟩
  rw [← hqa] at hxa
  have hia : a < (rs.length : Int) := by have := H8.out; omega
  have htb : b.toNat < rs.length := by have := H8.out; omega
  have hxb : rgd rs b = rs[b.toNat] := rgd_at htb
  obtain ⟨xb, hqb⟩ : ∃ x, x = rs[b.toNat] := ⟨_, rfl⟩
  rw [← hqb] at hxb
  have hib : b < (rs.length : Int) := by have := H8.out; omega
  rw [hxa, hxb] at hv2
  clear hxa hxb
  have hdt : dst.toNat < rs.length := by have := H8.out; omega
  have hd8 : dst < (rs.length : Int) := by have := H8.out; omega
  have HQa := Lib.hid hqa
  clear hqa
  have HQb := Lib.hid hqb
  clear hqb
  have HV2 := Lib.hid hv2
  clear hv2
  unfold stV
  go_enter Try.func85, Try.ntmps85
  go_wp2_with fail
  obtain ⟨w0, hw0⟩ : ∃ W, W = ((w.alloc (.cells #[.slice a1 rs.length c1, .slice a2 os.length c2] 102)).alloc (.cells #[.int .i64 op, .int .i64 dst, .int .i64 a, .int .i64 b, .int .i64 c, .int .i64 n] 90)).alloc (.cells #[.slice none 0 0, .slice none 0 0] 102) := ⟨_, rfl⟩
  rw [← hw0]
  have hb0 : Below w.heap.size w w0 := by rw [hw0]; exact (by (repeat (first | with_reducible exact Below.refl _ _ | (with_reducible refine bel_next ?_ ?_ (by assumption)) | (with_reducible refine Below.alloc ?_ ?_ _) | (with_reducible refine Below.drew ?_) | (with_reducible refine below_drewN ?_ _) | (with_reducible refine Below.setCell ?_ ?_ _))) <;> (first | omega | (simp; done) | (simp; omega)))
  have z0 : w.heap.size + 1 + 1 < w0.heap.size := by rw [hw0]; simp
  have k0_0 : w0.cell? ⟨w.heap.size, 0, none⟩ = some (.slice a1 rs.length c1) := by rw [hw0]; go_simp
  have k0_1 : w0.cell? ⟨w.heap.size, 1, none⟩ = some (.slice a2 os.length c2) := by rw [hw0]; go_simp
  have k0_2 : w0.cell? ⟨w.heap.size + 1, 0, none⟩ = some (.int .i64 op) := by rw [hw0]; go_simp
  have k0_3 : w0.cell? ⟨w.heap.size + 1, 1, none⟩ = some (.int .i64 dst) := by rw [hw0]; go_simp
  have k0_4 : w0.cell? ⟨w.heap.size + 1, 2, none⟩ = some (.int .i64 a) := by rw [hw0]; go_simp
  have k0_5 : w0.cell? ⟨w.heap.size + 1, 3, none⟩ = some (.int .i64 b) := by rw [hw0]; go_simp
  have k0_6 : w0.cell? ⟨w.heap.size + 1, 4, none⟩ = some (.int .i64 c) := by rw [hw0]; go_simp
  have k0_7 : w0.cell? ⟨w.heap.size + 1, 5, none⟩ = some (.int .i64 n) := by rw [hw0]; go_simp
  have k0_8 : w0.cell? ⟨w.heap.size + 1 + 1, 0, none⟩ = some (.slice none 0 0) := by rw [hw0]; go_simp
  have k0_9 : w0.cell? ⟨w.heap.size + 1 + 1, 1, none⟩ = some (.slice none 0 0) := by rw [hw0]; go_simp
  have f0_0 : w0.frozen? ⟨w.heap.size + 1 + 1, 0, none⟩ = false := by rw [hw0]; go_simp
  have f0_1 : w0.frozen? ⟨w.heap.size + 1 + 1, 1, none⟩ = false := by rw [hw0]; go_simp
  clear hw0
  refine (l12Copy_any rs os a1 a2 c1 c2 _ (by omega) (by omega) (HR1.out.below (by (repeat (first | with_reducible exact Below.refl _ _ | (with_reducible refine bel_next ?_ ?_ (by assumption)) | (with_reducible refine Below.alloc ?_ ?_ _) | (with_reducible refine Below.drew ?_) | (with_reducible refine below_drewN ?_ _) | (with_reducible refine Below.setCell ?_ ?_ _))) <;> (first | omega | (simp; done) | (simp; omega)))) (HR2.out.below (by (repeat (first | with_reducible exact Below.refl _ _ | (with_reducible refine bel_next ?_ ?_ (by assumption)) | (with_reducible refine Below.alloc ?_ ?_ _) | (with_reducible refine Below.drew ?_) | (with_reducible refine below_drewN ?_ _) | (with_reducible refine Below.setCell ?_ ?_ _))) <;> (first | omega | (simp; done) | (simp; omega)))) HN1.out HN2.out).mono ?_
  rintro e w1 ⟨g1, d1, g2, d2, rfl, ho1, ho2, hne, hb1⟩
  have z1 := hb1.size
  (try simp at z1)
  have y1_0 : w.heap.size < w1.heap.size := (by omega)
  have y1_1 : w.heap.size + 1 < w1.heap.size := (by omega)
  have y1_2 : w.heap.size + 1 + 1 < w1.heap.size := (by omega)
  have k1_0 := bel_keeps hb1 (b := w.heap.size) (o := 0) (v := .slice a1 rs.length c1) (by first | (go_simp; done) | assumption)
  have k1_1 := bel_keeps hb1 (b := w.heap.size) (o := 1) (v := .slice a2 os.length c2) (by first | (go_simp; done) | assumption)
  have k1_2 := bel_keeps hb1 (b := w.heap.size + 1) (o := 0) (v := .int .i64 op) (by first | (go_simp; done) | assumption)
  have k1_3 := bel_keeps hb1 (b := w.heap.size + 1) (o := 1) (v := .int .i64 dst) (by first | (go_simp; done) | assumption)
  have k1_4 := bel_keeps hb1 (b := w.heap.size + 1) (o := 2) (v := .int .i64 a) (by first | (go_simp; done) | assumption)
  have k1_5 := bel_keeps hb1 (b := w.heap.size + 1) (o := 3) (v := .int .i64 b) (by first | (go_simp; done) | assumption)
  have k1_6 := bel_keeps hb1 (b := w.heap.size + 1) (o := 4) (v := .int .i64 c) (by first | (go_simp; done) | assumption)
  have k1_7 := bel_keeps hb1 (b := w.heap.size + 1) (o := 5) (v := .int .i64 n) (by first | (go_simp; done) | assumption)
  have k1_8 := bel_keeps hb1 (b := w.heap.size + 1 + 1) (o := 0) (v := .slice none 0 0) (by first | (go_simp; done) | assumption)
  have k1_9 := bel_keeps hb1 (b := w.heap.size + 1 + 1) (o := 1) (v := .slice none 0 0) (by first | (go_simp; done) | assumption)
  have f1_0 := bel_free hb1 (b := w.heap.size + 1 + 1) (o := 0) (by first | omega | (simp; done) | (simp; omega)) (by first | (go_simp; done) | assumption)
  have f1_1 := bel_free hb1 (b := w.heap.size + 1 + 1) (o := 1) (by first | omega | (simp; done) | (simp; omega)) (by first | (go_simp; done) | assumption)
  clear k0_0 k0_1 k0_2 k0_3 k0_4 k0_5 k0_6 k0_7 k0_8 k0_9 f0_0 f0_1
  have lg1 := ho1.ge
  have lg2 := ho2.ge
  have hO1 := Lib.hid ho1
  have hO2 := Lib.hid ho2
  clear ho1 ho2
  go_wp2_with fail
  obtain ⟨w2, hw2⟩ : ∃ W, W = w1.alloc (.cells #[.slice (some ⟨g1, 0, none⟩) rs.length d1, .slice (some ⟨g2, 0, none⟩) os.length d2] 102) := ⟨_, rfl⟩
  rw [← hw2]
  have hb2 : Below w1.heap.size w1 w2 := by rw [hw2]; exact (Below.refl _ _).alloc (Nat.le_refl _) _
  have x2 : w1.heap.size < w2.heap.size := by rw [hw2]; simp
  have z2 := hb2.size
  (try simp at z2)
  have y2_0 : w.heap.size < w2.heap.size := (by omega)
  have y2_1 : w.heap.size + 1 < w2.heap.size := (by omega)
  have y2_2 : w.heap.size + 1 + 1 < w2.heap.size := (by omega)
  have k2_0 := bel_keeps hb2 (b := w.heap.size) (o := 0) (v := .slice a1 rs.length c1) (by first | (go_simp; done) | assumption)
  have k2_1 := bel_keeps hb2 (b := w.heap.size) (o := 1) (v := .slice a2 os.length c2) (by first | (go_simp; done) | assumption)
  have k2_2 := bel_keeps hb2 (b := w.heap.size + 1) (o := 0) (v := .int .i64 op) (by first | (go_simp; done) | assumption)
  have k2_3 := bel_keeps hb2 (b := w.heap.size + 1) (o := 1) (v := .int .i64 dst) (by first | (go_simp; done) | assumption)
  have k2_4 := bel_keeps hb2 (b := w.heap.size + 1) (o := 2) (v := .int .i64 a) (by first | (go_simp; done) | assumption)
  have k2_5 := bel_keeps hb2 (b := w.heap.size + 1) (o := 3) (v := .int .i64 b) (by first | (go_simp; done) | assumption)
  have k2_6 := bel_keeps hb2 (b := w.heap.size + 1) (o := 4) (v := .int .i64 c) (by first | (go_simp; done) | assumption)
  have k2_7 := bel_keeps hb2 (b := w.heap.size + 1) (o := 5) (v := .int .i64 n) (by first | (go_simp; done) | assumption)
  have k2_8 := bel_keeps hb2 (b := w.heap.size + 1 + 1) (o := 0) (v := .slice none 0 0) (by first | (go_simp; done) | assumption)
  have k2_9 := bel_keeps hb2 (b := w.heap.size + 1 + 1) (o := 1) (v := .slice none 0 0) (by first | (go_simp; done) | assumption)
  have f2_0 := bel_free hb2 (b := w.heap.size + 1 + 1) (o := 0) (by first | omega | (simp; done) | (simp; omega)) (by first | (go_simp; done) | assumption)
  have f2_1 := bel_free hb2 (b := w.heap.size + 1 + 1) (o := 1) (by first | omega | (simp; done) | (simp; omega)) (by first | (go_simp; done) | assumption)
  clear k1_0 k1_1 k1_2 k1_3 k1_4 k1_5 k1_6 k1_7 k1_8 k1_9 f1_0 f1_1
  have kb2_0 : w2.cell? ⟨w1.heap.size, 0, none⟩ = some (.slice (some ⟨g1, 0, none⟩) rs.length d1) := by rw [hw2]; go_simp
  have kb2_1 : w2.cell? ⟨w1.heap.size, 1, none⟩ = some (.slice (some ⟨g2, 0, none⟩) os.length d2) := by rw [hw2]; go_simp
  have kf2_0 : w2.frozen? ⟨w1.heap.size, 0, none⟩ = false := by rw [hw2]; go_simp
  have kf2_1 : w2.frozen? ⟨w1.heap.size, 1, none⟩ = false := by rw [hw2]; go_simp
  clear hw2
  go_wp2_with fail
  refine (sStateOk_any rs os _ _ _ _ _ hM1 hM2 (HR1.out.below (by (repeat (first | with_reducible exact Below.refl _ _ | (with_reducible refine bel_next ?_ ?_ (by assumption)) | (with_reducible refine Below.alloc ?_ ?_ _) | (with_reducible refine Below.drew ?_) | (with_reducible refine below_drewN ?_ _) | (with_reducible refine Below.setCell ?_ ?_ _))) <;> (first | omega | (simp; done) | (simp; omega)))) (HR2.out.below (by (repeat (first | with_reducible exact Below.refl _ _ | (with_reducible refine bel_next ?_ ?_ (by assumption)) | (with_reducible refine Below.alloc ?_ ?_ _) | (with_reducible refine Below.drew ?_) | (with_reducible refine below_drewN ?_ _) | (with_reducible refine Below.setCell ?_ ?_ _))) <;> (first | omega | (simp; done) | (simp; omega))))).mono ?_
  rintro e w3 ⟨rfl, hb3⟩
  have z3 := hb3.size
  (try simp at z3)
  have y3_0 : w.heap.size < w3.heap.size := (by omega)
  have y3_1 : w.heap.size + 1 < w3.heap.size := (by omega)
  have y3_2 : w.heap.size + 1 + 1 < w3.heap.size := (by omega)
  have y3_3 : w1.heap.size < w3.heap.size := (by omega)
  have k3_0 := bel_keeps hb3 (b := w.heap.size) (o := 0) (v := .slice a1 rs.length c1) (by first | (go_simp; done) | assumption)
  have k3_1 := bel_keeps hb3 (b := w.heap.size) (o := 1) (v := .slice a2 os.length c2) (by first | (go_simp; done) | assumption)
  have k3_2 := bel_keeps hb3 (b := w.heap.size + 1) (o := 0) (v := .int .i64 op) (by first | (go_simp; done) | assumption)
  have k3_3 := bel_keeps hb3 (b := w.heap.size + 1) (o := 1) (v := .int .i64 dst) (by first | (go_simp; done) | assumption)
  have k3_4 := bel_keeps hb3 (b := w.heap.size + 1) (o := 2) (v := .int .i64 a) (by first | (go_simp; done) | assumption)
  have k3_5 := bel_keeps hb3 (b := w.heap.size + 1) (o := 3) (v := .int .i64 b) (by first | (go_simp; done) | assumption)
  have k3_6 := bel_keeps hb3 (b := w.heap.size + 1) (o := 4) (v := .int .i64 c) (by first | (go_simp; done) | assumption)
  have k3_7 := bel_keeps hb3 (b := w.heap.size + 1) (o := 5) (v := .int .i64 n) (by first | (go_simp; done) | assumption)
  have k3_8 := bel_keeps hb3 (b := w.heap.size + 1 + 1) (o := 0) (v := .slice none 0 0) (by first | (go_simp; done) | assumption)
  have k3_9 := bel_keeps hb3 (b := w.heap.size + 1 + 1) (o := 1) (v := .slice none 0 0) (by first | (go_simp; done) | assumption)
  have k3_10 := bel_keeps hb3 (b := w1.heap.size) (o := 0) (v := .slice (some ⟨g1, 0, none⟩) rs.length d1) (by first | (go_simp; done) | assumption)
  have k3_11 := bel_keeps hb3 (b := w1.heap.size) (o := 1) (v := .slice (some ⟨g2, 0, none⟩) os.length d2) (by first | (go_simp; done) | assumption)
  have f3_0 := bel_free hb3 (b := w.heap.size + 1 + 1) (o := 0) (by first | omega | (simp; done) | (simp; omega)) (by first | (go_simp; done) | assumption)
  have f3_1 := bel_free hb3 (b := w.heap.size + 1 + 1) (o := 1) (by first | omega | (simp; done) | (simp; omega)) (by first | (go_simp; done) | assumption)
  have f3_2 := bel_free hb3 (b := w1.heap.size) (o := 0) (by first | omega | (simp; done) | (simp; omega)) (by first | (go_simp; done) | assumption)
  have f3_3 := bel_free hb3 (b := w1.heap.size) (o := 1) (by first | omega | (simp; done) | (simp; omega)) (by first | (go_simp; done) | assumption)
  clear k2_0 k2_1 k2_2 k2_3 k2_4 k2_5 k2_6 k2_7 k2_8 k2_9 kb2_0 kb2_1 f2_0 f2_1 kf2_0 kf2_1
  rw [HST.out]
  go_wp2_with fail
  refine (sStmtOk_any ⟨op, dst, a, b, c, n⟩ _).mono ?_
  rintro e w4 ⟨rfl, hb4⟩
  have z4 := hb4.size
  (try simp at z4)
  have y4_0 : w.heap.size < w4.heap.size := (by omega)
  have y4_1 : w.heap.size + 1 < w4.heap.size := (by omega)
  have y4_2 : w.heap.size + 1 + 1 < w4.heap.size := (by omega)
  have y4_3 : w1.heap.size < w4.heap.size := (by omega)
  have k4_0 := bel_keeps hb4 (b := w.heap.size) (o := 0) (v := .slice a1 rs.length c1) (by first | (go_simp; done) | assumption)
  have k4_1 := bel_keeps hb4 (b := w.heap.size) (o := 1) (v := .slice a2 os.length c2) (by first | (go_simp; done) | assumption)
  have k4_2 := bel_keeps hb4 (b := w.heap.size + 1) (o := 0) (v := .int .i64 op) (by first | (go_simp; done) | assumption)
  have k4_3 := bel_keeps hb4 (b := w.heap.size + 1) (o := 1) (v := .int .i64 dst) (by first | (go_simp; done) | assumption)
  have k4_4 := bel_keeps hb4 (b := w.heap.size + 1) (o := 2) (v := .int .i64 a) (by first | (go_simp; done) | assumption)
  have k4_5 := bel_keeps hb4 (b := w.heap.size + 1) (o := 3) (v := .int .i64 b) (by first | (go_simp; done) | assumption)
  have k4_6 := bel_keeps hb4 (b := w.heap.size + 1) (o := 4) (v := .int .i64 c) (by first | (go_simp; done) | assumption)
  have k4_7 := bel_keeps hb4 (b := w.heap.size + 1) (o := 5) (v := .int .i64 n) (by first | (go_simp; done) | assumption)
  have k4_8 := bel_keeps hb4 (b := w.heap.size + 1 + 1) (o := 0) (v := .slice none 0 0) (by first | (go_simp; done) | assumption)
  have k4_9 := bel_keeps hb4 (b := w.heap.size + 1 + 1) (o := 1) (v := .slice none 0 0) (by first | (go_simp; done) | assumption)
  have k4_10 := bel_keeps hb4 (b := w1.heap.size) (o := 0) (v := .slice (some ⟨g1, 0, none⟩) rs.length d1) (by first | (go_simp; done) | assumption)
  have k4_11 := bel_keeps hb4 (b := w1.heap.size) (o := 1) (v := .slice (some ⟨g2, 0, none⟩) os.length d2) (by first | (go_simp; done) | assumption)
  have f4_0 := bel_free hb4 (b := w.heap.size + 1 + 1) (o := 0) (by first | omega | (simp; done) | (simp; omega)) (by first | (go_simp; done) | assumption)
  have f4_1 := bel_free hb4 (b := w.heap.size + 1 + 1) (o := 1) (by first | omega | (simp; done) | (simp; omega)) (by first | (go_simp; done) | assumption)
  have f4_2 := bel_free hb4 (b := w1.heap.size) (o := 0) (by first | omega | (simp; done) | (simp; omega)) (by first | (go_simp; done) | assumption)
  have f4_3 := bel_free hb4 (b := w1.heap.size) (o := 1) (by first | omega | (simp; done) | (simp; omega)) (by first | (go_simp; done) | assumption)
  clear k3_0 k3_1 k3_2 k3_3 k3_4 k3_5 k3_6 k3_7 k3_8 k3_9 k3_10 k3_11 f3_0 f3_1 f3_2 f3_3
  rw [HS.out]
  go_wp2_with fail
  refine (sInputsOk_any rr _ _ _ hMr hml (HRI.out.below (by (repeat (first | with_reducible exact Below.refl _ _ | (with_reducible refine bel_next ?_ ?_ (by assumption)) | (with_reducible refine Below.alloc ?_ ?_ _) | (with_reducible refine Below.drew ?_) | (with_reducible refine below_drewN ?_ _) | (with_reducible refine Below.setCell ?_ ?_ _))) <;> (first | omega | (simp; done) | (simp; omega))))).mono ?_
  rintro e _ ⟨rfl, rfl⟩
  rw [HIN.out]
  obtain ⟨bba, ooa, haaa, hcca⟩ := (show RdC w4 a1 (I64 rs) from HR1.out.below (by (repeat (first | with_reducible exact Below.refl _ _ | (with_reducible refine bel_next ?_ ?_ (by assumption)) | (with_reducible refine Below.alloc ?_ ?_ _) | (with_reducible refine Below.drew ?_) | (with_reducible refine below_drewN ?_ _) | (with_reducible refine Below.setCell ?_ ?_ _))) <;> (first | omega | (simp; done) | (simp; omega)))).at a.toNat (by have := H8.out; omega)
  have cca := hcca a.toNat (by have := H8.out; omega)
  rw [← HQa.out] at cca
  have lta := lt_of_cell cca
  subst haaa
  clear hcca
  obtain ⟨bbb, oob, haab, hccb⟩ := (show RdC w4 (some ⟨bba, ooa, none⟩) (I64 rs) from HR1.out.below (by (repeat (first | with_reducible exact Below.refl _ _ | (with_reducible refine bel_next ?_ ?_ (by assumption)) | (with_reducible refine Below.alloc ?_ ?_ _) | (with_reducible refine Below.drew ?_) | (with_reducible refine below_drewN ?_ _) | (with_reducible refine Below.setCell ?_ ?_ _))) <;> (first | omega | (simp; done) | (simp; omega)))).at b.toNat (by have := H8.out; omega)
  simp only [Option.some.injEq, Addr.mk.injEq, and_true] at haab
  obtain ⟨rfl, rfl⟩ := haab
  have ccb := hccb b.toNat (by have := H8.out; omega)
  rw [← HQb.out] at ccb
  clear hccb
  have hab : bba < w.heap.size := by rcases HR1.out with h | ⟨b, o, h, hc⟩ <;> first | (have hz : rs.length = 0 := (by simpa using congrArg List.length h); have := H8.out; omega) | (simp only [Option.some.injEq, Addr.mk.injEq, and_true] at h; obtain ⟨rfl, rfl⟩ := h; exact lt_of_cell (hc 0 (by have := H8.out; simp; omega)))
  obtain ⟨ca, fa⟩ := (show Own w4 _ _ _ _ _ _ _ from hO1.out.later (by (repeat (first | with_reducible exact Kp.refl _ _ | (with_reducible refine Kp.rng ?_ (by assumption) ?_) | (with_reducible refine Kp.below ?_ (by assumption)) | (with_reducible refine Kp.grown ?_ (by assumption) ?_) | (with_reducible refine Kp.alloc ?_ _) | (with_reducible refine Kp.drew ?_) | (with_reducible refine Kp.drewN ?_ _) | (with_reducible refine Kp.setCell ?_ _ ?_))) <;> (first | omega | (simp; done) | (simp; omega)))).get dst.toNat (by simp; exact hdt)
  generalize (I64 rs)[dst.toNat]'_ = u at ca
  have nq0 : w.heap.size ≠ g1 := (by omega)
  have np0 : g1 ≠ w.heap.size := (by omega)
  have nq1 : w.heap.size + 1 ≠ g1 := (by omega)
  have np1 : g1 ≠ w.heap.size + 1 := (by omega)
  have nq2 : w.heap.size + 1 + 1 ≠ g1 := (by omega)
  have np2 : g1 ≠ w.heap.size + 1 + 1 := (by omega)
  have nq3 : w1.heap.size ≠ g1 := (by omega)
  have np3 : g1 ≠ w1.heap.size := (by omega)
  have nq4 : bba ≠ g1 := (by omega)
  have np4 : g1 ≠ bba := (by omega)
  go_wp2_with fail
  go_region_held3 (fun w' => w'.cell? ⟨w.heap.size + 1, 0, none⟩ = some (.int .i64 op) ∧ w'.cell? ⟨w.heap.size + 1, 1, none⟩ = some (.int .i64 dst) ∧ w'.cell? ⟨w.heap.size + 1, 2, none⟩ = some (.int .i64 a) ∧ w'.cell? ⟨w.heap.size + 1, 3, none⟩ = some (.int .i64 b) ∧ w'.cell? ⟨w1.heap.size, 0, none⟩ = some (.slice (some ⟨g1, 0, none⟩) rs.length d1) ∧ w'.cell? ⟨w.heap.size, 0, none⟩ = some (.slice (some ⟨bba, ooa, none⟩) rs.length c1) ∧ w'.cell? ⟨bba, ooa + a.toNat, none⟩ = some (.int .i64 xa) ∧ w'.cell? ⟨bba, ooa + b.toNat, none⟩ = some (.int .i64 xb))
    (first | go_keep)
    (first | (go_at_call 113; refine (sOperate_any op xa xb _).mono ?_; rintro e _ ⟨rfl, rfl⟩; rw [← HV2.out]))
  go_wp2_with fail
  refine (l12Copy_n (rs.set dst.toNat v) os rs.length os.length _ _ _ _ _ (by simp) rfl (by omega) (by omega) (by rw [← I64_set]; exact (((show Own w4 _ _ _ _ _ _ _ from hO1.out.later (by (repeat (first | with_reducible exact Kp.refl _ _ | (with_reducible refine Kp.rng ?_ (by assumption) ?_) | (with_reducible refine Kp.below ?_ (by assumption)) | (with_reducible refine Kp.grown ?_ (by assumption) ?_) | (with_reducible refine Kp.alloc ?_ _) | (with_reducible refine Kp.drew ?_) | (with_reducible refine Kp.drewN ?_ _) | (with_reducible refine Kp.setCell ?_ _ ?_))) <;> (first | omega | (simp; done) | (simp; omega))))).put _ _).rd) (hO2.out.later (by (repeat (first | with_reducible exact Kp.refl _ _ | (with_reducible refine Kp.rng ?_ (by assumption) ?_) | (with_reducible refine Kp.below ?_ (by assumption)) | (with_reducible refine Kp.grown ?_ (by assumption) ?_) | (with_reducible refine Kp.alloc ?_ _) | (with_reducible refine Kp.drew ?_) | (with_reducible refine Kp.drewN ?_ _) | (with_reducible refine Kp.setCell ?_ _ ?_))) <;> (first | omega | (simp; done) | (simp; omega)))).rd (by intro h; cases h) (by intro h; cases h)).mono ?_
  rintro e w6' ⟨g5, d5, g6, d6, rfl, ho5, ho6, hne5, hb6'⟩
  have z6' := hb6'.size
  (try simp at z6')
  have e6_0 := bel_keeps hb6' (b := w.heap.size + 1 + 1) (o := 0) (v := .slice none 0 0) (by first | (go_simp; done) | assumption)
  have e7_0 := bel_free hb6' (b := w.heap.size + 1 + 1) (o := 0) (by first | omega | (simp; done) | (simp; omega)) (by first | (go_simp; done) | assumption)
  have e6_1 := bel_keeps hb6' (b := w.heap.size + 1 + 1) (o := 1) (v := .slice none 0 0) (by first | (go_simp; done) | assumption)
  have e7_1 := bel_free hb6' (b := w.heap.size + 1 + 1) (o := 1) (by first | omega | (simp; done) | (simp; omega)) (by first | (go_simp; done) | assumption)
  have l5 := ho5.ge
  have l6 := ho6.ge
  (try simp at l5)
  (try simp at l6)
  have HO5 := Lib.hid ho5
  have HO6 := Lib.hid ho6
  clear ho5 ho6
  go_wp2_with fail
  refine bodyPost_ret (v := .agg #[.slice (some ⟨g5, 0, none⟩) (rs.length) d5, .slice (some ⟨g6, 0, none⟩) (os.length) d6]) (by simp [results, Try.results85, go_sem, e6_0, e6_1, e7_0, e7_1]) rfl ⟨g5, d5, g6, d6, by simp, ?_, ?_, hne5, ?_⟩
  · simpa using (HO5.out.lo (lo' := w.heap.size) (by first | omega | (simp; done) | (simp; omega))).later (by (repeat (first | with_reducible exact Kp.refl _ _ | (with_reducible refine Kp.rng ?_ (by assumption) ?_) | (with_reducible refine Kp.below ?_ (by assumption)) | (with_reducible refine Kp.grown ?_ (by assumption) ?_) | (with_reducible refine Kp.alloc ?_ _) | (with_reducible refine Kp.drew ?_) | (with_reducible refine Kp.drewN ?_ _) | (with_reducible refine Kp.setCell ?_ _ ?_))) <;> (first | omega | (simp; done) | (simp; omega)))
  · simpa using (HO6.out.lo (lo' := w.heap.size) (by first | omega | (simp; done) | (simp; omega))).later (by (repeat (first | with_reducible exact Kp.refl _ _ | (with_reducible refine Kp.rng ?_ (by assumption) ?_) | (with_reducible refine Kp.below ?_ (by assumption)) | (with_reducible refine Kp.grown ?_ (by assumption) ?_) | (with_reducible refine Kp.alloc ?_ _) | (with_reducible refine Kp.drew ?_) | (with_reducible refine Kp.drewN ?_ _) | (with_reducible refine Kp.setCell ?_ _ ?_))) <;> (first | omega | (simp; done) | (simp; omega)))
  · exact (by (repeat (first | with_reducible exact Below.refl _ _ | (with_reducible refine bel_next ?_ ?_ (by assumption)) | (with_reducible refine Below.alloc ?_ ?_ _) | (with_reducible refine Below.drew ?_) | (with_reducible refine below_drewN ?_ _) | (with_reducible refine Below.setCell ?_ ?_ _))) <;> (first | omega | (simp; done) | (simp; omega)))
end Go.Proofs.Ytfcijloiebnloaa

/- SStepC -/
namespace Go.Proofs.Ytfcijloiebnloaa
open Go.RowKit
set_option linter.unusedVariables false
set_option linter.unusedSimpArgs false

set_option maxRecDepth 20000 in
set_option maxHeartbeats 8000000 in
theorem sStep_out (rs os : List Int) (a1 a2 : Option Addr) (c1 c2 : Nat) (dst a b c n : Int) (rr : List Rw) (ai : Option Addr) (ci : Nat) (w : World) (hm1 : rs.length ≤ 1048576) (hm2 : os.length ≤ 1048576) (hr1 : RdC w a1 (I64 rs)) (hr2 : RdC w a2 (I64 os)) (hmr : rr.length ≤ 1048576) (hml : rowsLe rr) (hri : RdR w ai rr) (h1 : stateOk rs os = true) (h2 : plainB ⟨11, dst, a, b, c, n⟩ = true) (h3 : inputsOk (rr.map Rw.xs) = true) :
    Calls Try.prog 85 #[.agg #[.slice a1 rs.length c1, .slice a2 os.length c2], stV ⟨11, dst, a, b, c, n⟩, .slice ai rr.length ci] w fun e w' => ∃ g1 d1 g2 d2, e = .returned (.agg #[.slice (some ⟨g1, 0, none⟩) (stepRegs rs os ⟨11, dst, a, b, c, n⟩ (rr.map Rw.xs)).length d1, .slice (some ⟨g2, 0, none⟩) (stepOuts rs os ⟨11, dst, a, b, c, n⟩ (rr.map Rw.xs)).length d2]) ∧
      Own w' w.heap.size 3 1 (some ⟨g1, 0, none⟩) (stepRegs rs os ⟨11, dst, a, b, c, n⟩ (rr.map Rw.xs)).length d1 (I64 (stepRegs rs os ⟨11, dst, a, b, c, n⟩ (rr.map Rw.xs))) ∧ Own w' w.heap.size 3 1 (some ⟨g2, 0, none⟩) (stepOuts rs os ⟨11, dst, a, b, c, n⟩ (rr.map Rw.xs)).length d2 (I64 (stepOuts rs os ⟨11, dst, a, b, c, n⟩ (rr.map Rw.xs))) ∧ g1 ≠ g2 ∧ Below w.heap.size w w' := by
  have hM1 : rs.length ≤ maxLen := by unfold maxLen; omega
  have hM2 : os.length ≤ maxLen := by unfold maxLen; omega
  have hMr : rr.length ≤ maxLen := by unfold maxLen; omega
  have HN1 := Lib.hid (rd_none hr1)
  have HN2 := Lib.hid (rd_none hr2)
  have HR1 := Lib.hid hr1
  have HR2 := Lib.hid hr2
  have HRI := Lib.hid hri
  clear hr1 hr2 hri
  have hB : stepB ⟨11, dst, a, b, c, n⟩ rs os (rr.map Rw.xs) = true := by simp [stepB, h1, h2, h3]
  have hst : stOk ⟨11, dst, a, b, c, n⟩ = true := by have h := h2; simp [plainB] at h; first | exact h | exact h.1
  
  have hh := stok_regs hst
  simp only at hh
  obtain ⟨o1, o13, r0, r1, r2, r3, r4, r5, r6, r7⟩ := hh
  have h8 := stateOk_len h1
  have h5 := inputs_len h3
  have e1 : (stepRegs rs os ⟨11, dst, a, b, c, n⟩ (rr.map Rw.xs)) = rs := by simp [stepRegs]
  have e2 : (stepOuts rs os ⟨11, dst, a, b, c, n⟩ (rr.map Rw.xs)) = os ++ [rgd rs a] := by simp [stepOuts, hB]
  rw [e1, e2]
  clear hB e1 e2
  have H8 := Lib.hid h8
  have H5 := Lib.hid h5
  have HST := Lib.hid h1
  have HS := Lib.hid hst
  have HIN := Lib.hid h3
  clear h1 h2 h3 hst h8 h5
  have hta : a.toNat < rs.length := by have := H8.out; omega
  have hxa : rgd rs a = rs[a.toNat] := rgd_at hta
  obtain ⟨xa, hqa⟩ : ∃ x, x = rs[a.toNat] := ⟨_, rfl⟩
  rw [← hqa] at hxa
  have hia : a < (rs.length : Int) := by have := H8.out; omega
  rw [hxa]
  clear hxa
  have HQa := Lib.hid hqa
  clear hqa
  unfold stV
  go_enter Try.func85, Try.ntmps85
  go_wp2_with fail
  obtain ⟨w0, hw0⟩ : ∃ W, W = ((w.alloc (.cells #[.slice a1 rs.length c1, .slice a2 os.length c2] 102)).alloc (.cells #[.int .i64 11, .int .i64 dst, .int .i64 a, .int .i64 b, .int .i64 c, .int .i64 n] 90)).alloc (.cells #[.slice none 0 0, .slice none 0 0] 102) := ⟨_, rfl⟩
  rw [← hw0]
  have hb0 : Below w.heap.size w w0 := by rw [hw0]; exact (by (repeat (first | with_reducible exact Below.refl _ _ | (with_reducible refine bel_next ?_ ?_ (by assumption)) | (with_reducible refine Below.alloc ?_ ?_ _) | (with_reducible refine Below.drew ?_) | (with_reducible refine below_drewN ?_ _) | (with_reducible refine Below.setCell ?_ ?_ _))) <;> (first | omega | (simp; done) | (simp; omega)))
  have z0 : w.heap.size + 1 + 1 < w0.heap.size := by rw [hw0]; simp
  have k0_0 : w0.cell? ⟨w.heap.size, 0, none⟩ = some (.slice a1 rs.length c1) := by rw [hw0]; go_simp
  have k0_1 : w0.cell? ⟨w.heap.size, 1, none⟩ = some (.slice a2 os.length c2) := by rw [hw0]; go_simp
  have k0_2 : w0.cell? ⟨w.heap.size + 1, 0, none⟩ = some (.int .i64 11) := by rw [hw0]; go_simp
  have k0_3 : w0.cell? ⟨w.heap.size + 1, 1, none⟩ = some (.int .i64 dst) := by rw [hw0]; go_simp
  have k0_4 : w0.cell? ⟨w.heap.size + 1, 2, none⟩ = some (.int .i64 a) := by rw [hw0]; go_simp
  have k0_5 : w0.cell? ⟨w.heap.size + 1, 3, none⟩ = some (.int .i64 b) := by rw [hw0]; go_simp
  have k0_6 : w0.cell? ⟨w.heap.size + 1, 4, none⟩ = some (.int .i64 c) := by rw [hw0]; go_simp
  have k0_7 : w0.cell? ⟨w.heap.size + 1, 5, none⟩ = some (.int .i64 n) := by rw [hw0]; go_simp
  have k0_8 : w0.cell? ⟨w.heap.size + 1 + 1, 0, none⟩ = some (.slice none 0 0) := by rw [hw0]; go_simp
  have k0_9 : w0.cell? ⟨w.heap.size + 1 + 1, 1, none⟩ = some (.slice none 0 0) := by rw [hw0]; go_simp
  have f0_0 : w0.frozen? ⟨w.heap.size + 1 + 1, 0, none⟩ = false := by rw [hw0]; go_simp
  have f0_1 : w0.frozen? ⟨w.heap.size + 1 + 1, 1, none⟩ = false := by rw [hw0]; go_simp
  clear hw0
  refine (l12Copy_any rs os a1 a2 c1 c2 _ (by omega) (by omega) (HR1.out.below (by (repeat (first | with_reducible exact Below.refl _ _ | (with_reducible refine bel_next ?_ ?_ (by assumption)) | (with_reducible refine Below.alloc ?_ ?_ _) | (with_reducible refine Below.drew ?_) | (with_reducible refine below_drewN ?_ _) | (with_reducible refine Below.setCell ?_ ?_ _))) <;> (first | omega | (simp; done) | (simp; omega)))) (HR2.out.below (by (repeat (first | with_reducible exact Below.refl _ _ | (with_reducible refine bel_next ?_ ?_ (by assumption)) | (with_reducible refine Below.alloc ?_ ?_ _) | (with_reducible refine Below.drew ?_) | (with_reducible refine below_drewN ?_ _) | (with_reducible refine Below.setCell ?_ ?_ _))) <;> (first | omega | (simp; done) | (simp; omega)))) HN1.out HN2.out).mono ?_
  rintro e w1 ⟨g1, d1, g2, d2, rfl, ho1, ho2, hne, hb1⟩
  have z1 := hb1.size
  (try simp at z1)
  have y1_0 : w.heap.size < w1.heap.size := (by omega)
  have y1_1 : w.heap.size + 1 < w1.heap.size := (by omega)
  have y1_2 : w.heap.size + 1 + 1 < w1.heap.size := (by omega)
  have k1_0 := bel_keeps hb1 (b := w.heap.size) (o := 0) (v := .slice a1 rs.length c1) (by first | (go_simp; done) | assumption)
  have k1_1 := bel_keeps hb1 (b := w.heap.size) (o := 1) (v := .slice a2 os.length c2) (by first | (go_simp; done) | assumption)
  have k1_2 := bel_keeps hb1 (b := w.heap.size + 1) (o := 0) (v := .int .i64 11) (by first | (go_simp; done) | assumption)
  have k1_3 := bel_keeps hb1 (b := w.heap.size + 1) (o := 1) (v := .int .i64 dst) (by first | (go_simp; done) | assumption)
  have k1_4 := bel_keeps hb1 (b := w.heap.size + 1) (o := 2) (v := .int .i64 a) (by first | (go_simp; done) | assumption)
  have k1_5 := bel_keeps hb1 (b := w.heap.size + 1) (o := 3) (v := .int .i64 b) (by first | (go_simp; done) | assumption)
  have k1_6 := bel_keeps hb1 (b := w.heap.size + 1) (o := 4) (v := .int .i64 c) (by first | (go_simp; done) | assumption)
  have k1_7 := bel_keeps hb1 (b := w.heap.size + 1) (o := 5) (v := .int .i64 n) (by first | (go_simp; done) | assumption)
  have k1_8 := bel_keeps hb1 (b := w.heap.size + 1 + 1) (o := 0) (v := .slice none 0 0) (by first | (go_simp; done) | assumption)
  have k1_9 := bel_keeps hb1 (b := w.heap.size + 1 + 1) (o := 1) (v := .slice none 0 0) (by first | (go_simp; done) | assumption)
  have f1_0 := bel_free hb1 (b := w.heap.size + 1 + 1) (o := 0) (by first | omega | (simp; done) | (simp; omega)) (by first | (go_simp; done) | assumption)
  have f1_1 := bel_free hb1 (b := w.heap.size + 1 + 1) (o := 1) (by first | omega | (simp; done) | (simp; omega)) (by first | (go_simp; done) | assumption)
  clear k0_0 k0_1 k0_2 k0_3 k0_4 k0_5 k0_6 k0_7 k0_8 k0_9 f0_0 f0_1
  have lg1 := ho1.ge
  have lg2 := ho2.ge
  have hO1 := Lib.hid ho1
  have hO2 := Lib.hid ho2
  clear ho1 ho2
  go_wp2_with fail
  obtain ⟨w2, hw2⟩ : ∃ W, W = w1.alloc (.cells #[.slice (some ⟨g1, 0, none⟩) rs.length d1, .slice (some ⟨g2, 0, none⟩) os.length d2] 102) := ⟨_, rfl⟩
  rw [← hw2]
  have hb2 : Below w1.heap.size w1 w2 := by rw [hw2]; exact (Below.refl _ _).alloc (Nat.le_refl _) _
  have x2 : w1.heap.size < w2.heap.size := by rw [hw2]; simp
  have z2 := hb2.size
  (try simp at z2)
  have y2_0 : w.heap.size < w2.heap.size := (by omega)
  have y2_1 : w.heap.size + 1 < w2.heap.size := (by omega)
  have y2_2 : w.heap.size + 1 + 1 < w2.heap.size := (by omega)
  have k2_0 := bel_keeps hb2 (b := w.heap.size) (o := 0) (v := .slice a1 rs.length c1) (by first | (go_simp; done) | assumption)
  have k2_1 := bel_keeps hb2 (b := w.heap.size) (o := 1) (v := .slice a2 os.length c2) (by first | (go_simp; done) | assumption)
  have k2_2 := bel_keeps hb2 (b := w.heap.size + 1) (o := 0) (v := .int .i64 11) (by first | (go_simp; done) | assumption)
  have k2_3 := bel_keeps hb2 (b := w.heap.size + 1) (o := 1) (v := .int .i64 dst) (by first | (go_simp; done) | assumption)
  have k2_4 := bel_keeps hb2 (b := w.heap.size + 1) (o := 2) (v := .int .i64 a) (by first | (go_simp; done) | assumption)
  have k2_5 := bel_keeps hb2 (b := w.heap.size + 1) (o := 3) (v := .int .i64 b) (by first | (go_simp; done) | assumption)
  have k2_6 := bel_keeps hb2 (b := w.heap.size + 1) (o := 4) (v := .int .i64 c) (by first | (go_simp; done) | assumption)
  have k2_7 := bel_keeps hb2 (b := w.heap.size + 1) (o := 5) (v := .int .i64 n) (by first | (go_simp; done) | assumption)
  have k2_8 := bel_keeps hb2 (b := w.heap.size + 1 + 1) (o := 0) (v := .slice none 0 0) (by first | (go_simp; done) | assumption)
  have k2_9 := bel_keeps hb2 (b := w.heap.size + 1 + 1) (o := 1) (v := .slice none 0 0) (by first | (go_simp; done) | assumption)
  have f2_0 := bel_free hb2 (b := w.heap.size + 1 + 1) (o := 0) (by first | omega | (simp; done) | (simp; omega)) (by first | (go_simp; done) | assumption)
  have f2_1 := bel_free hb2 (b := w.heap.size + 1 + 1) (o := 1) (by first | omega | (simp; done) | (simp; omega)) (by first | (go_simp; done) | assumption)
  clear k1_0 k1_1 k1_2 k1_3 k1_4 k1_5 k1_6 k1_7 k1_8 k1_9 f1_0 f1_1
  have kb2_0 : w2.cell? ⟨w1.heap.size, 0, none⟩ = some (.slice (some ⟨g1, 0, none⟩) rs.length d1) := by rw [hw2]; go_simp
  have kb2_1 : w2.cell? ⟨w1.heap.size, 1, none⟩ = some (.slice (some ⟨g2, 0, none⟩) os.length d2) := by rw [hw2]; go_simp
  have kf2_0 : w2.frozen? ⟨w1.heap.size, 0, none⟩ = false := by rw [hw2]; go_simp
  have kf2_1 : w2.frozen? ⟨w1.heap.size, 1, none⟩ = false := by rw [hw2]; go_simp
  clear hw2
  go_wp2_with fail
  refine (sStateOk_any rs os _ _ _ _ _ hM1 hM2 (HR1.out.below (by (repeat (first | with_reducible exact Below.refl _ _ | (with_reducible refine bel_next ?_ ?_ (by assumption)) | (with_reducible refine Below.alloc ?_ ?_ _) | (with_reducible refine Below.drew ?_) | (with_reducible refine below_drewN ?_ _) | (with_reducible refine Below.setCell ?_ ?_ _))) <;> (first | omega | (simp; done) | (simp; omega)))) (HR2.out.below (by (repeat (first | with_reducible exact Below.refl _ _ | (with_reducible refine bel_next ?_ ?_ (by assumption)) | (with_reducible refine Below.alloc ?_ ?_ _) | (with_reducible refine Below.drew ?_) | (with_reducible refine below_drewN ?_ _) | (with_reducible refine Below.setCell ?_ ?_ _))) <;> (first | omega | (simp; done) | (simp; omega))))).mono ?_
  rintro e w3 ⟨rfl, hb3⟩
  have z3 := hb3.size
  (try simp at z3)
  have y3_0 : w.heap.size < w3.heap.size := (by omega)
  have y3_1 : w.heap.size + 1 < w3.heap.size := (by omega)
  have y3_2 : w.heap.size + 1 + 1 < w3.heap.size := (by omega)
  have y3_3 : w1.heap.size < w3.heap.size := (by omega)
  have k3_0 := bel_keeps hb3 (b := w.heap.size) (o := 0) (v := .slice a1 rs.length c1) (by first | (go_simp; done) | assumption)
  have k3_1 := bel_keeps hb3 (b := w.heap.size) (o := 1) (v := .slice a2 os.length c2) (by first | (go_simp; done) | assumption)
  have k3_2 := bel_keeps hb3 (b := w.heap.size + 1) (o := 0) (v := .int .i64 11) (by first | (go_simp; done) | assumption)
  have k3_3 := bel_keeps hb3 (b := w.heap.size + 1) (o := 1) (v := .int .i64 dst) (by first | (go_simp; done) | assumption)
  have k3_4 := bel_keeps hb3 (b := w.heap.size + 1) (o := 2) (v := .int .i64 a) (by first | (go_simp; done) | assumption)
  have k3_5 := bel_keeps hb3 (b := w.heap.size + 1) (o := 3) (v := .int .i64 b) (by first | (go_simp; done) | assumption)
  have k3_6 := bel_keeps hb3 (b := w.heap.size + 1) (o := 4) (v := .int .i64 c) (by first | (go_simp; done) | assumption)
  have k3_7 := bel_keeps hb3 (b := w.heap.size + 1) (o := 5) (v := .int .i64 n) (by first | (go_simp; done) | assumption)
  have k3_8 := bel_keeps hb3 (b := w.heap.size + 1 + 1) (o := 0) (v := .slice none 0 0) (by first | (go_simp; done) | assumption)
  have k3_9 := bel_keeps hb3 (b := w.heap.size + 1 + 1) (o := 1) (v := .slice none 0 0) (by first | (go_simp; done) | assumption)
  have k3_10 := bel_keeps hb3 (b := w1.heap.size) (o := 0) (v := .slice (some ⟨g1, 0, none⟩) rs.length d1) (by first | (go_simp; done) | assumption)
  have k3_11 := bel_keeps hb3 (b := w1.heap.size) (o := 1) (v := .slice (some ⟨g2, 0, none⟩) os.length d2) (by first | (go_simp; done) | assumption)
  have f3_0 := bel_free hb3 (b := w.heap.size + 1 + 1) (o := 0) (by first | omega | (simp; done) | (simp; omega)) (by first | (go_simp; done) | assumption)
  have f3_1 := bel_free hb3 (b := w.heap.size + 1 + 1) (o := 1) (by first | omega | (simp; done) | (simp; omega)) (by first | (go_simp; done) | assumption)
  have f3_2 := bel_free hb3 (b := w1.heap.size) (o := 0) (by first | omega | (simp; done) | (simp; omega)) (by first | (go_simp; done) | assumption)
  have f3_3 := bel_free hb3 (b := w1.heap.size) (o := 1) (by first | omega | (simp; done) | (simp; omega)) (by first | (go_simp; done) | assumption)
  clear k2_0 k2_1 k2_2 k2_3 k2_4 k2_5 k2_6 k2_7 k2_8 k2_9 kb2_0 kb2_1 f2_0 f2_1 kf2_0 kf2_1
  rw [HST.out]
  go_wp2_with fail
  refine (sStmtOk_any ⟨11, dst, a, b, c, n⟩ _).mono ?_
  rintro e w4 ⟨rfl, hb4⟩
  have z4 := hb4.size
  (try simp at z4)
  have y4_0 : w.heap.size < w4.heap.size := (by omega)
  have y4_1 : w.heap.size + 1 < w4.heap.size := (by omega)
  have y4_2 : w.heap.size + 1 + 1 < w4.heap.size := (by omega)
  have y4_3 : w1.heap.size < w4.heap.size := (by omega)
  have k4_0 := bel_keeps hb4 (b := w.heap.size) (o := 0) (v := .slice a1 rs.length c1) (by first | (go_simp; done) | assumption)
  have k4_1 := bel_keeps hb4 (b := w.heap.size) (o := 1) (v := .slice a2 os.length c2) (by first | (go_simp; done) | assumption)
  have k4_2 := bel_keeps hb4 (b := w.heap.size + 1) (o := 0) (v := .int .i64 11) (by first | (go_simp; done) | assumption)
  have k4_3 := bel_keeps hb4 (b := w.heap.size + 1) (o := 1) (v := .int .i64 dst) (by first | (go_simp; done) | assumption)
  have k4_4 := bel_keeps hb4 (b := w.heap.size + 1) (o := 2) (v := .int .i64 a) (by first | (go_simp; done) | assumption)
  have k4_5 := bel_keeps hb4 (b := w.heap.size + 1) (o := 3) (v := .int .i64 b) (by first | (go_simp; done) | assumption)
  have k4_6 := bel_keeps hb4 (b := w.heap.size + 1) (o := 4) (v := .int .i64 c) (by first | (go_simp; done) | assumption)
  have k4_7 := bel_keeps hb4 (b := w.heap.size + 1) (o := 5) (v := .int .i64 n) (by first | (go_simp; done) | assumption)
  have k4_8 := bel_keeps hb4 (b := w.heap.size + 1 + 1) (o := 0) (v := .slice none 0 0) (by first | (go_simp; done) | assumption)
  have k4_9 := bel_keeps hb4 (b := w.heap.size + 1 + 1) (o := 1) (v := .slice none 0 0) (by first | (go_simp; done) | assumption)
  have k4_10 := bel_keeps hb4 (b := w1.heap.size) (o := 0) (v := .slice (some ⟨g1, 0, none⟩) rs.length d1) (by first | (go_simp; done) | assumption)
  have k4_11 := bel_keeps hb4 (b := w1.heap.size) (o := 1) (v := .slice (some ⟨g2, 0, none⟩) os.length d2) (by first | (go_simp; done) | assumption)
  have f4_0 := bel_free hb4 (b := w.heap.size + 1 + 1) (o := 0) (by first | omega | (simp; done) | (simp; omega)) (by first | (go_simp; done) | assumption)
  have f4_1 := bel_free hb4 (b := w.heap.size + 1 + 1) (o := 1) (by first | omega | (simp; done) | (simp; omega)) (by first | (go_simp; done) | assumption)
  have f4_2 := bel_free hb4 (b := w1.heap.size) (o := 0) (by first | omega | (simp; done) | (simp; omega)) (by first | (go_simp; done) | assumption)
  have f4_3 := bel_free hb4 (b := w1.heap.size) (o := 1) (by first | omega | (simp; done) | (simp; omega)) (by first | (go_simp; done) | assumption)
  clear k3_0 k3_1 k3_2 k3_3 k3_4 k3_5 k3_6 k3_7 k3_8 k3_9 k3_10 k3_11 f3_0 f3_1 f3_2 f3_3
  rw [HS.out]
  go_wp2_with fail
  refine (sInputsOk_any rr _ _ _ hMr hml (HRI.out.below (by (repeat (first | with_reducible exact Below.refl _ _ | (with_reducible refine bel_next ?_ ?_ (by assumption)) | (with_reducible refine Below.alloc ?_ ?_ _) | (with_reducible refine Below.drew ?_) | (with_reducible refine below_drewN ?_ _) | (with_reducible refine Below.setCell ?_ ?_ _))) <;> (first | omega | (simp; done) | (simp; omega))))).mono ?_
  rintro e _ ⟨rfl, rfl⟩
  rw [HIN.out]
  obtain ⟨bba, ooa, haaa, hcca⟩ := (show RdC w4 a1 (I64 rs) from HR1.out.below (by (repeat (first | with_reducible exact Below.refl _ _ | (with_reducible refine bel_next ?_ ?_ (by assumption)) | (with_reducible refine Below.alloc ?_ ?_ _) | (with_reducible refine Below.drew ?_) | (with_reducible refine below_drewN ?_ _) | (with_reducible refine Below.setCell ?_ ?_ _))) <;> (first | omega | (simp; done) | (simp; omega)))).at a.toNat (by have := H8.out; omega)
  have cca := hcca a.toNat (by have := H8.out; omega)
  rw [← HQa.out] at cca
  have lta := lt_of_cell cca
  subst haaa
  clear hcca
  have hab : bba < w.heap.size := by rcases HR1.out with h | ⟨b, o, h, hc⟩ <;> first | (have hz : rs.length = 0 := (by simpa using congrArg List.length h); have := H8.out; omega) | (simp only [Option.some.injEq, Addr.mk.injEq, and_true] at h; obtain ⟨rfl, rfl⟩ := h; exact lt_of_cell (hc 0 (by have := H8.out; simp; omega)))
  go_wp2_with fail
  go_region_law (refine step_push _ rfl _ _ rfl (w0.heap.size) g2 os.length d2 os xa w4.heap.size 1 (by rfl) (by rfl) (hO2.out.later (by (repeat (first | with_reducible exact Kp.refl _ _ | (with_reducible refine Kp.rng ?_ (by assumption) ?_) | (with_reducible refine Kp.below ?_ (by assumption)) | (with_reducible refine Kp.grown ?_ (by assumption) ?_) | (with_reducible refine Kp.alloc ?_ _) | (with_reducible refine Kp.drew ?_) | (with_reducible refine Kp.drewN ?_ _) | (with_reducible refine Kp.setCell ?_ _ ?_))) <;> (first | omega | (simp; done) | (simp; omega)))) (by go_simp) (by omega) (by first | omega | (simp; done) | (simp; omega)) ?_; intro g4 d4 w4 ho4 hb4 hg4 hat4; (try simp at hat4); have z4 := hb4.size; (try simp at z4); have y4 := hg4.size; (try simp at y4); have m4_0 := grown_cell hg4 (b := w1.heap.size) (o := 0) (x := .slice (some ⟨g1, 0, none⟩) rs.length d1) (by first | (simp; done) | (simp; omega) | omega) (by go_simp); have m4_1 := grown_cell hg4 (b := w1.heap.size) (o := 1) (x := .slice (some ⟨g2, 0, none⟩) os.length d2) (by first | (simp; done) | (simp; omega) | omega) (by go_simp); have m4_2 := grown_cell hg4 (b := w.heap.size + 1 + 1) (o := 0) (x := .slice none 0 0) (by first | (simp; done) | (simp; omega) | omega) (by go_simp); have m4_3 := grown_cell hg4 (b := w.heap.size + 1 + 1) (o := 1) (x := .slice none 0 0) (by first | (simp; done) | (simp; omega) | omega) (by go_simp); have p4_0 := grown_free hg4 (b := w1.heap.size) (o := 0) (by first | (simp; done) | (simp; omega) | omega) (by first | (simp; done) | (simp; omega) | omega) (by go_simp); have p4_1 := grown_free hg4 (b := w1.heap.size) (o := 1) (by first | (simp; done) | (simp; omega) | omega) (by first | (simp; done) | (simp; omega) | omega) (by go_simp); have p4_2 := grown_free hg4 (b := w.heap.size + 1 + 1) (o := 0) (by first | (simp; done) | (simp; omega) | omega) (by first | (simp; done) | (simp; omega) | omega) (by go_simp); have p4_3 := grown_free hg4 (b := w.heap.size + 1 + 1) (o := 1) (by first | (simp; done) | (simp; omega) | omega) (by first | (simp; done) | (simp; omega) | omega) (by go_simp); have l4 := ho4.ge; have hO4 := Lib.hid ho4; clear ho4)
  all_goals
    go_wp2_with fail
    refine (l12Copy_n rs (os ++ [xa]) rs.length (os.length + 1) _ _ _ _ _ rfl (by simp) (by omega) (by omega) (hO1.out.later (by (repeat (first | with_reducible exact Kp.refl _ _ | (with_reducible refine Kp.rng ?_ (by assumption) ?_) | (with_reducible refine Kp.below ?_ (by assumption)) | (with_reducible refine Kp.grown ?_ (by assumption) ?_) | (with_reducible refine Kp.alloc ?_ _) | (with_reducible refine Kp.drew ?_) | (with_reducible refine Kp.drewN ?_ _) | (with_reducible refine Kp.setCell ?_ _ ?_))) <;> (first | omega | (simp; done) | (simp; omega)))).rd (hO4.out.later (by (repeat (first | with_reducible exact Kp.refl _ _ | (with_reducible refine Kp.rng ?_ (by assumption) ?_) | (with_reducible refine Kp.below ?_ (by assumption)) | (with_reducible refine Kp.grown ?_ (by assumption) ?_) | (with_reducible refine Kp.alloc ?_ _) | (with_reducible refine Kp.drew ?_) | (with_reducible refine Kp.drewN ?_ _) | (with_reducible refine Kp.setCell ?_ _ ?_))) <;> (first | omega | (simp; done) | (simp; omega)))).rd (by intro h; cases h) (by intro h; cases h)).mono ?_
    rintro e w6' ⟨g5, d5, g6, d6, rfl, ho5, ho6, hne5, hb6'⟩
    have z6' := hb6'.size
    (try simp at z6')
    have e6_0 := bel_keeps hb6' (b := w.heap.size + 1 + 1) (o := 0) (v := .slice none 0 0) (by first | (go_simp; done) | assumption)
    have e7_0 := bel_free hb6' (b := w.heap.size + 1 + 1) (o := 0) (by first | omega | (simp; done) | (simp; omega)) (by first | (go_simp; done) | assumption)
    have e6_1 := bel_keeps hb6' (b := w.heap.size + 1 + 1) (o := 1) (v := .slice none 0 0) (by first | (go_simp; done) | assumption)
    have e7_1 := bel_free hb6' (b := w.heap.size + 1 + 1) (o := 1) (by first | omega | (simp; done) | (simp; omega)) (by first | (go_simp; done) | assumption)
    have l5 := ho5.ge
    have l6 := ho6.ge
    (try simp at l5)
    (try simp at l6)
    have HO5 := Lib.hid ho5
    have HO6 := Lib.hid ho6
    clear ho5 ho6
    go_wp2_with fail
    refine bodyPost_ret (v := .agg #[.slice (some ⟨g5, 0, none⟩) (rs.length) d5, .slice (some ⟨g6, 0, none⟩) (os.length + 1) d6]) (by simp [results, Try.results85, go_sem, e6_0, e6_1, e7_0, e7_1]) rfl ⟨g5, d5, g6, d6, by simp, ?_, ?_, hne5, ?_⟩
    · simpa using (HO5.out.lo (lo' := w.heap.size) (by first | omega | (simp; done) | (simp; omega))).later (by (repeat (first | with_reducible exact Kp.refl _ _ | (with_reducible refine Kp.rng ?_ (by assumption) ?_) | (with_reducible refine Kp.below ?_ (by assumption)) | (with_reducible refine Kp.grown ?_ (by assumption) ?_) | (with_reducible refine Kp.alloc ?_ _) | (with_reducible refine Kp.drew ?_) | (with_reducible refine Kp.drewN ?_ _) | (with_reducible refine Kp.setCell ?_ _ ?_))) <;> (first | omega | (simp; done) | (simp; omega)))
    · simpa using (HO6.out.lo (lo' := w.heap.size) (by first | omega | (simp; done) | (simp; omega))).later (by (repeat (first | with_reducible exact Kp.refl _ _ | (with_reducible refine Kp.rng ?_ (by assumption) ?_) | (with_reducible refine Kp.below ?_ (by assumption)) | (with_reducible refine Kp.grown ?_ (by assumption) ?_) | (with_reducible refine Kp.alloc ?_ _) | (with_reducible refine Kp.drew ?_) | (with_reducible refine Kp.drewN ?_ _) | (with_reducible refine Kp.setCell ?_ _ ?_))) <;> (first | omega | (simp; done) | (simp; omega)))
    · exact (by (repeat (first | with_reducible exact Below.refl _ _ | (with_reducible refine bel_next ?_ ?_ (by assumption)) | (with_reducible refine Below.alloc ?_ ?_ _) | (with_reducible refine Below.drew ?_) | (with_reducible refine below_drewN ?_ _) | (with_reducible refine Below.setCell ?_ ?_ _))) <;> (first | omega | (simp; done) | (simp; omega)))
end Go.Proofs.Ytfcijloiebnloaa

/- IStepA -/
namespace Go.Proofs.Ytfcijloiebnloaa
open Go.RowKit
set_option linter.unusedVariables false
set_option linter.unusedSimpArgs false

end Go.Proofs.Ytfcijloiebnloaa

/- IStepB -/
namespace Go.Proofs.Ytfcijloiebnloaa
open Go.RowKit
set_option linter.unusedVariables false
set_option linter.unusedSimpArgs false

end Go.Proofs.Ytfcijloiebnloaa

/- IStepC -/
namespace Go.Proofs.Ytfcijloiebnloaa
open Go.RowKit
set_option linter.unusedVariables false
set_option linter.unusedSimpArgs false

end Go.Proofs.Ytfcijloiebnloaa

/- StepState -/
namespace Go.Proofs.Ytfcijloiebnloaa
open Go.RowKit
set_option linter.unusedVariables false

theorem sStepState_any (rs os : List Int) (a1 a2 : Option Addr) (c1 c2 : Nat) (s : St) (rr : List Rw) (ai : Option Addr) (ci : Nat) (w : World) (hm1 : rs.length ≤ 1048576) (hm2 : os.length ≤ 1048576) (hr1 : RdC w a1 (I64 rs)) (hr2 : RdC w a2 (I64 os)) (hmr : rr.length ≤ 1048576) (hml : rowsLe rr) (hri : RdR w ai rr) :
    Calls Try.prog 85 #[.agg #[.slice a1 rs.length c1, .slice a2 os.length c2], stV s, .slice ai rr.length ci] w fun e w' => ∃ g1 d1 g2 d2, e = .returned (.agg #[.slice (some ⟨g1, 0, none⟩) (stepRegs rs os s (rr.map Rw.xs)).length d1, .slice (some ⟨g2, 0, none⟩) (stepOuts rs os s (rr.map Rw.xs)).length d2]) ∧
      Own w' w.heap.size 3 1 (some ⟨g1, 0, none⟩) (stepRegs rs os s (rr.map Rw.xs)).length d1 (I64 (stepRegs rs os s (rr.map Rw.xs))) ∧ Own w' w.heap.size 3 1 (some ⟨g2, 0, none⟩) (stepOuts rs os s (rr.map Rw.xs)).length d2 (I64 (stepOuts rs os s (rr.map Rw.xs))) ∧ g1 ≠ g2 ∧ Below w.heap.size w w' := by
  obtain ⟨op, dst, a, b, c, n⟩ := s
  cases h1 : stateOk rs os
  · exact sStep_no1 rs os a1 a2 c1 c2 op dst a b c n rr ai ci w hm1 hm2 hr1 hr2 hmr hml hri h1
  cases hst : stOk ⟨op, dst, a, b, c, n⟩
  · exact sStep_no2 rs os a1 a2 c1 c2 op dst a b c n rr ai ci w hm1 hm2 hr1 hr2 hmr hml hri h1 hst
  by_cases h12 : 11 < op
  · exact sStep_no4 rs os a1 a2 c1 c2 op dst a b c n rr ai ci w hm1 hm2 hr1 hr2 hmr hml hri h1 hst h12
  have h2 : plainB ⟨op, dst, a, b, c, n⟩ = true := by simp [plainB, hst]; omega
  cases h3 : inputsOk (rr.map Rw.xs)
  · exact sStep_no3 rs os a1 a2 c1 c2 op dst a b c n rr ai ci w hm1 hm2 hr1 hr2 hmr hml hri h1 h2 h3
  by_cases p1 : op = 1
  · subst p1; exact sStep_const rs os a1 a2 c1 c2 dst a b c n rr ai ci w hm1 hm2 hr1 hr2 hmr hml hri h1 h2 h3
  by_cases p2 : op = 2
  · subst p2; exact sStep_input rs os a1 a2 c1 c2 dst a b c n rr ai ci w hm1 hm2 hr1 hr2 hmr hml hri h1 h2 h3
  by_cases p10 : op = 10
  · subst p10
    by_cases hb : bits .and .i64 (rgd rs a) 1 = 1
    · exact sStep_mux1 rs os a1 a2 c1 c2 dst a b c n rr ai ci w hm1 hm2 hr1 hr2 hmr hml hri h1 h2 h3 hb
    · exact sStep_mux0 rs os a1 a2 c1 c2 dst a b c n rr ai ci w hm1 hm2 hr1 hr2 hmr hml hri h1 h2 h3 hb
  by_cases p11 : op = 11
  · subst p11; exact sStep_out rs os a1 a2 c1 c2 dst a b c n rr ai ci w hm1 hm2 hr1 hr2 hmr hml hri h1 h2 h3
  exact sStep_def rs os a1 a2 c1 c2 op dst a b c n rr ai ci w hm1 hm2 hr1 hr2 hmr hml hri h1 h2 h3 p1 p2 p10 p11

end Go.Proofs.Ytfcijloiebnloaa

/- New -/
namespace Go.Proofs.Ytfcijloiebnloaa
open Go.RowKit

set_option maxHeartbeats 1000000 in
theorem sStateNew_any (w : World) :
    Calls Try.prog 84 #[] w fun e w' => ∃ g, e = .returned (.agg #[.slice (some ⟨g, 0, none⟩) 8 8, .slice none 0 0]) ∧ Own w' w.heap.size 3 1 (some ⟨g, 0, none⟩) 8 8 (I64 (List.replicate 8 0)) ∧ Below w.heap.size w w' := by
  obtain ⟨i0, hi, hz0, hz1, hz2⟩ := info_parts info_int
  go_enter Try.func84, Try.ntmps84
  go_wp2_with (at_make; refine wpList_make_full _ rfl _ _ 23 rfl (w.heap.size + 1) 3 i0 (.int .i64 0) 1 Try.underlying23 hi hz0 hz1 .i64 .i64 _ _ 8 rfl rfl rfl rfl ?b2 ?b3 ?b4 ?_)
  case b2 => rw [hz2]; omega
  case b3 => unfold maxLen; omega
  case b4 => simp
  intro w1 hown1 hgr1
  have hb1 : Below (w.heap.size + 1) (w.alloc (.cells #[.slice none 0 0, .slice none 0 0] 102)) w1 := (Below.refl _ _).grown hgr1 (by simp) (by simp)
  have z1 := hb1.size
  simp at z1
  have y1 : w.heap.size < w1.heap.size := by omega
  have k0 : w1.cell? ⟨w.heap.size, 0, none⟩ = some (.slice none 0 0) := (hb1.cell (p := ⟨w.heap.size, 0, none⟩) (by simp)).trans (by go_simp)
  have k1 : w1.cell? ⟨w.heap.size, 1, none⟩ = some (.slice none 0 0) := (hb1.cell (p := ⟨w.heap.size, 1, none⟩) (by simp)).trans (by go_simp)
  have f0 : w1.frozen? ⟨w.heap.size, 0, none⟩ = false := (hb1.frozen (p := ⟨w.heap.size, 0, none⟩) (by simp)).trans (by go_simp)
  have f1 : w1.frozen? ⟨w.heap.size, 1, none⟩ = false := (hb1.frozen (p := ⟨w.heap.size, 1, none⟩) (by simp)).trans (by go_simp)
  have e8 : (madeCells #[Value.int .i64 0] 8).toList = I64 (List.replicate 8 0) := made_ints 8
  have ho : Own w1 (w.heap.size + 1) 3 1 (some ⟨w.heap.size + 1, 0, none⟩) 8 8 (I64 (List.replicate 8 0)) := by rw [← e8]; exact hown1
  obtain ⟨g1, g2⟩ := ho.ge
  clear hown1 hgr1 e8
  go_wp2_with fail
  refine bodyPost_ret (v := .agg #[.slice (some ⟨w.heap.size + 1, 0, none⟩) 8 8, .slice none 0 0]) (by simp [results, Try.results84, go_sem, k0, k1]) rfl ⟨_, rfl, ?_, ?_⟩
  · exact (ho.lo (by omega)).later (by (repeat (first | with_reducible exact Kp.refl _ _ | (with_reducible refine Kp.below ?_ (by assumption)) | (with_reducible refine Kp.rng ?_ (by assumption) ?_) | (with_reducible refine Kp.alloc ?_ _) | (with_reducible refine Kp.drew ?_) | (with_reducible refine Kp.drewN ?_ _) | (with_reducible refine Kp.setCell ?_ _ ?_))) <;> (first | omega | (simp; done) | (simp; omega)))
  · exact (by (repeat (first | with_reducible exact Below.refl _ _ | (with_reducible refine bel_next ?_ ?_ (by assumption)) | (with_reducible refine Below.alloc ?_ ?_ _) | (with_reducible refine Below.drew ?_) | (with_reducible refine below_drewN ?_ _) | (with_reducible refine Below.setCell ?_ ?_ _))) <;> (first | omega | (simp; done) | (simp; omega)))
end Go.Proofs.Ytfcijloiebnloaa

/- Run -/
namespace Go.Proofs.Ytfcijloiebnloaa
open Go.RowKit
set_option linter.unusedVariables false
set_option linter.unusedSimpArgs false

def runF (us : List St) (xss : List (List Int)) : List Int × List Int := us.foldl (fun p s => (stepRegs p.1 p.2 s xss, stepOuts p.1 p.2 s xss)) (List.replicate 8 0, [])
theorem runF_snoc {us : List St} {xss : List (List Int)} {k : Nat} {s : St} (h : us[k]? = some s) : runF (us.take (k + 1)) xss = (stepRegs (runF (us.take k) xss).1 (runF (us.take k) xss).2 s xss, stepOuts (runF (us.take k) xss).1 (runF (us.take k) xss).2 s xss) := by
  unfold runF; rw [take_snocS h, List.foldl_append]; rfl
theorem runF_len (us : List St) (xss : List (List Int)) : ∀ k, (runF (us.take k) xss).1.length = 8 ∧ (runF (us.take k) xss).2.length ≤ k := by
  intro k
  induction k with
  | zero => simp [runF]
  | succ k ih =>
    cases hx : us[k]? with
    | none =>
      have : us.length ≤ k := by simpa using hx
      rw [List.take_of_length_le (by omega)]
      rw [List.take_of_length_le (by omega)] at ih
      exact ⟨ih.1, by omega⟩
    | some s =>
      rw [runF_snoc hx]
      exact ⟨by rw [stepRegs_len]; exact ih.1, by have := stepOuts_len (runF (us.take k) xss).1 (runF (us.take k) xss).2 s xss; simp only; omega⟩
def runOk (ok : Bool) (xss : List (List Int)) : Bool := ok && inputsOk xss
def runOuts (us : List St) (xss : List (List Int)) (ok : Bool) : List Int := if runOk ok xss then (runF us xss).2 else []
theorem runOuts_len (us : List St) (xss : List (List Int)) (ok : Bool) : (runOuts us xss ok).length ≤ us.length := by
  unfold runOuts
  have := (runF_len us xss us.length).2
  rw [List.take_length] at this
  split <;> simp <;> omega

set_option maxRecDepth 20000 in
set_option maxHeartbeats 4000000 in
theorem sRunProgram_any (xs us : List St) (ok : Bool) (hv : IsUnr xs us ok) (ad : Option Addr) (cp : Nat) (w : World) (hm : xs.length ≤ maxLen) (hcp : xs.length ≤ cp) (hcm : cp ≤ maxLen) (hr : RdC w ad (stCells xs)) (rr : List Rw) (ai : Option Addr) (ci : Nat) (hmr : rr.length ≤ 1048576) (hml : rowsLe rr) (hri : RdR w ai rr) :
    Calls Try.prog 43 #[.slice ad xs.length cp, .slice ai rr.length ci] w fun e w' => ∃ a c, e = .returned (.tuple #[.slice a (runOuts us (rr.map Rw.xs) ok).length c, .bool (runOk ok (rr.map Rw.xs))]) ∧ Own w' w.heap.size 3 1 a (runOuts us (rr.map Rw.xs) ok).length c (I64 (runOuts us (rr.map Rw.xs) ok)) ∧ Below w.heap.size w w' := by
  have hmm := hm
  unfold maxLen at hm
  have HR := Lib.hid hr
  have HRI := Lib.hid hri
  have hMr : rr.length ≤ maxLen := by unfold maxLen; omega
  have h120 := unr_len hv
  have HV := Lib.hid hv
  clear hr hv hri
  cases hin : inputsOk (rr.map Rw.xs)
  · have HIN := Lib.hid hin
    have HF : Hid (runOk ok (rr.map Rw.xs) = false) := by show _ = _; simp [runOk, hin]
    have HF2 : Hid (runOuts us (rr.map Rw.xs) ok = []) := by show _ = _; simp [runOuts, runOk, hin]
    rw [HF.out, HF2.out]
    clear hin HF HF2
    cases ok
    all_goals
      go_enter Try.func43, Try.ntmps43
      go_wp2_with (first | (go_at_call 74; refine (sUnroll_any xs us _ HV.out _ _ _ hmm hcp hcm HR.out).mono ?_; rintro e w1 ⟨a, c, rfl, ho, hb1⟩) | (go_at_call 83; refine (sInputsOk_any rr _ _ _ hMr hml (HRI.out.below (by (repeat (first | with_reducible exact Below.refl _ _ | (with_reducible refine bel_next ?_ ?_ (by assumption)) | (with_reducible refine Below.alloc ?_ ?_ _) | (with_reducible refine Below.drew ?_) | (with_reducible refine below_drewN ?_ _) | (with_reducible refine Below.setCell ?_ ?_ _))) <;> (first | omega | (simp; done) | (simp; omega))))).mono ?_; rintro e _ ⟨rfl, rfl⟩; rw [HIN.out]))
      go_ret2
      have z1 := hb1.size
      exact ⟨some ⟨w1.heap.size, 0, none⟩, 0, rfl, (own_new w1 3 1).lo (by omega), (by (repeat (first | with_reducible exact Below.refl _ _ | (with_reducible refine bel_next ?_ ?_ (by assumption)) | (with_reducible refine Below.alloc ?_ ?_ _) | (with_reducible refine Below.drew ?_) | (with_reducible refine below_drewN ?_ _) | (with_reducible refine Below.setCell ?_ ?_ _))) <;> (first | omega | (simp; done) | (simp; omega)))⟩
  have HIN := Lib.hid hin
  have HT : Hid (runOk true (rr.map Rw.xs) = true) := by show _ = _; simp [runOk, hin]
  clear hin
  cases ok
  · go_enter Try.func43, Try.ntmps43
    go_wp2_with (go_at_call 74; refine (sUnroll_any xs us _ HV.out _ _ _ hmm hcp hcm HR.out).mono ?_; rintro e w1 ⟨a, c, rfl, ho, hb1⟩)
    go_ret2
    have z1 := hb1.size
    exact ⟨some ⟨w1.heap.size, 0, none⟩, 0, rfl, (own_new w1 3 1).lo (by omega), (by (repeat (first | with_reducible exact Below.refl _ _ | (with_reducible refine bel_next ?_ ?_ (by assumption)) | (with_reducible refine Below.alloc ?_ ?_ _) | (with_reducible refine Below.drew ?_) | (with_reducible refine below_drewN ?_ _) | (with_reducible refine Below.setCell ?_ ?_ _))) <;> (first | omega | (simp; done) | (simp; omega)))⟩
  · rw [HT.out]
    go_enter Try.func43, Try.ntmps43
    go_wp2_with (first | (go_at_call 74; refine (sUnroll_any xs us _ HV.out _ _ _ hmm hcp hcm HR.out).mono ?_; rintro e w1 ⟨a, c, rfl, ho, hb1⟩; have z1 := hb1.size; have HRU := Lib.hid ho.rd; have HBA : Hid (∀ x, a = some x → x.block < w1.heap.size) := fun x hx => (ho.blk x hx).2.2.2; clear ho) | (go_at_call 83; refine (sInputsOk_any rr _ _ _ hMr hml (HRI.out.below (by (repeat (first | with_reducible exact Below.refl _ _ | (with_reducible refine bel_next ?_ ?_ (by assumption)) | (with_reducible refine Below.alloc ?_ ?_ _) | (with_reducible refine Below.drew ?_) | (with_reducible refine below_drewN ?_ _) | (with_reducible refine Below.setCell ?_ ?_ _))) <;> (first | omega | (simp; done) | (simp; omega))))).mono ?_; rintro e _ ⟨rfl, rfl⟩; rw [HIN.out]) | (go_at_call 84; refine (sStateNew_any _).mono ?_; rintro e w2 ⟨g, rfl, hog, hb2⟩; have z2 := hb2.size; have qg := hog.ge; have HOG := Lib.hid hog; clear hog))
    go_loopw [9] (fun i wr => ∃ (k : Nat) (rs os : List Int) (a1 a2 : Option Addr) (e1 e2 : Nat), k ≤ us.length ∧ i = .int .i64 k ∧ (rs, os) = runF (us.take k) (rr.map Rw.xs) ∧ wr.cell? ⟨w2.heap.size, 0, none⟩ = some (.slice a1 rs.length e1) ∧ wr.cell? ⟨w2.heap.size, 1, none⟩ = some (.slice a2 os.length e2) ∧ wr.frozen? ⟨w2.heap.size, 0, none⟩ = false ∧ wr.frozen? ⟨w2.heap.size, 1, none⟩ = false ∧
        RdC wr a1 (I64 rs) ∧ Own wr w2.heap.size 3 1 a2 os.length e2 (I64 os) ∧ (∀ a, a1 = some a → a.block ≠ w2.heap.size) ∧ (∀ a, a2 = some a → a.block ≠ w2.heap.size) ∧ Below w2.heap.size w2 wr ∧ w2.heap.size < wr.heap.size) (fun i _ => us.length - (intOf i).toNat)
    case atStart =>
      refine ⟨0, List.replicate 8 0, [], some ⟨g, 0, none⟩, none, 8, 0, Nat.zero_le _, rfl, rfl, by go_simp, by go_simp, by go_simp, by go_simp, (HOG.out.later (by (repeat (first | with_reducible exact Kp.refl _ _ | (with_reducible refine Kp.rng ?_ (by assumption) ?_) | (with_reducible refine Kp.below ?_ (by assumption)) | (with_reducible refine Kp.grown ?_ (by assumption) ?_) | (with_reducible refine Kp.alloc ?_ _) | (with_reducible refine Kp.drew ?_) | (with_reducible refine Kp.drewN ?_ _) | (with_reducible refine Kp.setCell ?_ _ ?_))) <;> (first | omega | (simp; done) | (simp; omega)))).rd, Own.nil _ _ _ _, ?_, (fun a h => by cases h), (by (repeat (first | with_reducible exact Below.refl _ _ | (with_reducible refine bel_next ?_ ?_ (by assumption)) | (with_reducible refine Below.alloc ?_ ?_ _) | (with_reducible refine Below.drew ?_) | (with_reducible refine below_drewN ?_ _) | (with_reducible refine Below.setCell ?_ ?_ _))) <;> (first | omega | (simp; done) | (simp; omega))), by simp⟩
      intro a h
      obtain rfl : _ = a := Option.some.inj h
      simp; omega
    case round =>
      obtain ⟨k, rs, os, a1, a2, e1, e2, hk, rfl, hf, q0, q1, f0, f1, hrr, hown, hn1, hn2, hbw, hB⟩ := hrel
      have hl := runF_len us (rr.map Rw.xs) k
      rw [← hf] at hl
      simp only at hl
      have HL := Lib.hid hl.1
      have hl2 := hl.2
      have hm1 : rs.length ≤ 1048576 := by rw [hl.1]; omega
      have hm2 : os.length ≤ 1048576 := by omega
      have HF := Lib.hid hf
      have H1 := Lib.hid hrr
      have H2 := Lib.hid hown
      have N1 := Lib.hid hn1
      have N2 := Lib.hid hn2
      have zw := hbw.size
      clear hl hf hrr hown hn1 hn2
      by_cases hlt : k < us.length
      · obtain ⟨b, off, op, dst, sa, sb, sc, sn, rfl, hbl, hx, c0, c1, c2, c3, c4, c5⟩ := (show RdC wr a (stCells us) from HRU.out.below (by (repeat (first | with_reducible exact Below.refl _ _ | (with_reducible refine bel_next ?_ ?_ (by assumption)) | (with_reducible refine Below.alloc ?_ ?_ _) | (with_reducible refine Below.drew ?_) | (with_reducible refine below_drewN ?_ _) | (with_reducible refine Below.setCell ?_ ?_ _))) <;> (first | omega | (simp; done) | (simp; omega)))).st k hlt
        have hsn := runF_snoc (xss := (rr.map Rw.xs)) hx
        rw [← HF.out] at hsn
        simp only at hsn
        have HSN := Lib.hid hsn
        clear hsn hx
        have hbb : b ≠ w2.heap.size := by have := HBA.out _ rfl; simp at this; omega
        go_wp2_with fail
        go_region_with (go_at_call 85; refine (sStepState_any rs os a1 a2 e1 e2 ⟨op, dst, sa, sb, sc, sn⟩ rr _ _ _ hm1 hm2 (H1.out.below (by (repeat (first | with_reducible exact Below.refl _ _ | (with_reducible refine bel_next ?_ ?_ (by assumption)) | (with_reducible refine Below.alloc ?_ ?_ _) | (with_reducible refine Below.drew ?_) | (with_reducible refine below_drewN ?_ _) | (with_reducible refine Below.setCell ?_ ?_ _))) <;> (first | omega | (simp; done) | (simp; omega)))) (H2.out.rd.below (by (repeat (first | with_reducible exact Below.refl _ _ | (with_reducible refine bel_next ?_ ?_ (by assumption)) | (with_reducible refine Below.alloc ?_ ?_ _) | (with_reducible refine Below.drew ?_) | (with_reducible refine below_drewN ?_ _) | (with_reducible refine Below.setCell ?_ ?_ _))) <;> (first | omega | (simp; done) | (simp; omega)))) hmr hml (HRI.out.below (by (repeat (first | with_reducible exact Below.refl _ _ | (with_reducible refine bel_next ?_ ?_ (by assumption)) | (with_reducible refine Below.alloc ?_ ?_ _) | (with_reducible refine Below.drew ?_) | (with_reducible refine below_drewN ?_ _) | (with_reducible refine Below.setCell ?_ ?_ _))) <;> (first | omega | (simp; done) | (simp; omega))))).mono ?_; rintro e w3 ⟨g1, d1, g2, d2, rfl, ho1, ho2, hne, hb3⟩; have z3 := hb3.size; (try simp at z3); have y3 : w2.heap.size < w3.heap.size := (by omega); have ge1 := ho1.ge; have ge2 := ho2.ge; (try simp at ge1); (try simp at ge2); have k3_0 := bel_keeps hb3 (b := w2.heap.size) (o := 0) (v := .slice a1 rs.length e1) (by first | (go_simp; done) | assumption); have k3_1 := bel_keeps hb3 (b := w2.heap.size) (o := 1) (v := .slice a2 os.length e2) (by first | (go_simp; done) | assumption); have k3_2 := bel_keeps hb3 (b := b) (o := off + k * 6) (v := .int .i64 op) (by first | (go_simp; done) | assumption); have k3_3 := bel_keeps hb3 (b := b) (o := off + k * 6 + 1) (v := .int .i64 dst) (by first | (go_simp; done) | assumption); have k3_4 := bel_keeps hb3 (b := b) (o := off + k * 6 + 2) (v := .int .i64 sa) (by first | (go_simp; done) | assumption); have k3_5 := bel_keeps hb3 (b := b) (o := off + k * 6 + 3) (v := .int .i64 sb) (by first | (go_simp; done) | assumption); have k3_6 := bel_keeps hb3 (b := b) (o := off + k * 6 + 4) (v := .int .i64 sc) (by first | (go_simp; done) | assumption); have k3_7 := bel_keeps hb3 (b := b) (o := off + k * 6 + 5) (v := .int .i64 sn) (by first | (go_simp; done) | assumption); have g3_0 := bel_free hb3 (b := w2.heap.size) (o := 0) (by first | omega | (simp; done) | (simp; omega)) (by first | (go_simp; done) | assumption); have g3_1 := bel_free hb3 (b := w2.heap.size) (o := 1) (by first | omega | (simp; done) | (simp; omega)) (by first | (go_simp; done) | assumption))
        all_goals go_wp2_with fail
        all_goals go_roundw
        all_goals first
          | (show _ < _; simp [intOf]; omega)
          | (refine ⟨k + 1, stepRegs rs os ⟨op, dst, sa, sb, sc, sn⟩ (rr.map Rw.xs), stepOuts rs os ⟨op, dst, sa, sb, sc, sn⟩ (rr.map Rw.xs), some ⟨g1, 0, none⟩, some ⟨g2, 0, none⟩, d1, d2, by omega, by go_num, HSN.out.symm, (by first | (go_simp; done) | assumption), (by first | (go_simp; done) | assumption), (by first | (go_simp; done) | assumption), (by first | (go_simp; done) | assumption), (ho1.later (by (repeat (first | with_reducible exact Kp.refl _ _ | (with_reducible refine Kp.rng ?_ (by assumption) ?_) | (with_reducible refine Kp.below ?_ (by assumption)) | (with_reducible refine Kp.grown ?_ (by assumption) ?_) | (with_reducible refine Kp.alloc ?_ _) | (with_reducible refine Kp.drew ?_) | (with_reducible refine Kp.drewN ?_ _) | (with_reducible refine Kp.setCell ?_ _ ?_))) <;> (first | omega | (simp; done) | (simp; omega)))).rd, (ho2.lo (by first | omega | (simp; done) | (simp; omega))).later (by (repeat (first | with_reducible exact Kp.refl _ _ | (with_reducible refine Kp.rng ?_ (by assumption) ?_) | (with_reducible refine Kp.below ?_ (by assumption)) | (with_reducible refine Kp.grown ?_ (by assumption) ?_) | (with_reducible refine Kp.alloc ?_ _) | (with_reducible refine Kp.drew ?_) | (with_reducible refine Kp.drewN ?_ _) | (with_reducible refine Kp.setCell ?_ _ ?_))) <;> (first | omega | (simp; done) | (simp; omega))), ?_, ?_, (by (repeat (first | with_reducible exact Below.refl _ _ | (with_reducible refine bel_next ?_ ?_ (by assumption)) | (with_reducible refine Below.alloc ?_ ?_ _) | (with_reducible refine Below.drew ?_) | (with_reducible refine below_drewN ?_ _) | (with_reducible refine Below.setCell ?_ ?_ _))) <;> (first | omega | (simp; done) | (simp; omega))), by first | omega | (simp [World.setCell]; omega)⟩ <;> (intro a h; obtain rfl : _ = a := Option.some.inj h; simp; omega))
      · have HK : Hid (os = runOuts us (rr.map Rw.xs) true) := by
          show _ = _
          have := HF.out
          rw [List.take_of_length_le (by omega)] at this
          simp [runOuts, runOk, HIN.out, ← this]
        go_wp2_with fail
        go_ret2
        refine ⟨a2, e2, (by rw [← HK.out]; rfl), ?_, (by (repeat (first | with_reducible exact Below.refl _ _ | (with_reducible refine bel_next ?_ ?_ (by assumption)) | (with_reducible refine Below.alloc ?_ ?_ _) | (with_reducible refine Below.drew ?_) | (with_reducible refine below_drewN ?_ _) | (with_reducible refine Below.setCell ?_ ?_ _))) <;> (first | omega | (simp; done) | (simp; omega)))⟩
        rw [← HK.out]
        exact (H2.out.lo (by omega))

end Go.Proofs.Ytfcijloiebnloaa

/- InputBits -/
namespace Go.Proofs.Ytfcijloiebnloaa
open Go.RowKit

def bitI (x : Int) (b : Nat) : Int := x / 2 ^ b % 2
def bitsT (xss : List (List Int)) (t : Nat) : List Int := (List.range t).map fun i => bitI ((xss.getD (i / 16) []).getD (i / 4 % 4) 0) (i % 4)
theorem bit_and {x : Int} {k : Nat} (h0 : 0 ≤ x) (h1 : x ≤ 15) (hk : k < 4) : bits BinOp.and IntKind.i64 (x / 2 ^ k) 1 = bitI x k := by
  have H : ∀ (a : Fin 16) (b : Fin 4), bits BinOp.and IntKind.i64 ((a.1 : Int) / 2 ^ b.1) 1 = bitI a.1 b.1 := by decide
  have := H ⟨x.toNat, by omega⟩ ⟨k, hk⟩
  have e : (x.toNat : Int) = x := by omega
  simpa [e] using this
theorem bitsT_length (xss : List (List Int)) (t : Nat) : (bitsT xss t).length = t := by simp [bitsT]
theorem bitsT_succ (xss : List (List Int)) (p n b : Nat) (hn : n < 4) (hb : b < 4) :
    bitsT xss (16 * p + 4 * n + b + 1) = bitsT xss (16 * p + 4 * n + b) ++ [bitI ((xss.getD p []).getD n 0) b] := by
  have e1 : (16 * p + 4 * n + b) / 16 = p := by omega
  have e2 : (16 * p + 4 * n + b) / 4 % 4 = n := by omega
  have e3 : (16 * p + 4 * n + b) % 4 = b := by omega
  simp only [bitsT, List.range_succ, List.map_append, List.map_cons, List.map_nil, e1, e2, e3]
def inputBits (xss : List (List Int)) : List Int := if inputsOk xss = true then bitsT xss 80 else []
theorem inputsOk_parts {rs : List Rw} (h : inputsOk (rs.map Rw.xs) = true) : rs.length = 5 ∧ ∀ r ∈ rs, r.xs.length = 4 ∧ ∀ x ∈ r.xs, 0 ≤ x ∧ x ≤ 15 := by
  simp only [inputsOk, Bool.and_eq_true, beq_iff_eq, rowsOk, List.all_eq_true, List.length_map] at h
  refine ⟨by omega, fun r hr => ?_⟩
  have := h.1 r.xs (List.mem_map_of_mem hr)
  simp only [rowOk, Bool.and_eq_true, beq_iff_eq] at this
  exact ⟨by omega, allB_iff.1 this.2⟩

set_option maxRecDepth 20000 in
set_option maxHeartbeats 4000000 in
theorem iInputBits_any (rs : List Rw) (ad : Option Addr) (cp : Nat) (w : World) (hm : rs.length ≤ maxLen) (hml : rowsLe rs) (hr : RdR w ad rs) :
    Calls Try.prog 90 #[.slice ad rs.length cp] w fun e w' => ∃ a' c', e = .returned (.slice a' (inputBits (rs.map Rw.xs)).length c') ∧
      Own w' w.heap.size 3 1 a' (inputBits (rs.map Rw.xs)).length c' (I64 (inputBits (rs.map Rw.xs))) ∧ Below w.heap.size w w' := by
  have hc := iInputsOk_any rs ad cp w hm hml hr
  obtain ⟨i0, hi, hz0, hz1, hz2⟩ := info_parts info_int
  cases hok : inputsOk (rs.map Rw.xs)
  · rw [hok] at hc
    have e : inputBits (rs.map Rw.xs) = [] := by simp [inputBits, hok]
    rw [e]
    clear hml hr hm e
    go_enter Try.func90, Try.ntmps90
    go_wp2_with fail
    refine hc.mono ?_
    rintro e w' ⟨rfl, rfl⟩
    go_wp2_with fail
    go_ret
    exact ⟨_, _, rfl, Own.nil _ _ _ _, Below.refl _ _⟩
  · rw [hok] at hc
    have e : inputBits (rs.map Rw.xs) = bitsT (rs.map Rw.xs) 80 := by simp [inputBits, hok]
    rw [e]
    obtain ⟨h5, hrows⟩ := inputsOk_parts hok
    clear hml hm e hok
    obtain ⟨xss, hX⟩ : ∃ xss, xss = rs.map Rw.xs := ⟨_, rfl⟩
    rw [← hX]
    have hx : ∀ k (h : k < rs.length), rs[k].xs = xss.getD k [] := by intro k h; rw [hX]; simp [h]
    clear hX
    have H5 := Lib.hid h5
    have HX := Lib.hid hx
    have HR := Lib.hid hrows
    have l5 : rs.length ≤ 5 := by omega
    have g5 : 5 ≤ rs.length := by omega
    clear h5 hx hrows
    go_enter Try.func90, Try.ntmps90
    go_wp2_with fail
    refine hc.mono ?_
    clear hc
    rintro e w' ⟨rfl, rfl⟩
    go_wp2_with fail
    have hr0 : RdR (w.alloc (.cells #[] 3)) ad rs := hr.below ((Below.refl _ _).alloc (Nat.le_refl _) _)
    go_loopw [3, 15] (fun v i wr => ∃ (p : Nat) (a' : Option Addr) (c' : Nat), p ≤ 5 ∧ i = .int .i64 p ∧ v = .slice a' (16 * p) c' ∧
        Own wr w.heap.size 3 1 a' (16 * p) c' (I64 (bitsT xss (16 * p))) ∧ Below w.heap.size w wr) (fun _ i _ => 5 - (intOf i).toNat)
    case atStart =>
      refine ⟨0, _, _, by omega, rfl, rfl, ?_, (Below.refl _ _).alloc (Nat.le_refl _) _⟩
      exact World.ownsRow_lit w #[] 0 (Nat.le_refl _) (by simp [maxLen]) rfl
    case round =>
      obtain ⟨p, a', c', hp, rfl, rfl, hown, hbw⟩ := hrel
      by_cases hlt : p < 5
      · obtain ⟨b, off, rfl, hcell0, hrk⟩ := hr.at p (by omega)
        obtain ⟨hl4, hall⟩ := HR.out _ (List.getElem_mem (by omega : p < rs.length))
        have hxp := HX.out p (by omega)
        obtain ⟨ra, rc, rx, hcell, hrk1, HL4, HXP, HA⟩ : ∃ (ra : Option Addr) (rc : Nat) (rx : List Int), wr.cell? ⟨b, off + p, none⟩ = some (Value.slice ra 4 rc) ∧ RdC w ra (I64 rx) ∧ Hid (rx.length = 4) ∧ Hid (rx = xss.getD p []) ∧ Hid (∀ x ∈ rx, 0 ≤ x ∧ x ≤ 15) :=
          ⟨_, _, _, (hbw.cell (lt_of_cell hcell0)).trans (by rw [hcell0, Rw.val, hl4]), hrk, hl4, hxp, hall⟩
        clear hcell0 hr hr0 hl4 hxp hall hrk
        have hlr : (p : Int) < (rs.length : Int) := by omega
        go_wp2_with fail
        go_loopw [3, 21] (fun v i wi => ∃ (n : Nat) (a' : Option Addr) (c' : Nat), n ≤ 4 ∧ i = .int .i64 n ∧ v = .slice a' (16 * p + 4 * n) c' ∧
          Own wi w.heap.size 3 1 a' (16 * p + 4 * n) c' (I64 (bitsT xss (16 * p + 4 * n))) ∧ Below w.heap.size w wi) (fun _ i _ => 4 - (intOf i).toNat)
        case atStart => exact ⟨0, a', c', by omega, rfl, rfl, hown, hbw⟩
        case round =>
          obtain ⟨n, a2, c2, hn, rfl, rfl, hown2, hbw2⟩ := hrel
          by_cases hnt : n < 4
          · obtain ⟨b2, off2, rfl, hcell2⟩ := hrk1.at n (by have := HL4.out; omega)
            have hvc : wr.cell? ⟨b2, off2 + n, none⟩ = some (.int .i64 (rx[n]'(by have := HL4.out; omega))) := (hbw2.cell (lt_of_cell (hcell2 n (by have := HL4.out; omega)))).trans (hcell2 n (by have := HL4.out; omega))
            have hxv : rx[n]'(by have := HL4.out; omega) = (xss.getD p []).getD n 0 := by
              rw [← HXP.out]; simp [HL4.out, hnt]
            have hv := HA.out _ (List.getElem_mem (by have := HL4.out; omega : n < rx.length))
            generalize rx[n]'(by have := HL4.out; omega) = x at *
            obtain ⟨v0, v1⟩ := hv
            have HXV := Lib.hid hxv
            clear hcell2 hxv hcell hrk1 hown hbw
            have hdn : decide ((n : Int) < 4) = true := decide_eq_true (by omega)
            go_wp2_with fail
            (try rw [hdn])
            go_loopw [3, 8] (fun v i wi => ∃ (b : Nat) (a' : Option Addr) (c' : Nat), b ≤ 4 ∧ i = .int .i64 b ∧ v = .slice a' (16 * p + 4 * n + b) c' ∧
              Own wi w.heap.size 3 1 a' (16 * p + 4 * n + b) c' (I64 (bitsT xss (16 * p + 4 * n + b))) ∧ Below w.heap.size w wi) (fun _ i _ => 4 - (intOf i).toNat)
            case atStart => exact ⟨0, a2, c2, by omega, rfl, rfl, hown2, hbw2⟩
            case round =>
              obtain ⟨k, a3, c3, hk, rfl, rfl, hown3, hbw3⟩ := hrel
              by_cases hkt : k < 4
              · go_wp2_with (at_builtin; refine wpList_app1 _ (by rfl) _ _ (by rfl) w.heap.size _ _ _ _ (bitI x k) _ 1 (by rfl) (by rfl) (hown3.alloc _) ?c1 (by omega) (by have := hbw3.size; simp; omega) ?c2)
                case c1 => clear hvc; (try go_simp); (try simp); exact bit_and v0 v1 hkt
                intro gg cap w1 hown1 hb1 hgrow
                have R : Hid (Own w1 w.heap.size 3 1 (some ⟨gg, 0, none⟩) (16 * p + 4 * n + (k + 1)) cap (I64 (bitsT xss (16 * p + 4 * n + (k + 1)))) ∧ Below w.heap.size w w1) := by
                  refine ⟨?_, (hbw3.alloc hbw3.size _).trans hb1⟩
                  have e := bitsT_succ xss p n k hnt hkt
                  rw [← HXV.out] at e
                  rw [show 16 * p + 4 * n + (k + 1) = 16 * p + 4 * n + k + 1 from rfl, e]
                  exact hown1
                clear hown1 hb1 hgrow hown3 hbw3 hown2 hbw2 hvc
                go_wp2_with fail
                go_roundw
                case rel => exact ⟨k + 1, _, _, by omega, by go_num, rfl, R.out.1, R.out.2⟩
                case measure => simp [intOf]; omega
              · have hk4 : k = 4 := by omega
                subst hk4
                have R : Hid (Own wr w.heap.size 3 1 a3 (16 * p + 4 * (n + 1)) c3 (I64 (bitsT xss (16 * p + 4 * (n + 1)))) ∧ Below w.heap.size w wr) := ⟨hown3, hbw3⟩
                clear hown3 hbw3 hown2 hbw2 hvc
                go_wp2_with fail
                go_roundw
                case rel => exact ⟨n + 1, a3, c3, by omega, by go_num, rfl, R.out.1, R.out.2⟩
                case measure => simp [intOf]; omega
          · have hn4 : n = 4 := by omega
            subst hn4
            have R : Hid (Own wr w.heap.size 3 1 a2 (16 * (p + 1)) c2 (I64 (bitsT xss (16 * (p + 1)))) ∧ Below w.heap.size w wr) := ⟨hown2, hbw2⟩
            clear hown2 hbw2 hown hbw hcell
            go_wp2_with fail
            go_roundw
            case rel => exact ⟨p + 1, a2, c2, by omega, by go_num, rfl, R.out.1, R.out.2⟩
            case measure => simp [intOf]; omega
      · have hp5 : p = 5 := by omega
        subst hp5
        have R : Hid (Own wr w.heap.size 3 1 a' (bitsT xss 80).length c' (I64 (bitsT xss 80)) ∧ Below w.heap.size w wr) := by
          rw [bitsT_length]; exact ⟨hown, hbw⟩
        have RL := Lib.hid (bitsT_length xss 80)
        clear hown hbw hr hr0
        go_wp2_with fail
        go_ret
        exact ⟨a', c', by rw [RL.out]; rfl, R.out.1, R.out.2⟩

end Go.Proofs.Ytfcijloiebnloaa

/- WordsOf -/
namespace Go.Proofs.Ytfcijloiebnloaa
open Go.RowKit

def words : List Int → List Int
  | a :: b :: c :: d :: r => (a + 2 * b + 4 * c + 8 * d) :: words r
  | _ => []
def wordsOf (xs : List Int) : List Int := if xs.length % 4 = 0 ∧ allB xs 0 1 = true then words xs else []

theorem words_len (xs : List Int) : 4 * (words xs).length ≤ xs.length := by
  match xs with
  | a :: b :: c :: d :: r => have := words_len r; simp [words]; omega
  | [] => simp [words]
  | [_] => simp [words]
  | [_, _] => simp [words]
  | [_, _, _] => simp [words]

theorem words_step (xs : List Int) (j : Nat) (h : 4 * j + 3 < xs.length) :
    words (xs.take (4 * (j + 1))) = words (xs.take (4 * j)) ++ [xs[4 * j] + 2 * xs[4 * j + 1] + 4 * xs[4 * j + 2] + 8 * xs[4 * j + 3]] := by
  induction j generalizing xs with
  | zero =>
    match xs, h with
    | a :: b :: c :: d :: r, _ => simp [words]
  | succ j ih =>
    match xs, h with
    | a :: b :: c :: d :: r, h =>
      have h' : 4 * j + 3 < r.length := by simp at h; omega
      have := ih r h'
      simp only [show 4 * (j + 1 + 1) = 4 * (j + 1) + 4 by omega, show 4 * (j + 1) = 4 * j + 4 by omega, List.take_succ_cons, words, List.cons_append] at this ⊢
      rw [this]
      simp [List.getElem_cons_succ]

theorem words_full (xs : List Int) (j : Nat) (h : xs.length ≤ 4 * j) : words (xs.take (4 * j)) = words xs := by rw [List.take_of_length_le h]

theorem words_take_len (xs : List Int) (j : Nat) (h : 4 * j ≤ xs.length) : (words (xs.take (4 * j))).length = j := by
  induction j generalizing xs with
  | zero => simp [words]
  | succ j ih =>
    match xs, h with
    | a :: b :: c :: d :: r, h =>
      have h' : 4 * j ≤ r.length := by simp at h; omega
      have := ih r h'
      simp only [show 4 * (j + 1) = 4 * j + 4 by omega, List.take_succ_cons, words, List.length_cons, this]

theorem words_stepq (xs : List Int) (q : Nat) (hq : q % 4 = 0) (h : q + 3 < xs.length) :
    words (xs.take (q + 4)) = words (xs.take q) ++ [xs[q] + 2 * xs[q + 1] + 4 * xs[q + 2] + 8 * xs[q + 3]] := by
  obtain ⟨j, rfl⟩ : ∃ j, q = 4 * j := ⟨q / 4, by omega⟩
  exact words_step xs j h
theorem words_takeq (xs : List Int) (q : Nat) (hq : q % 4 = 0) (h : q ≤ xs.length) : 4 * (words (xs.take q)).length = q := by
  obtain ⟨j, rfl⟩ : ∃ j, q = 4 * j := ⟨q / 4, by omega⟩
  rw [words_take_len xs j h]

set_option maxHeartbeats 1000000 in
theorem iWordsOf_any (xs : List Int) (ad : Option Addr) (c : Nat) (w : World) (hm : xs.length ≤ 1048576) (hr : RdC w ad (I64 xs)) :
    Calls Try.prog 91 #[.slice ad xs.length c] w fun e w' => ∃ a' c', e = .returned (.slice a' (wordsOf xs).length c') ∧
      Own w' w.heap.size 3 1 a' (wordsOf xs).length c' (I64 (wordsOf xs)) ∧ Below w.heap.size w w' := by
  obtain ⟨i0, hi, hz0, hz1, hz2⟩ := info_parts info_int
  by_cases h4 : xs.length % 4 = 0
  · cases hall : allB xs 0 1
    · have hwf : wordsOf xs = [] := by unfold wordsOf; rw [if_neg (fun h => by simp [hall] at h)]
      rw [hwf]
      have t1 : (((xs.length : Int) % 4) != 0) = false := by simp; omega
      clear h4
      go_enter Try.func91, Try.ntmps91
      go_wp2_with (go_at_call 115; refine (areBits_any xs _ _ _ (by unfold maxLen; omega) hr).mono ?_; rintro e w' ⟨rfl, rfl⟩)
      go_ret
      exact ⟨none, 0, rfl, Own.nil _ _ _ _, Below.refl _ _⟩
    · have hwf : wordsOf xs = words xs := by unfold wordsOf; rw [if_pos ⟨h4, hall⟩]
      rw [hwf]
      have t1 : (((xs.length : Int) % 4) != 0) = false := by simp; omega
      go_enter Try.func91, Try.ntmps91
      go_wp2_with (go_at_call 115; refine (areBits_any xs _ _ _ (by unfold maxLen; omega) hr).mono ?_; rintro e w' ⟨rfl, rfl⟩)
      have hB := allB_iff.1 hall
      have hr0 : RdC (w.alloc (.cells #[] 3)) ad (I64 xs) := hr.below ((Below.refl _ _).alloc (Nat.le_refl _) _)
      have H4 := Lib.hid h4
      clear h4 hall t1
      go_loopw [3, 4] (fun v i wr => ∃ (q : Nat) (a' : Option Addr) (c' : Nat), q % 4 = 0 ∧ q ≤ xs.length ∧ i = .int .i64 q ∧ v = .slice a' (words (xs.take q)).length c' ∧
        Own wr w.heap.size 3 1 a' (words (xs.take q)).length c' (I64 (words (xs.take q))) ∧ Below w.heap.size w wr) (fun _ i _ => xs.length - (intOf i).toNat)
      case atStart =>
        refine ⟨0, _, _, by omega, Nat.zero_le _, rfl, rfl, ?_, (Below.refl _ _).alloc (Nat.le_refl _) _⟩
        exact World.ownsRow_lit w #[] 0 (Nat.le_refl _) (by simp [maxLen]) rfl
      case round =>
        obtain ⟨q, a', c', hq4, hq, rfl, rfl, hown, hbw⟩ := hrel
        have HQ := Lib.hid hq4
        by_cases hlt : q < xs.length
        · have h3 : q + 3 < xs.length := by have := H4.out; omega
          obtain ⟨b, off, rfl, hcell0⟩ := hr.at q hlt
          have hlb : b < w.heap.size := lt_of_cell (hcell0 q hlt)
          have hcell : ∀ i (h : i < xs.length), wr.cell? ⟨b, off + i, none⟩ = some (.int .i64 xs[i]) := fun i h => (hbw.cell (p := ⟨b, off + i, none⟩) hlb).trans (hcell0 i h)
          clear hcell0
          have hws := Lib.hid (words_stepq xs q hq4 h3)
          have hwl := Lib.hid (words_takeq xs q hq4 hq)
          have hc0 := hcell q (by omega)
          have hc1 := hcell (q + 1) (by omega)
          have hc2 := hcell (q + 2) (by omega)
          have hc3 := hcell (q + 3) (by omega)
          obtain ⟨b00, b01⟩ := hB xs[q] (List.getElem_mem _)
          obtain ⟨b10, b11⟩ := hB xs[q + 1] (List.getElem_mem _)
          obtain ⟨b20, b21⟩ := hB xs[q + 2] (List.getElem_mem _)
          obtain ⟨b30, b31⟩ := hB xs[q + 3] (List.getElem_mem _)
          generalize xs[q] = x0 at *
          generalize xs[q + 1] = x1 at *
          generalize xs[q + 2] = x2 at *
          generalize xs[q + 3] = x3 at *
          clear hcell hB hr hr0 hq4
          have q1 : IntKind.i64.wrap ((q : Int) + 1) = q + 1 := wrap_i64_id (by omega) (by omega)
          have q2 : IntKind.i64.wrap ((q : Int) + 2) = q + 2 := wrap_i64_id (by omega) (by omega)
          have q3 : IntKind.i64.wrap ((q : Int) + 3) = q + 3 := wrap_i64_id (by omega) (by omega)
          have p1 : (0 : Int) ≤ (q : Int) + 1 := by omega
          have p2 : (0 : Int) ≤ (q : Int) + 2 := by omega
          have p3 : (0 : Int) ≤ (q : Int) + 3 := by omega
          have l1 : (q : Int) + 1 < (xs.length : Int) := by omega
          have l2 : (q : Int) + 2 < (xs.length : Int) := by omega
          have l3 : (q : Int) + 3 < (xs.length : Int) := by omega
          have n1 : ((q : Int) + 1).toNat = q + 1 := by omega
          have n2 : ((q : Int) + 2).toNat = q + 2 := by omega
          have n3 : ((q : Int) + 3).toNat = q + 3 := by omega
          have m1 : IntKind.i64.wrap (2 * x1) = 2 * x1 := wrap_i64_id (by omega) (by omega)
          have m2 : IntKind.i64.wrap (4 * x2) = 4 * x2 := wrap_i64_id (by omega) (by omega)
          have m3 : IntKind.i64.wrap (8 * x3) = 8 * x3 := wrap_i64_id (by omega) (by omega)
          have s1 : IntKind.i64.wrap (x0 + 2 * x1) = x0 + 2 * x1 := wrap_i64_id (by omega) (by omega)
          have s2 : IntKind.i64.wrap (x0 + 2 * x1 + 4 * x2) = x0 + 2 * x1 + 4 * x2 := wrap_i64_id (by omega) (by omega)
          have s3 : IntKind.i64.wrap (x0 + 2 * x1 + 4 * x2 + 8 * x3) = x0 + 2 * x1 + 4 * x2 + 8 * x3 := wrap_i64_id (by omega) (by omega)
          go_wp2_with fail
          go_region_held3 (fun w' => w'.cell? ⟨b, off + q, none⟩ = some (.int .i64 x0) ∧ w'.cell? ⟨b, off + (q + 1), none⟩ = some (.int .i64 x1) ∧ w'.cell? ⟨b, off + (q + 2), none⟩ = some (.int .i64 x2) ∧ w'.cell? ⟨b, off + (q + 3), none⟩ = some (.int .i64 x3))
            (first | go_keep | (go_split_ands; refine ⟨?_, ?_, ?_, ?_⟩ <;> (rw [hb1.cell (by exact hlb)]; assumption)))
            ((refine step_app1 _ (by rfl) _ _ (by rfl) w.heap.size _ _ _ (words (xs.take q)) (x0 + 2 * x1 + 4 * x2 + 8 * x3) wr.heap.size 1 (by rfl) (by rfl) ((hown.alloc _).drew) (by simp) (by have := hwl.out; omega) (by have := hbw.size; simp; omega) ?_; intro gg cap w1 hown1 hb1 hgrow))
          clear q1 q2 q3 n1 n2 n3 m1 m2 m3 s1 s2 s3
          have R : Hid (Own w1 w.heap.size 3 1 (some ⟨gg, 0, none⟩) (words (xs.take (q + 4))).length cap (I64 (words (xs.take (q + 4)))) ∧ Below w.heap.size w w1) := by
            refine ⟨?_, (hbw.alloc hbw.size _).drew.trans hb1⟩
            rw [hws.out]; simpa using hown1
          have RL : Hid ((words (xs.take q)).length + 1 = (words (xs.take (q + 4))).length) := by show _ = _; rw [hws.out]; simp
          clear hown1 hb1 hgrow hown hbw hc0 hc1 hc2 hc3
          go_wp2_with fail
          go_roundw
          case rel => exact ⟨q + 4, _, _, by have := HQ.out; omega, by omega, by go_num, by rw [RL.out], R.out.1, R.out.2⟩
          case measure => simp [intOf]; omega
        · have e : words (xs.take q) = words xs := by rw [List.take_of_length_le (by omega)]
          rw [e] at hown
          have H := Lib.hid (And.intro hown hbw)
          have E := Lib.hid e
          clear hown hbw e hr0 hr hB
          go_wp2_with fail
          go_ret
          exact ⟨a', c', (by rw [E.out]; rfl), H.out.1, H.out.2⟩
  · have hwf : wordsOf xs = [] := by unfold wordsOf; rw [if_neg (fun h => h4 h.1)]
    rw [hwf]
    have t1 : (((xs.length : Int) % 4) != 0) = true := by simp; omega
    clear h4
    go_enter Try.func91, Try.ntmps91
    go_wp2_with fail
    go_ret
    exact ⟨none, 0, rfl, Own.nil _ _ _ _, Below.refl _ _⟩
end Go.Proofs.Ytfcijloiebnloaa

/- CmpR -/
namespace Go.Proofs.Ytfcijloiebnloaa
open Go.RowKit
set_option linter.unusedVariables false
set_option linter.unusedSimpArgs false

theorem words_app4 : ∀ (xs ys : List Int), xs.length % 4 = 0 → words (xs ++ ys) = words xs ++ words ys
  | a :: b :: c :: d :: r, ys, h => by
    have := words_app4 r ys (by simp at h; omega)
    simp [words, this]
  | [], ys, _ => by simp [words]
  | [_], _, h => by simp at h
  | [_, _], _, h => by simp at h
  | [_, _, _], _, h => by simp at h
theorem and_bits : ∀ a b c d e f g h : Fin 2, bits BinOp.and IntKind.i64 ((a.1 : Int) + 2 * b.1 + 4 * c.1 + 8 * d.1) ((e.1 : Int) + 2 * f.1 + 4 * g.1 + 8 * h.1) = andI a.1 e.1 + 2 * andI b.1 f.1 + 4 * andI c.1 g.1 + 8 * andI d.1 h.1 := by decide
theorem xor_bits : ∀ a b c d e f g h : Fin 2, bits BinOp.xor IntKind.i64 ((a.1 : Int) + 2 * b.1 + 4 * c.1 + 8 * d.1) ((e.1 : Int) + 2 * f.1 + 4 * g.1 + 8 * h.1) = xorI a.1 e.1 + 2 * xorI b.1 f.1 + 4 * xorI c.1 g.1 + 8 * xorI d.1 h.1 := by decide
theorem fin2 {x : Int} (h : x = 0 ∨ x = 1) : ∃ a : Fin 2, x = (a.1 : Int) := by
  rcases h with rfl | rfl
  · exact ⟨0, rfl⟩
  · exact ⟨1, rfl⟩
theorem at0_bitsT (xss : List (List Int)) (i : Nat) (hi : i < 80) : at0 (bitsT xss 80) (i : Int) = bitI ((xss.getD (i / 16) []).getD (i / 4 % 4) 0) (i % 4) := by
  rw [at0_nat]; simp [bitsT, List.getD, hi]
/-- The word of a statement is the value that the interpreter gives its register. -/
theorem stG_val {gs : List Gt} {regs : List (List Int)} {zero : Int} {s : St} {rs : List Int} {xss : List (List Int)} (hok : gtsOk 0 gs = true) (hr : ∀ i : Nat, i < 8 → Wrs gs 4 (rgA regs (i : Int))) (hz : 0 ≤ zero ∧ zero < gs.length) (hs : StC s)
    (hv : ∀ i : Nat, i < 8 → rgd rs (i : Int) = wordV (bitsT xss 80) gs (rgA regs (i : Int))) (hb : allB (bitsT xss 80) 0 1 = true) (hz0 : vw (bitsT xss 80) gs zero = 0) (hx : ∀ a n : Nat, a < 5 → n < 4 → 0 ≤ (xss.getD a []).getD n 0 ∧ (xss.getD a []).getD n 0 ≤ 15) :
    wordV (bitsT xss 80) (stG regs zero s gs).1 (stG regs zero s gs).2 = stepVal s rs xss := by
  obtain ⟨bs, hbs⟩ : ∃ x, x = bitsT xss 80 := ⟨_, rfl⟩
  have HBS := Lib.hid hbs
  rw [← hbs] at hv hb hz0 ⊢
  clear hbs
  obtain ⟨op, dst, sa, sb, sc, sn⟩ := s
  have ha := hs.a
  have hb' := hs.b
  have hc := hs.c
  have h1 := hs.o1
  have h2 := hs.o2
  have hi := hs.i
  have hk := hs.k
  clear hs
  simp only at ha hb' hc h1 h2 hi hk
  obtain ⟨na, rfl⟩ := Int.eq_ofNat_of_zero_le ha.1
  obtain ⟨nb, rfl⟩ := Int.eq_ofNat_of_zero_le hb'.1
  obtain ⟨nc, rfl⟩ := Int.eq_ofNat_of_zero_le hc.1
  have wx := hr na (by omega)
  have wy := hr nb (by omega)
  have wz := hr nc (by omega)
  have vx := hv na (by omega)
  have vy := hv nb (by omega)
  have vz := hv nc (by omega)
  have bx := wordV_b hok hb (rgA regs (na : Int))
  have by' := wordV_b hok hb (rgA regs (nb : Int))
  have q := fun z => (Bd.refl hok).bit hb z
  have one : ∀ {G : List Gt} {x : Int}, Bd gs 34 G → wordV bs G [x, zero, zero, zero] = vw bs G x := fun {G x} b => by
    have e0 : vw bs G zero = 0 := by rw [b.v hz.1 hz.2]; exact hz0
    simp only [wordV, at0_nat, List.getD_cons_zero, List.getD_cons_succ, e0]; omega
  have hop : op = 1 ∨ op = 2 ∨ op = 3 ∨ op = 4 ∨ op = 5 ∨ op = 6 ∨ op = 7 ∨ op = 8 ∨ op = 9 ∨ op = 10 := by omega
  have opF : ∀ o : Int, 3 ≤ o → o ≤ 9 → stepVal ⟨o, dst, na, nb, nc, sn⟩ rs xss = operF o (rgd rs (na : Int)) (rgd rs (nb : Int)) := fun o h3 h9 => by
    simp only [stepVal, operateF]
    rw [if_neg (by omega), if_neg (by omega), if_neg (by omega), vx, vy, inB_iff.2 bx, inB_iff.2 by']; rfl
  rcases hop with rfl | rfl | rfl | rfl | rfl | rfl | rfl | rfl | rfl | rfl
  · have r := (constP_inv (n := sn) hok).2.2 bs hb
    have h := hk rfl
    show wordV bs (constP sn gs).1 (constP sn gs).2 = sn
    unfold wordV
    rw [r 0 (by omega), r 1 (by omega), r 2 (by omega), r 3 (by omega)]
    simp only [Nat.reducePow, Int.reducePow, Int.pow_zero]
    omega
  · have h := hi rfl
    obtain ⟨nn, rfl⟩ := Int.eq_ofNat_of_zero_le h.2.1
    have r := (inputP_inv (gs := gs) (m := (na : Int) * 4 + nn) hok (by omega) (by omega)).2.2 bs hb
    show wordV bs (inputP ((na : Int) * 4 + nn) gs).1 (inputP ((na : Int) * 4 + nn) gs).2 = (xss.getD na []).getD nn 0
    have hxx := hx na nn (by omega) (by omega)
    have e : ∀ j : Nat, j < 4 → at0 bs (((na : Int) * 4 + nn) * 4 + j) = bitI ((xss.getD na []).getD nn 0) j := fun j hj => by
      have := at0_bitsT xss (16 * na + 4 * nn + j) (by omega)
      rw [show (16 * na + 4 * nn + j) / 16 = na by omega, show (16 * na + 4 * nn + j) / 4 % 4 = nn by omega, show (16 * na + 4 * nn + j) % 4 = j by omega] at this
      rw [HBS.out, ← this]; congr 1; omega
    unfold wordV
    rw [r 0 (by omega), r 1 (by omega), r 2 (by omega), r 3 (by omega), e 0 (by omega), e 1 (by omega), e 2 (by omega), e 3 (by omega)]
    simp only [bitI, Nat.reducePow, Int.reducePow, Int.pow_zero]
    omega
  · rw [opF 3 (by omega) (by omega), vx, vy]
    show wordV bs (sumP _ _ 0 3 gs).1 (sumP _ _ 0 3 gs).2 = _
    rw [add_val hok wx wy (by omega) hb]; simp [operF]
  · rw [opF 4 (by omega) (by omega), vx, vy]
    have r := (sub_val hok wx wy).2.2 bs hb
    refine (show wordV bs (stG regs zero ⟨4, dst, na, nb, nc, sn⟩ gs).1 (stG regs zero ⟨4, dst, na, nb, nc, sn⟩ gs).2 = _ from r).trans ?_
    show (_ - _ + 16) % 16 = (_ - _) % 16
    omega
  · rw [opF 5 (by omega) (by omega), vx, vy]
    have r := (mul_val hok wx wy).2.2 bs hb
    exact r
  · rw [opF 6 (by omega) (by omega), vx, vy]
    have r := (bitsP_inv (kd := 4) (.inr rfl) hok wx wy).2.2 bs hb
    have r0 := r 0 (by omega); have r1 := r 1 (by omega); have r2 := r 2 (by omega); have r3 := r 3 (by omega)
    show wordV bs (bitsP 4 _ _ gs).1 (bitsP 4 _ _ gs).2 = bits BinOp.and IntKind.i64 (wordV bs gs _) (wordV bs gs _)
    unfold wordV
    rw [r0, r1, r2, r3]
    obtain ⟨a0, e0⟩ := fin2 (q (at0 (rgA regs (na : Int)) (0 : Nat)))
    obtain ⟨a1, e1⟩ := fin2 (q (at0 (rgA regs (na : Int)) (1 : Nat)))
    obtain ⟨a2, e2⟩ := fin2 (q (at0 (rgA regs (na : Int)) (2 : Nat)))
    obtain ⟨a3, e3⟩ := fin2 (q (at0 (rgA regs (na : Int)) (3 : Nat)))
    obtain ⟨b0, f0⟩ := fin2 (q (at0 (rgA regs (nb : Int)) (0 : Nat)))
    obtain ⟨b1, f1⟩ := fin2 (q (at0 (rgA regs (nb : Int)) (1 : Nat)))
    obtain ⟨b2, f2⟩ := fin2 (q (at0 (rgA regs (nb : Int)) (2 : Nat)))
    obtain ⟨b3, f3⟩ := fin2 (q (at0 (rgA regs (nb : Int)) (3 : Nat)))
    rw [e0, e1, e2, e3, f0, f1, f2, f3]
    exact (and_bits a0 a1 a2 a3 b0 b1 b2 b3).symm
  · rw [opF 7 (by omega) (by omega), vx, vy]
    have r := (bitsP_inv (kd := 3) (.inl rfl) hok wx wy).2.2 bs hb
    have r0 := r 0 (by omega); have r1 := r 1 (by omega); have r2 := r 2 (by omega); have r3 := r 3 (by omega)
    show wordV bs (bitsP 3 _ _ gs).1 (bitsP 3 _ _ gs).2 = bits BinOp.xor IntKind.i64 (wordV bs gs _) (wordV bs gs _)
    unfold wordV
    rw [r0, r1, r2, r3]
    obtain ⟨a0, e0⟩ := fin2 (q (at0 (rgA regs (na : Int)) (0 : Nat)))
    obtain ⟨a1, e1⟩ := fin2 (q (at0 (rgA regs (na : Int)) (1 : Nat)))
    obtain ⟨a2, e2⟩ := fin2 (q (at0 (rgA regs (na : Int)) (2 : Nat)))
    obtain ⟨a3, e3⟩ := fin2 (q (at0 (rgA regs (na : Int)) (3 : Nat)))
    obtain ⟨b0, f0⟩ := fin2 (q (at0 (rgA regs (nb : Int)) (0 : Nat)))
    obtain ⟨b1, f1⟩ := fin2 (q (at0 (rgA regs (nb : Int)) (1 : Nat)))
    obtain ⟨b2, f2⟩ := fin2 (q (at0 (rgA regs (nb : Int)) (2 : Nat)))
    obtain ⟨b3, f3⟩ := fin2 (q (at0 (rgA regs (nb : Int)) (3 : Nat)))
    rw [e0, e1, e2, e3, f0, f1, f2, f3]
    exact (xor_bits a0 a1 a2 a3 b0 b1 b2 b3).symm
  · rw [opF 8 (by omega) (by omega), vx, vy]
    have r := less_val hok wx wy
    exact (one (r.1.mono (by omega))).trans (r.2.2 bs hb)
  · rw [opF 9 (by omega) (by omega), vx, vy]
    have r := equal_val hok wx wy
    exact (one (r.1.mono (by omega))).trans (r.2.2 bs hb)
  · have r := mux_val hok (wx.2 0 (by omega)) wy wz hb
    have h := bit_and bx.1 bx.2 (k := 0) (by omega)
    simp only [bitI, Int.pow_zero, Int.ediv_one] at h
    have h0 := q (at0 (rgA regs (na : Int)) (0 : Nat))
    have h1 := q (at0 (rgA regs (na : Int)) (1 : Nat))
    have h2 := q (at0 (rgA regs (na : Int)) (2 : Nat))
    have h3 := q (at0 (rgA regs (na : Int)) (3 : Nat))
    have hm : wordV bs gs (rgA regs (na : Int)) % 2 = vw bs gs (at0 (rgA regs (na : Int)) (0 : Nat)) := by unfold wordV; omega
    have e : stepVal ⟨10, dst, na, nb, nc, sn⟩ rs xss = if bits .and .i64 (rgd rs (na : Int)) 1 = 1 then rgd rs (nb : Int) else rgd rs (nc : Int) := rfl
    rw [e, vx, vy, vz, h, hm]
    exact r
theorem bitsT_b (xss : List (List Int)) (t : Nat) : allB (bitsT xss t) 0 1 = true := allB_iff.2 fun x hx => by
  simp only [bitsT, List.mem_map] at hx
  obtain ⟨i, _, rfl⟩ := hx
  unfold bitI; omega
theorem outsOf_up {gs h : List Gt} {m : Nat} (b : Bd gs m h) (bs : List Int) {O : List Int} (hO : ∀ o ∈ O, 0 ≤ o ∧ o < gs.length) : outsOf (evalW bs h) O = outsOf (evalW bs gs) O :=
  List.map_congr_left fun o ho => b.v (hO o ho).1 (hO o ho).2 bs
theorem words_four {bs : List Int} {gs : List Gt} {X : List Int} (h : X.length = 4) : words (outsOf (evalW bs gs) X) = [wordV bs gs X] := by
  obtain ⟨a, b, c, d, rfl⟩ : ∃ a b c d, X = [a, b, c, d] := by
    match X, h with
    | [a, b, c, d], _ => exact ⟨a, b, c, d, rfl⟩
  simp [outsOf, words, wordV, vw, at0]
theorem cmp_rel {us : List St} {xss : List (List Int)} (hu : ∀ s ∈ us, StU s) (hp : ∀ s ∈ us, plainB s = true) (hin : inputsOk xss = true) (hx : ∀ a n : Nat, a < 5 → n < 4 → 0 ≤ (xss.getD a []).getD n 0 ∧ (xss.getD a []).getD n 0 ≤ 15) : ∀ k, k ≤ us.length →
    (∀ i : Nat, i < 8 → rgd (runF (us.take k) xss).1 (i : Int) = wordV (bitsT xss 80) (cmpL zero0 (us.take k) cmp0).1 (rgA (cmpL zero0 (us.take k) cmp0).2.2 (i : Int))) ∧
    words (outsOf (evalW (bitsT xss 80) (cmpL zero0 (us.take k) cmp0).1) (cmpL zero0 (us.take k) cmp0).2.1) = (runF (us.take k) xss).2 ∧ (cmpL zero0 (us.take k) cmp0).2.1.length % 4 = 0 ∧
    vw (bitsT xss 80) (cmpL zero0 (us.take k) cmp0).1 zero0 = 0 ∧ allB (runF (us.take k) xss).2 0 15 = true := by
  have hb := bitsT_b xss 80
  intro k
  induction k with
  | zero =>
    intro _
    have r := (constP_inv (gs := []) (n := 0) rfl).2.2 (bitsT xss 80) hb
    refine ⟨fun i hi => ?_, rfl, rfl, ?_, rfl⟩
    · have e : rgA (cmpL zero0 (us.take 0) cmp0).2.2 (i : Int) = (constP 0 []).2 := by
        show (List.replicate 8 (constP 0 []).2).getD (i : Int).toNat [] = _
        rw [Int.toNat_natCast, List.getD_eq_getElem?_getD, List.getElem?_replicate, if_pos hi]; rfl
      rw [e]
      have e2 : rgd (runF (us.take 0) xss).1 (i : Int) = 0 := by
        show (List.replicate 8 (0 : Int)).getD (i : Int).toNat 0 = _
        rw [Int.toNat_natCast, List.getD_eq_getElem?_getD, List.getElem?_replicate, if_pos hi]; rfl
      rw [e2]
      show 0 = wordV (bitsT xss 80) (constP 0 []).1 (constP 0 []).2
      unfold wordV
      rw [r 0 (by omega), r 1 (by omega), r 2 (by omega), r 3 (by omega)]
      rfl
    · show vw (bitsT xss 80) (constP 0 []).1 (at0 (constP 0 []).2 (0 : Nat)) = 0
      rw [r 0 (by omega)]; rfl
  | succ k ih =>
    intro hk
    obtain ⟨h1, h2, h3, h4, h5⟩ := ih (by omega)
    have hg : us[k]? = some us[k] := List.getElem?_eq_getElem (by omega)
    have hm : us[k] ∈ us := List.getElem_mem (by omega)
    have hC := cmpL_ok hu k (by omega)
    have hl := runF_len us xss k
    have hsu := hu _ hm
    have hpl := hp _ hm
    rw [cmpL_snoc hg, runF_snoc hg]
    generalize us[k] = s at *
    generalize cmpL zero0 (us.take k) cmp0 = t at *
    generalize runF (us.take k) xss = p at *
    have hr15 : allB p.1 0 15 = true := allB_iff.2 fun x hxm => by
      obtain ⟨j, hj, e⟩ := List.mem_iff_getElem.1 hxm
      have := h1 j (by omega)
      simp [rgd, List.getD, hj, e] at this
      rw [this]; exact wordV_b hC.ok hb _
    have hB : stepB s p.1 p.2 xss = true := by
      simp only [stepB, stateOk, hr15, h5, hpl, hin, hl.1]; rfl
    unfold cmpStep stepRegs stepOuts
    rw [hB]
    by_cases ho : s.op = 11
    · rw [if_pos ho]
      have ha := hsu.out ho
      obtain ⟨na, hna⟩ := Int.eq_ofNat_of_zero_le ha.1
      have hw := hC.rw na (by omega)
      have hob : (s.op == 11) = true := by simp [ho]
      simp only [if_true, if_pos ho, hob, Bool.and_self]
      refine ⟨h1, ?_, ?_, h4, ?_⟩
      · rw [hna]
        have e : outsOf (evalW (bitsT xss 80) t.1) (t.2.1 ++ rgA t.2.2 (na : Int)) = outsOf (evalW (bitsT xss 80) t.1) t.2.1 ++ outsOf (evalW (bitsT xss 80) t.1) (rgA t.2.2 (na : Int)) := by simp [outsOf]
        rw [e, words_app4 _ _ (by simpa [outsOf] using h3), h2, words_four hw.1, h1 na (by omega)]
      · rw [hna, List.length_append, hw.1]; omega
      · rw [hna]
        exact allB_iff.2 fun x hxm => by
          rcases List.mem_append.1 hxm with h | h
          · exact allB_iff.1 h5 x h
          · simp at h; rw [h, h1 na (by omega)]; exact wordV_b hC.ok hb _
    · rw [if_neg ho]
      have hob : (s.op == 11) = false := by simp [ho]
      have r := stG_inv hC.ok hC.rw hC.z (hsu.st ho)
      have v := stG_val hC.ok hC.rw hC.z (hsu.st ho) h1 hb h4 hx
      simp only [if_true, if_neg ho, hob, Bool.and_false, Bool.false_eq_true, if_false]
      obtain ⟨nd, hnd⟩ := Int.eq_ofNat_of_zero_le hsu.dst.1
      refine ⟨fun i hi => ?_, by rw [outsOf_up r.1 _ hC.os]; exact h2, h3, by rw [r.1.v hC.z.1 hC.z.2]; exact h4, h5⟩
      rw [hnd]
      simp only [rgd, rgA, Int.toNat_natCast, List.getD, List.getElem?_set]
      by_cases hq : nd = i
      · subst hq
        have hl1 : nd < p.1.length := by omega
        have hl2 : nd < t.2.2.length := by rw [hC.rl]; omega
        simp only [if_true, hl1, hl2, Option.getD_some]
        exact v.symm
      · simp only [if_neg hq]
        have h := h1 i hi
        simp only [rgd, rgA, Int.toNat_natCast, List.getD] at h
        rw [h]
        have hw := hC.rw i hi
        simp only [rgA, Int.toNat_natCast, List.getD] at hw
        exact (wordV_up r.1 hw _).symm
theorem cmp_olen {us : List St} (hu : ∀ s ∈ us, StU s) : ∀ k, k ≤ us.length → (cmpL zero0 (us.take k) cmp0).2.1.length = 4 * ((us.take k).filter fun s => s.op == 11).length := by
  intro k
  induction k with
  | zero => intro _; rfl
  | succ k ih =>
    intro hk
    have hg : us[k]? = some us[k] := List.getElem?_eq_getElem (by omega)
    have hm : us[k] ∈ us := List.getElem_mem (by omega)
    have hC := cmpL_ok hu k (by omega)
    have h := ih (by omega)
    rw [cmpL_snoc hg, take_snoc hg, List.filter_append, List.length_append]
    have hsu := hu _ hm
    generalize us[k] = s at *
    generalize cmpL zero0 (us.take k) cmp0 = t at *
    unfold cmpStep
    by_cases ho : s.op = 11
    · have ha := hsu.out ho
      obtain ⟨na, hna⟩ := Int.eq_ofNat_of_zero_le ha.1
      have hw := hC.rw na (by omega)
      rw [if_pos ho]
      simp only [List.length_append, h, hna, hw.1]
      simp [ho]; omega
    · rw [if_neg ho]
      simp [h, ho]
/-- The circuit of a compiled program computes the program's outputs. -/
theorem cmp_runs {us : List St} {xss : List (List Int)} (hu : ∀ s ∈ us, StU s) (hp : ∀ s ∈ us, plainB s = true) (hl : us.length ≤ 120) (hin : inputsOk xss = true) (hx : ∀ a n : Nat, a < 5 → n < 4 → 0 ≤ (xss.getD a []).getD n 0 ∧ (xss.getD a []).getD n 0 ≤ 15) :
    circOk (cmpL zero0 us cmp0).1 (cmpL zero0 us cmp0).2.1 = true ∧ (cmpL zero0 us cmp0).2.1.length % 4 = 0 ∧ wordsOf (evalOuts (cmpL zero0 us cmp0).1 (cmpL zero0 us cmp0).2.1 (inputBits xss)) = (runF us xss).2 := by
  have hb := bitsT_b xss 80
  have hr := cmp_rel hu hp hin hx us.length (Nat.le_refl _)
  have hC := cmpL_ok hu us.length (Nat.le_refl _)
  rw [List.take_length] at hr hC
  have hin2 : inputBits xss = bitsT xss 80 := by simp [inputBits, hin]
  have hok : circOk (cmpL zero0 us cmp0).1 (cmpL zero0 us cmp0).2.1 = true := by
    have h1 := hC.len
    have h2 : allB (cmpL zero0 us cmp0).2.1 0 (((cmpL zero0 us cmp0).1.length : Int) - 1) = true := allB_iff.2 fun o ho => by have := hC.os o ho; omega
    simp only [circOk, hC.ok, h2, Bool.and_self, Bool.true_and, decide_eq_true_eq]; omega
  refine ⟨hok, hr.2.2.1, ?_⟩
  have hbb : bitsB (bitsT xss 80) = true := by simp [bitsB, bitsT_length, hb]
  have hev : evalOuts (cmpL zero0 us cmp0).1 (cmpL zero0 us cmp0).2.1 (inputBits xss) = outsOf (evalW (bitsT xss 80) (cmpL zero0 us cmp0).1) (cmpL zero0 us cmp0).2.1 := by
    rw [hin2]; unfold evalOuts evalB; rw [hok, hbb]; rfl
  have hab : allB (outsOf (evalW (bitsT xss 80) (cmpL zero0 us cmp0).1) (cmpL zero0 us cmp0).2.1) 0 1 = true := allB_iff.2 fun x hx2 => by
    simp only [outsOf, List.mem_map] at hx2
    obtain ⟨o, _, rfl⟩ := hx2
    exact at0_b (evalW_b hb _ hC.ok) (by omega) (by omega)
  rw [hev]
  unfold wordsOf
  rw [if_pos ⟨by simpa [outsOf] using hr.2.2.1, hab⟩]
  exact hr.2.1

end Go.Proofs.Ytfcijloiebnloaa
