/- What a step of a state computes. -/
import Derived.Test.YtfeffofoofmgcaaReads
import Derived.Test.YtfeffofoofmgcaaCopy
import Derived.Test.YtfeffofoofmgcaaGrid
import Derived.Test.YtfeffofoofmgcaaOper
import Derived.Test.YtfeffofoofmgcaaState
import Derived.Test.YtfeffofoofmgcaaShare
import Derived.StillTailTactics
import Derived.Deep.RegionLaw
namespace Go.Proofs.Ytfeffofoofmgcaa
open Go.RowKit
set_option linter.unusedVariables false
set_option linter.unusedSimpArgs false

theorem rd_none {w : World} {ad : Option Addr} {xs : List Int} (h : RdC w ad (I64 xs)) : ad = none → xs.length = 0 := by
  intro h0
  rcases h with h1 | ⟨b, off, h1, _⟩
  · have := congrArg List.length h1; simpa using this
  · rw [h0] at h1; cases h1
def stepB (s : St) (rs os : List Int) (xss : List (List Int)) : Bool := stateOk rs os && plainB s && inputsOk xss
def rgd (rs : List Int) (i : Int) : Int := rs.getD i.toNat 0
def stepVal (s : St) (rs : List Int) (xss : List (List Int)) : Int :=
  if s.op = 1 then s.n else if s.op = 2 then (xss.getD s.a.toNat []).getD s.n.toNat 0
  else if s.op = 10 then (if bits .and .i64 (rgd rs s.a) 1 = 1 then rgd rs s.b else rgd rs s.c) else operateF s.op (rgd rs s.a) (rgd rs s.b)
def stepRegs (rs os : List Int) (s : St) (xss : List (List Int)) : List Int := if stepB s rs os xss then (if s.op = 11 then rs else rs.set s.dst.toNat (stepVal s rs xss)) else rs
def stepOuts (rs os : List Int) (s : St) (xss : List (List Int)) : List Int := if stepB s rs os xss && (s.op == 11) then os ++ [rgd rs s.a] else os
theorem stepRegs_len (rs os : List Int) (s : St) (xss : List (List Int)) : (stepRegs rs os s xss).length = rs.length := by
  unfold stepRegs
  repeat' split
  all_goals simp
theorem stepOuts_len (rs os : List Int) (s : St) (xss : List (List Int)) : (stepOuts rs os s xss).length ≤ os.length + 1 := by
  unfold stepOuts
  split <;> simp
theorem stateOk_len {rs os : List Int} (h : stateOk rs os = true) : rs.length = 8 := by simp [stateOk] at h; omega
theorem stepOuts_le (rs os : List Int) (s : St) (xss : List (List Int)) : (stepOuts rs os s xss).length ≤ rs.length + os.length := by
  unfold stepOuts
  split
  case isTrue h => simp only [stepB, Bool.and_eq_true] at h; have := stateOk_len h.1.1.1; simp; omega
  case isFalse h => omega
theorem inputs_len {rr : List Rw} (h : inputsOk (rr.map Rw.xs) = true) : rr.length = 5 := by simp [inputsOk] at h; omega
theorem inputs_row {rr : List Rw} (h : inputsOk (rr.map Rw.xs) = true) {k : Nat} (hk : k < rr.length) : rr[k].xs.length = 4 ∧ allB rr[k].xs 0 15 = true := by
  simp only [inputsOk, rowsOk, Bool.and_eq_true, List.all_eq_true] at h
  have := h.1 rr[k].xs (List.mem_map.2 ⟨_, List.getElem_mem hk, rfl⟩)
  simp only [rowOk, Bool.and_eq_true] at this
  exact ⟨by have := this.1; simp at this; omega, this.2⟩
theorem state_regs {rs os : List Int} (h : stateOk rs os = true) {i : Int} (h0 : 0 ≤ i) (h7 : i ≤ 7) : 0 ≤ rgd rs i ∧ rgd rs i ≤ 15 := by
  have hl := stateOk_len h
  simp only [stateOk, Bool.and_eq_true] at h
  have := allB_iff.1 h.1.2 (rs[i.toNat]'(by omega)) (List.getElem_mem _)
  simp only [rgd, List.getD, List.getElem?_eq_getElem (show i.toNat < rs.length by omega), Option.getD_some]
  exact this
theorem rgd_at {rs : List Int} {i : Int} (h : i.toNat < rs.length) : rgd rs i = rs[i.toNat] := by simp [rgd, List.getD, List.getElem?_eq_getElem h]

end Go.Proofs.Ytfeffofoofmgcaa
