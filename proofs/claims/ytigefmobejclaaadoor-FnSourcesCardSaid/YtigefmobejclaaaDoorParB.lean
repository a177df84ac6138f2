/- A number's field: the walks of argument and l09Num. -/
import Derived.Test.YtigefmobejclaaaDoorParA
namespace Go.Proofs.YtigefmobejclaaaDoor
open Go.RowKit
set_option linter.unusedVariables false
set_option linter.unusedSimpArgs false

/-- The number of a field: a letter or none, then a numeral. -/
def numF (pre l : Bs) : Int := if Lib.hasPrefix l pre = true then (numU (l.drop pre.length)).getD (-1) else -1
theorem hasPrefix_app (p r : Bs) : Lib.hasPrefix (p ++ r) p = true := by
  unfold Lib.hasPrefix
  induction p with
  | nil => rfl
  | cons a p ih => simp [List.isPrefixOf]
theorem trimPrefix_app (p r : Bs) : Lib.trimPrefix (p ++ r) p = r := by
  unfold Lib.trimPrefix
  rw [if_pos (hasPrefix_app p r)]
  simp
theorem trimPrefix_len (l p : Bs) : (Lib.trimPrefix l p).length ≤ l.length := by
  unfold Lib.trimPrefix
  split
  · rw [List.length_drop]; omega
  · omega

theorem hasPrefix_iff (l p : Bs) : Lib.hasPrefix l p = true ↔ l.take p.length = p := by
  unfold Lib.hasPrefix
  rw [List.isPrefixOf_iff_prefix, List.prefix_iff_eq_take]
  exact eq_comm
theorem trimPrefix_drop {l p : Bs} (h : Lib.hasPrefix l p = true) : Lib.trimPrefix l p = l.drop p.length := by
  unfold Lib.trimPrefix; rw [if_pos h]
theorem numF_no {pre l : Bs} (h : Lib.hasPrefix l pre = false) : numF pre l = -1 := by unfold numF; rw [if_neg (by rw [h]; decide)]
theorem numF_yes {pre l : Bs} (h : Lib.hasPrefix l pre = true) : numF pre l = (numU (l.drop pre.length)).getD (-1) := by unfold numF; rw [if_pos h]
theorem numF_dig {pre : Bs} {n : Int} (h0 : 0 ≤ n) (h1 : n ≤ 1000000000) : numF pre (pre ++ dig n) = n := by
  rw [numF_yes (hasPrefix_app _ _)]
  simp [numU_dig h0 h1]

set_option maxRecDepth 100000 in
theorem argument_any (l pre : Bs) (hs : l.length ≤ 1048576) (w : World) (hl : Laid w) :
    Calls Tryd.prog 41 #[.string (bA l), .string (bA pre)] w fun e w' => e = .returned (.int .i64 (numF pre l)) ∧ Below w.heap.size w w' := by
  have HL := Lib.hid hl
  have hrl : (Lib.trimPrefix l pre).length ≤ 1048576 := by have := trimPrefix_len l pre; omega
  have HC := Lib.hid (fun W => cutPrefix_c (bA l) (bA pre) W)
  simp only [bA_data] at HC
  have HN : Hid (numF pre l = if Lib.hasPrefix l pre = true then (numU (Lib.trimPrefix l pre)).getD (-1) else -1) := Lib.hid (by
    by_cases h : Lib.hasPrefix l pre = true
    · rw [if_pos h, numF_yes h, trimPrefix_drop h]
    · rw [if_neg h, numF_no (by simpa using h)])
  generalize numF pre l = v at HN ⊢
  generalize Lib.trimPrefix l pre = r at hrl HC HN
  generalize Lib.hasPrefix l pre = c at HC HN
  clear hl
  go_enter Tryd.func41, Tryd.ntmps41
  go_wp2_with fail
  refine (HC.out _).mono ?_
  rintro e w1 ⟨rfl, rfl⟩
  go_wp2_with fail
  refine (iParseUint_any r hrl _ HL.out).mono ?_
  rintro e w2 ⟨he, hb2⟩
  unfold IsPU at he
  subst he
  cases hu : numU r with
  | none =>
    rw [hu] at HN
    cases c
    all_goals
      have hv : v = -1 := HN.out
      subst hv
      go_wp2_with fail
      go_ret
      exact ⟨rfl, hb2⟩
  | some n =>
    rw [hu] at HN
    cases c
    all_goals
      have hv := HN.out
      simp only [Bool.false_eq_true, if_false, if_true, Option.getD_some] at hv
      subst hv
      go_wp2_with fail
      go_ret
      exact ⟨rfl, hb2⟩

set_option maxRecDepth 100000 in
theorem l09Num_any (l pre : Bs) (hs : l.length ≤ 1048576) (w : World) :
    Calls Tryd.prog 39 #[.string (bA l), .string (bA pre)] w fun e w' => e = .returned (.int .i64 (numF pre l)) ∧ Below w.heap.size w w' := by
  by_cases hlen : l.length < pre.length
  case pos =>
    have hn : numF pre l = -1 := numF_no (by
      cases h : Lib.hasPrefix l pre with
      | false => rfl
      | true =>
        have h2 := congrArg List.length ((hasPrefix_iff _ _).1 h)
        rw [List.length_take] at h2; omega)
    rw [hn]
    clear hn
    go_enter Tryd.func39, Tryd.ntmps39
    go_wp2_with fail
    go_ret
    exact ⟨rfl, Below.refl _ _⟩
  have hx1 : (bA l).extract 0 pre.length = bA (l.take pre.length) := ba_ext (by rw [Lib.extract_from_zero])
  have hx2 : (bA l).extract pre.length l.length = bA (l.drop pre.length) := ba_ext (by
    have := Lib.extract_to_end (bA l) pre.length
    rw [bA_size] at this
    rw [this])
  have hrl : (l.drop pre.length).length ≤ 1048576 := by rw [List.length_drop]; omega
  by_cases hq : l.take pre.length = pre
  case neg =>
    have hn : numF pre l = -1 := numF_no (by
      cases h : Lib.hasPrefix l pre with
      | false => rfl
      | true => exact absurd ((hasPrefix_iff _ _).1 h) hq)
    rw [hn]
    clear hn
    generalize l.drop pre.length = r at *
    generalize l.take pre.length = q at *
    have t0 : (q == pre) = false := by simpa using hq
    go_enter Tryd.func39, Tryd.ntmps39
    go_wp2_with fail
    go_ret
    exact ⟨rfl, Below.refl _ _⟩
  have hn : numF pre l = (numU (l.drop pre.length)).getD (-1) := numF_yes ((hasPrefix_iff _ _).2 hq)
  rw [hn]
  clear hn
  generalize l.drop pre.length = r at *
  generalize l.take pre.length = q at *
  have t0 : (q == pre) = true := by simpa using hq
  clear hq
  go_enter Tryd.func39, Tryd.ntmps39
  go_wp2_with fail
  refine (sParseUint_any r hrl _).mono ?_
  rintro e w2 ⟨he, hb2⟩
  unfold IsPU at he
  subst he
  cases hu : numU r with
  | none =>
    go_wp2_with fail
    go_ret
    exact ⟨by rw [hu]; rfl, hb2⟩
  | some n =>
    go_wp2_with fail
    go_ret
    exact ⟨by rw [hu]; rfl, hb2⟩
end Go.Proofs.YtigefmobejclaaaDoor
