/- Numbers out of text: the walks of ParseUint, argument, l09Num. -/
import Derived.Test.YtigefmobejclaaaDoorFmtA
import Derived.Lib.Small
namespace Go.Proofs.YtigefmobejclaaaDoor
open Go.RowKit
set_option linter.unusedVariables false
set_option linter.unusedSimpArgs false

/-- The number whose numeral a text is, where it is one in bounds. -/
def numU (l : Bs) : Option Int := if dig (valD l : Int) = l ∧ valD l ≤ 1000000000 then some (valD l : Int) else none
/-- What ParseUint hands back. -/
def IsPU (l : Bs) (e : Ending) : Prop := e = .returned (.tuple #[.int .i64 ((numU l).getD 0), .bool (numU l).isSome])
theorem valD_dig {n : Int} (h0 : 0 ≤ n) : (valD (dig n) : Int) = n := by unfold dig; rw [valD_dec]; omega
theorem numU_dig {n : Int} (h0 : 0 ≤ n) (h1 : n ≤ 1000000000) : numU (dig n) = some n := by
  have h := valD_dig h0
  unfold numU
  rw [h, if_pos ⟨rfl, by omega⟩]
theorem numU_none {l : Bs} (h : ∀ n : Int, 0 ≤ n → n ≤ 1000000000 → l ≠ dig n) : numU l = none := by
  unfold numU
  rw [if_neg]
  rintro ⟨h1, h2⟩
  exact h _ (by omega) (by omega) h1.symm
theorem numU_some {l : Bs} {n : Int} (h : numU l = some n) : 0 ≤ n ∧ n ≤ 1000000000 ∧ l = dig n := by
  unfold numU at h
  split at h
  · next h1 => cases h; exact ⟨by omega, by omega, h1.1.symm⟩
  · cases h
theorem PU.no {l : Bs} (h : ∀ n : Int, 0 ≤ n → n ≤ 1000000000 → l ≠ dig n) {e : Ending} (he : e = .returned (.tuple #[.int .i64 0, .bool false])) : IsPU l e := by
  unfold IsPU; rw [numU_none h]; exact he
theorem PU.yes {n : Int} (h0 : 0 ≤ n) (h1 : n ≤ 1000000000) {e : Ending} (he : e = .returned (.tuple #[.int .i64 n, .bool true])) : IsPU (dig n) e := by
  unfold IsPU; rw [numU_dig h0 h1]; exact he

theorem fold_ge (l : Bs) : ∀ a : Nat, a ≤ l.foldl (fun a c => 10 * a + (c.toNat - 48)) a := by
  induction l with
  | nil => intro a; exact Nat.le_refl _
  | cons c l ih =>
    intro a
    simp only [List.foldl_cons]
    have := ih (10 * a + (c.toNat - 48))
    omega
theorem parse10 : ∀ (l : Bs) (a : Nat), (∀ x ∈ l, 48 ≤ x.toNat ∧ x.toNat ≤ 57) → l.foldl (fun a c => 10 * a + (c.toNat - 48)) a ≤ 1000000000 → Lib.parseUint10 a l = .ok (l.foldl (fun a c => 10 * a + (c.toNat - 48)) a)
  | [], a, _, _ => rfl
  | c :: l, a, h, hl => by
    have hc := h c (by simp)
    have hg := fold_ge l (10 * a + (c.toNat - 48))
    simp only [List.foldl_cons] at hl ⊢
    rw [Lib.parseUint10, if_pos hc, if_neg (by omega), if_neg (by omega), Nat.mul_comm a 10]
    exact parse10 l _ (fun x hx => h x (by simp [hx])) hl
theorem atoi_dig {n : Int} (h0 : 0 ≤ n) (h1 : n ≤ 1000000000) : Lib.atoiAll (dig n) = .ok n := by
  have hb := dig_bytes n
  have hv : valD (dig n) = n.toNat := by unfold dig; rw [valD_dec]
  have hne : dig n ≠ [] := by
    unfold dig; rw [Lib.decDigits]; split <;> simp
  generalize dig n = l at hb hv hne
  cases l with
  | nil => exact absurd rfl hne
  | cons c r =>
    have hc := hb c (by simp)
    have hp := parse10 (c :: r) 0 hb (by unfold valD at hv; rw [hv]; omega)
    have e2 : (c :: r).foldl (fun a c => 10 * a + (c.toNat - 48)) 0 = n.toNat := hv
    rw [e2] at hp
    have e1 : Lib.parseMag (c :: r) = .ok n.toNat := by unfold Lib.parseMag; rw [if_neg (by simp)]; exact hp
    unfold Lib.atoiAll
    simp only
    rw [if_neg (show ¬ (c.toNat = 43 ∨ c.toNat = 45) by omega), e1]
    simp only
    rw [if_neg (by omega), if_neg (by omega), if_neg (by omega)]
    congr 1
    omega

set_option maxRecDepth 100000 in
theorem iParseUint_any (l : Bs) (hs : l.length ≤ 1048576) (w : World) (hl : Laid w) :
    Calls Tryd.prog 56 #[.string (bA l)] w fun e w' => IsPU l e ∧ Below w.heap.size w w' := by
  obtain ⟨t5, p5, h5⟩ := hl.syn
  obtain ⟨t6, p6, h6⟩ := hl.rng
  have HL := Lib.hid hl
  go_enter Tryd.func56, Tryd.ntmps56
  go_wp2_with fail
  refine (atoi_c (bA l) (by rw [bA_size]; omega) _ ⟨t5, p5, h5⟩ ⟨t6, p6, h6⟩).mono ?_
  rw [bA_data]
  rintro e w1 ⟨hb1, (⟨v, hv, rfl⟩ | ⟨hno, v, N, rfl⟩)⟩
  case inr =>
    have HN := Lib.hid hno
    clear hno
    go_wp2_with fail
    go_ret2
    exact ⟨PU.no (fun n h0 h1 e => HN.out n (by rw [e]; exact atoi_dig h0 h1)) rfl, hb1⟩
  have hvd : ∀ n : Int, 0 ≤ n → n ≤ 1000000000 → l = dig n → v = n := fun n h0 h1 e => by
    rw [e, atoi_dig h0 h1] at hv; injection hv with h; exact h.symm
  have HV := Lib.hid hvd
  clear hv hvd
  by_cases h0 : v < 0
  · have t0 : decide (v < 0) = true := decide_eq_true h0
    go_wp2_with fail
    go_ret2
    exact ⟨PU.no (fun n h0 h1 e => by have := HV.out n h0 h1 e; omega) rfl, hb1⟩
  have t0 : decide (v < 0) = false := by simpa using h0
  by_cases h1 : v > 1000000000
  · have t1 : decide (1000000000 < v) = true := decide_eq_true h1
    go_wp2_with fail
    go_ret2
    exact ⟨PU.no (fun n h0 h1 e => by have := HV.out n h0 h1 e; omega) rfl, hb1⟩
  have t1 : decide (1000000000 < v) = false := by simpa using h1
  go_wp2_with fail
  refine (itoa_c v (by omega) (by omega) _ (HL.out.below hb1).tab).mono ?_
  rintro e w2 ⟨rfl, hb2⟩
  have hbe := bel_next hb1 hb1.size hb2
  by_cases he : dig v = l
  · subst he
    go_wp2_with fail
    go_ret2
    exact ⟨PU.yes (by omega) (by omega) rfl, hbe⟩
  · have t2 : (dig v == l) = false := by simpa using he
    go_wp2_with fail
    go_ret2
    exact ⟨PU.no (fun n h0 h1 e => he (by rw [HV.out n h0 h1 e, ← e])) rfl, hbe⟩

theorem valD_lt : ∀ (l : Bs), (∀ x ∈ l, 48 ≤ x.toNat ∧ x.toNat ≤ 57) → valD l < 10 ^ l.length := by
  have key : ∀ (r : Bs), (∀ x ∈ r, 48 ≤ x.toNat ∧ x.toNat ≤ 57) → valD r.reverse < 10 ^ r.length := by
    intro r
    induction r with
    | nil => intro _; simp [valD]
    | cons c l ih =>
      intro h
      have h1 := ih (fun x hx => h x (by simp [hx]))
      have h2 := h c (by simp)
      rw [List.reverse_cons, valD_snoc, List.length_cons, Nat.pow_succ]
      omega
  intro l h
  have := key l.reverse (fun x hx => h x (by simpa using hx))
  simpa using this

set_option maxRecDepth 100000 in
theorem sParseUint_any (l : Bs) (hs : l.length ≤ 1048576) (w : World) :
    Calls Tryd.prog 53 #[.string (bA l)] w fun e w' => IsPU l e ∧ Below w.heap.size w w' := by
  by_cases h10 : l.length ≤ 10
  case neg =>
    have hno : ∀ n : Int, 0 ≤ n → n ≤ 1000000000 → l ≠ dig n := fun n h0 h1 e => by
      have := dig_len (n := n) (by omega)
      rw [← e] at this
      omega
    have HN := Lib.hid hno
    clear hno
    go_enter Tryd.func53, Tryd.ntmps53
    go_wp2_with fail
    go_ret2
    exact ⟨PU.no HN.out rfl, Below.refl _ _⟩
  go_enter Tryd.func53, Tryd.ntmps53
  go_wp2_with fail
  go_loop [4, 5] (fun n i => ∃ (k : Nat) (m : Int), k ≤ l.length ∧ i = .int .i64 k ∧ n = .int .i64 m ∧ m = (valD (l.take k) : Int) ∧ ∀ x ∈ l.take k, 48 ≤ x.toNat ∧ x.toNat ≤ 57) (fun _ i => l.length - (intOf i).toNat)
  case atStart => exact ⟨0, 0, Nat.zero_le _, rfl, rfl, rfl, by simp⟩
  case round =>
    obtain ⟨k, m, hk, rfl, rfl, hm, hd⟩ := hrel
    have hlt10 : valD (l.take k) < 10 ^ 10 := by
      have := valD_lt _ hd
      have h2 : (l.take k).length ≤ 10 := by rw [List.length_take]; omega
      exact Nat.lt_of_lt_of_le this (Nat.pow_le_pow_right (by decide) h2)
    have HM := Lib.hid hm
    have HD := Lib.hid hd
    have hm0 : 0 ≤ m := by omega
    have hm1 : m ≤ 9999999999 := by omega
    clear hm hd hlt10
    by_cases hlt : k < l.length
    · have hsn : l.take (k + 1) = l.take k ++ [l[k]] := by rw [List.take_succ_eq_append_getElem hlt]
      have hin : l[k] ∈ l := List.getElem_mem hlt
      have HSN := Lib.hid hsn
      have HIN := Lib.hid hin
      clear hsn hin
      generalize hc : l[k] = c at HSN HIN
      obtain ⟨x, hx⟩ : ∃ x : Int, x = (c.toNat : Int) := ⟨_, rfl⟩
      have hgb : ∀ (h : k < (bA l).size), (((bA l)[k]'h).toNat : Int) = x := fun h => by rw [hx, ← hc]; rfl
      have hx0 : 0 ≤ x := by omega
      have hx1 : x ≤ 255 := by have := c.toNat_lt; omega
      have HX := Lib.hid hx
      clear hx hc
      by_cases c0 : 48 ≤ x ∧ x ≤ 57
      · have t0 : decide (x < 48) = false := by simp; omega
        have t1 : decide (57 < x) = false := by simp; omega
        go_wp2_with fail
        go_round
        case rel =>
          refine ⟨k + 1, 10 * m + x - 48, by omega, by go_num, rfl, ?_, ?_⟩
          · have h1 := HX.out
            rw [HSN.out, valD_snoc, HM.out]
            rw [h1] at c0 ⊢
            omega
          · intro y hy
            rw [HSN.out] at hy
            have h1 := HX.out
            rcases List.mem_append.1 hy with h | h
            · exact HD.out y h
            · simp only [List.mem_singleton] at h
              subst h
              omega
        case measure => simp [intOf]; omega
      · have HN := Lib.hid (show ∀ n : Int, 0 ≤ n → n ≤ 1000000000 → l ≠ dig n from fun n h0 h1 e => c0 (by
          have h2 := HIN.out
          have h3 := HX.out
          rw [e] at h2
          have := dig_bytes n c h2
          omega))
        by_cases c1 : x < 48
        · have t0 : decide (x < 48) = true := decide_eq_true c1
          go_wp2_with fail
          go_ret2
          exact ⟨PU.no HN.out rfl, Below.refl _ _⟩
        · have t0 : decide (x < 48) = false := by simpa using c1
          have t1 : decide (57 < x) = true := by simp; omega
          go_wp2_with fail
          go_ret2
          exact ⟨PU.no HN.out rfl, Below.refl _ _⟩
    · have hkl : l.take k = l := List.take_of_length_le (by omega)
      have hmv : ∀ n : Int, 0 ≤ n → l = dig n → m = n := fun n h0 e => by
        have h1 := HM.out
        rw [hkl, e] at h1
        unfold dig at h1
        rw [valD_dec] at h1
        omega
      have HMV := Lib.hid hmv
      clear hmv hkl
      by_cases h1 : m > 1000000000
      · have t1 : decide (1000000000 < m) = true := decide_eq_true h1
        go_wp2_with fail
        go_ret2
        exact ⟨PU.no (fun n h0 h2 e => by have := HMV.out n h0 e; omega) rfl, Below.refl _ _⟩
      have t1 : decide (1000000000 < m) = false := by simpa using h1
      go_wp2_with fail
      refine (sFormatInt_any m (by omega) (by omega) _).mono ?_
      rintro e w2 ⟨rfl, hb2⟩
      by_cases he : dig m = l
      · subst he
        go_wp2_with fail
        go_ret2
        exact ⟨PU.yes (by omega) (by omega) rfl, hb2⟩
      · have t2 : (dig m == l) = false := by simpa using he
        go_wp2_with fail
        go_ret2
        exact ⟨PU.no (fun n h0 h1 e => he (by rw [HMV.out n h0 e, ← e])) rfl, hb2⟩
end Go.Proofs.YtigefmobejclaaaDoor
