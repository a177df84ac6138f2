/- Numbers as text: the walks of FormatInt. -/
import Derived.Test.YtigefmobejclaaaDoorLib
import Derived.Test.YtigefmobejclaaaDoorStmtC
import Derived.Test.YtigefmobejclaaaDoorSStmtC
import Derived.Deep.RegionHeld3
namespace Go.Proofs.YtigefmobejclaaaDoor
open Go.RowKit
set_option linter.unusedVariables false
set_option linter.unusedSimpArgs false

theorem l01Figure_any (d : Int) (h0 : 0 ≤ d) (h1 : d < 10) (w : World) :
    Calls Tryd.prog 48 #[.int .i64 d] w fun e w' => e = .returned (.int .u8 (48 + d)) ∧ w = w' := by
  have t1 : decide (d < 10) = true := decide_eq_true h1
  go_enter Tryd.func48, Tryd.ntmps48
  go_wp2
  go_ret
  exact ⟨rfl, rfl⟩

theorem iFormatInt_small (n : Int) (h0 : 0 ≤ n) (h1 : n < 100) (w : World) :
    Calls Tryd.prog 33 #[.int .i64 n] w fun e w' => e = .returned (.string (bA (dig n))) ∧ w = w' := by
  go_enter Tryd.func33, Tryd.ntmps33
  go_wp2_with (go_at_call 51; refine (itoaSmall_c n h0 h1 _).mono ?_; rintro e w' ⟨rfl, rfl⟩)
  go_ret
  exact ⟨rfl, rfl⟩

theorem dec_step {n : Nat} (h : ¬ n < 10) : Lib.decDigits n = Lib.decDigits (n / 10) ++ [UInt8.ofNat (48 + n % 10)] := by
  rw [Lib.decDigits, dif_neg h]

theorem dec_len : ∀ (k n : Nat), n < 10 ^ (k + 1) → (Lib.decDigits n).length ≤ k + 1
  | 0, n, h => by
    rw [Lib.decDigits, dif_pos (by omega)]; simp
  | k + 1, n, h => by
    by_cases h' : n < 10
    · rw [Lib.decDigits, dif_pos h']; simp
    · rw [dec_step h', List.length_append]
      have := dec_len k (n / 10) (by rw [Nat.pow_succ] at h; omega)
      simp only [List.length_cons, List.length_nil]; omega
theorem dig_len {n : Int} (h : n ≤ 1000000000) : (dig n).length ≤ 10 := dec_len 9 n.toNat (by omega)

set_option maxRecDepth 100000 in
theorem sFormatInt_any (n : Int) (h0 : 0 ≤ n) (h1 : n ≤ 1000000000) (w : World) :
    Calls Tryd.prog 30 #[.int .i64 n] w fun e w' => e = .returned (.string (bA (dig n))) ∧ Below w.heap.size w w' := by
  by_cases hz : n = 0
  case pos =>
    have t0 : (n == 0) = true := by simpa using hz
    have e : dig n = [48] := by subst hz; rw [dig_one (by omega) (by omega)]; rfl
    rw [e]
    clear e hz
    go_enter Tryd.func30, Tryd.ntmps30
    go_wp2_with fail
    go_ret
    exact ⟨rfl, Below.refl _ _⟩
  have t0 : (n == 0) = false := by simpa using hz
  have t1 : decide (n < 0) = false := by simp; omega
  go_enter Tryd.func30, Tryd.ntmps30
  go_wp2_with fail
  go_loopw [0, 4] (fun a s wr => ∃ (m : Int) (l : Bs), 0 ≤ m ∧ m ≤ n ∧ a = .int .i64 m ∧ s = .string (bA l) ∧ ((0 < m ∧ Lib.decDigits m.toNat ++ l = Lib.decDigits n.toNat) ∨ (m = 0 ∧ l = dig n)) ∧ Below w.heap.size w wr) (fun a _ _ => (intOf a).toNat)
  case atStart => exact ⟨n, [], h0, Int.le_refl _, rfl, rfl, .inl ⟨by omega, by simp⟩, Below.refl _ _⟩
  case round =>
    obtain ⟨m, l, hm0, hmn, rfl, rfl, hr, hb⟩ := hrel
    by_cases hm : m = 0
    · subst hm
      have hl : l = dig n := by rcases hr with ⟨h, _⟩ | ⟨_, h⟩; omega; exact h
      subst hl
      go_wp2_with fail
      go_ret
      exact ⟨rfl, hb⟩
    · have hne : (m != 0) = true := by simpa using hm
      go_wp2_with fail
      obtain ⟨b, hbv⟩ : ∃ b : UInt8, b = UInt8.ofNat (48 + (m % 10).toNat) := ⟨_, rfl⟩
      have hbn : (48 + m % 10) = (b.toNat : Int) := by rw [hbv, digit_byte _ (by omega)]; omega
      refine (l01Figure_any (m % 10) (by omega) (by omega) _).mono ?_
      rw [hbn]
      have HB := Lib.hid hbv
      clear hbn hbv
      rintro e w' ⟨rfl, rfl⟩
      have hcv : (convert 43 9 (.slice (some ⟨wr.heap.size, 0, none⟩) 1 1)).run Tryd.prog (wr.alloc (.cells #[.int .u8 (b.toNat : Int)] 5)) = .ok (.string (bA [b])) (wr.alloc (.cells #[.int .u8 (b.toNat : Int)] 5)) :=
        run_convert_bytes_back (P := Tryd.prog) _ 43 9 5 ⟨wr.heap.size, 0, none⟩ 1 [b] Tryd.underlying43 Tryd.underlying5 Tryd.underlying9 (by
          intro j hj
          have : j = 0 := by simpa using hj
          subst this
          exact World.cell?_alloc_new ..)
      have hll : l.length ≤ 10 := by
        have h10 := dig_len h1
        rcases hr with ⟨_, h⟩ | ⟨_, h⟩
        · have := congrArg List.length h; rw [List.length_append] at this; unfold dig at h10; omega
        · rw [h]; exact h10
      go_wp2_with fail
      rcases hr with ⟨_, hr⟩ | ⟨h, _⟩
      case inr => exact absurd h hm
      have hbw : Below w.heap.size w (wr.alloc (.cells #[.int .u8 (b.toNat : Int)] 5)) := hb.alloc hb.size _
      refine ⟨?_, by simp only [intOf]; omega⟩
      rw [← bA_append]
      refine ⟨m / 10, [b] ++ l, by omega, by omega, rfl, rfl, ?_, hbw⟩
      have hbv := HB.out
      by_cases h10 : m < 10
      · refine .inr ⟨by omega, ?_⟩
        unfold dig
        rw [← hr, hbv, Lib.decDigits, dif_pos (by omega)]
        congr 3
        omega
      · refine .inl ⟨by omega, ?_⟩
        rw [← hr, dec_step (show ¬ m.toNat < 10 by omega), hbv, List.append_assoc]
        congr 2
        · omega
        · congr 3; omega
end Go.Proofs.YtigefmobejclaaaDoor
