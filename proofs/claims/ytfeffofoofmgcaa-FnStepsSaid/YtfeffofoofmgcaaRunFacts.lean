/- Facts on runs. -/
import Derived.Test.YtfeffofoofmgcaaUnrFacts
import Derived.Test.YtfeffofoofmgcaaRun
import Derived.Test.YtfeffofoofmgcaaDrRun
namespace Go.Proofs.Ytfeffofoofmgcaa
open Go.RowKit
set_option linter.unusedVariables false
set_option linter.unusedSimpArgs false

theorem oper_all : ∀ a : Fin 16, ∀ b : Fin 16, ∀ o : Fin 7, inB (operF ((o.val : Int) + 3) (a.val : Int) (b.val : Int)) 0 15 = true := by decide +kernel
theorem oper_b {op a b : Int} (h3 : 3 ≤ op) (h9 : op ≤ 9) (ha : 0 ≤ a ∧ a ≤ 15) (hb : 0 ≤ b ∧ b ≤ 15) : 0 ≤ operateF op a b ∧ operateF op a b ≤ 15 := by
  obtain ⟨x, rfl⟩ := Int.eq_ofNat_of_zero_le ha.1
  obtain ⟨y, rfl⟩ := Int.eq_ofNat_of_zero_le hb.1
  obtain ⟨z, hz⟩ := Int.eq_ofNat_of_zero_le (show 0 ≤ op - 3 by omega)
  have h := oper_all ⟨x, by omega⟩ ⟨y, by omega⟩ ⟨z, by omega⟩
  have e : op = (z : Int) + 3 := by omega
  have i1 : inB (x : Int) 0 15 = true := inB_iff.2 ha
  have i2 : inB (y : Int) 0 15 = true := inB_iff.2 hb
  unfold operateF
  rw [i1, i2, e]
  exact inB_iff.1 h
theorem step_val {rs os : List Int} {s : St} {rr : List Rw} (h : stateOk rs os = true) (hs : stOk s = true) (hop : s.op ≤ 10) (hin : inputsOk (rr.map Rw.xs) = true) : 0 ≤ stepVal s rs (rr.map Rw.xs) ∧ stepVal s rs (rr.map Rw.xs) ≤ 15 := by
  obtain ⟨op, dst, a, b, c, n⟩ := s
  have hh := stok_regs hs
  simp only at hh hop
  have ra := state_regs h hh.2.2.2.2.1 hh.2.2.2.2.2.1
  have rb := state_regs h hh.2.2.2.2.2.2.1 hh.2.2.2.2.2.2.2.1
  have rc := state_regs h hh.2.2.2.2.2.2.2.2.1 hh.2.2.2.2.2.2.2.2.2
  unfold stepVal
  simp only
  by_cases p1 : op = 1
  · rw [if_pos p1]; subst p1; simp [stOk, inB] at hs; omega
  rw [if_neg p1]
  by_cases p2 : op = 2
  · rw [if_pos p2]; subst p2
    simp [stOk, inB] at hs
    have h5 := inputs_len hin
    have hal : a.toNat < rr.length := by omega
    obtain ⟨q1, q2⟩ := inputs_row hin hal
    have hn : n.toNat < rr[a.toNat].xs.length := by omega
    rw [show (rr.map Rw.xs).getD a.toNat [] = rr[a.toNat].xs by simp [List.getD, List.getElem?_eq_getElem hal]]
    rw [show rr[a.toNat].xs.getD n.toNat 0 = rr[a.toNat].xs[n.toNat] by simp [List.getD, List.getElem?_eq_getElem hn]]
    exact allB_iff.1 q2 _ (List.getElem_mem hn)
  rw [if_neg p2]
  by_cases p10 : op = 10
  · rw [if_pos p10]; split <;> assumption
  rw [if_neg p10]
  exact oper_b (by omega) (by omega) ra rb
theorem step_ok {rs os : List Int} {s : St} {rr : List Rw} (h : stateOk rs os = true) (hs : stOk s = true) (hop : s.op ≤ 11) (hin : inputsOk (rr.map Rw.xs) = true) :
    stateOk (stepRegs rs os s (rr.map Rw.xs)) (stepOuts rs os s (rr.map Rw.xs)) = true ∧ (stepOuts rs os s (rr.map Rw.xs)).length = os.length + if s.op = 11 then 1 else 0 := by
  have hB : stepB s rs os (rr.map Rw.xs) = true := by simp [stepB, h, plainB, hs, hop, hin]
  have hh := stok_regs hs
  have hst := h
  simp only [stateOk, Bool.and_eq_true] at h
  by_cases h11 : s.op = 11
  · have e1 : stepRegs rs os s (rr.map Rw.xs) = rs := by simp [stepRegs, h11]
    have e2 : stepOuts rs os s (rr.map Rw.xs) = os ++ [rgd rs s.a] := by simp [stepOuts, hB, h11]
    rw [e1, e2]
    refine ⟨?_, by simp [h11]⟩
    simp only [stateOk, Bool.and_eq_true]
    refine ⟨h.1, allB_iff.2 fun x hx => ?_⟩
    rcases List.mem_append.1 hx with hx | hx
    · exact allB_iff.1 h.2 x hx
    · simp at hx; subst hx; exact state_regs hst hh.2.2.2.2.1 hh.2.2.2.2.2.1
  · have e1 : stepRegs rs os s (rr.map Rw.xs) = rs.set s.dst.toNat (stepVal s rs (rr.map Rw.xs)) := by simp [stepRegs, hB, h11]
    have e2 : stepOuts rs os s (rr.map Rw.xs) = os := by simp [stepOuts, h11]
    rw [e1, e2]
    refine ⟨?_, by simp [h11]⟩
    simp only [stateOk, Bool.and_eq_true, List.length_set]
    refine ⟨⟨h.1.1, allB_iff.2 fun x hx => ?_⟩, h.2⟩
    rcases List.mem_or_eq_of_mem_set hx with hx | rfl
    · exact allB_iff.1 h.1.2 x hx
    · exact step_val hst hs (by omega) hin
theorem runF_all {rr : List Rw} (hin : inputsOk (rr.map Rw.xs) = true) (us : List St) (h : ∀ s ∈ us, stOk s = true ∧ s.op ≠ 12 ∧ s.op ≠ 13) : stateOk (runF us (rr.map Rw.xs)).1 (runF us (rr.map Rw.xs)).2 = true ∧ (runF us (rr.map Rw.xs)).2.length = cntOut us := by
  have : ∀ (us : List St) (p : List Int × List Int), (∀ s ∈ us, stOk s = true ∧ s.op ≠ 12 ∧ s.op ≠ 13) → stateOk p.1 p.2 = true →
      stateOk (us.foldl (fun p s => (stepRegs p.1 p.2 s (rr.map Rw.xs), stepOuts p.1 p.2 s (rr.map Rw.xs))) p).1 (us.foldl (fun p s => (stepRegs p.1 p.2 s (rr.map Rw.xs), stepOuts p.1 p.2 s (rr.map Rw.xs))) p).2 = true ∧
      (us.foldl (fun p s => (stepRegs p.1 p.2 s (rr.map Rw.xs), stepOuts p.1 p.2 s (rr.map Rw.xs))) p).2.length = p.2.length + cntOut us := by
    intro us
    induction us with
    | nil => intro p _ h2; exact ⟨h2, by simp [cntOut]⟩
    | cons s r ih =>
      intro p hp h2
      have hs := hp s (List.mem_cons_self ..)
      have hh := stok_regs hs.1
      have hop : s.op ≤ 11 := by omega
      have hk := step_ok h2 hs.1 hop hin
      obtain ⟨q1, q2⟩ := ih (stepRegs p.1 p.2 s (rr.map Rw.xs), stepOuts p.1 p.2 s (rr.map Rw.xs)) (fun x hx => hp x (List.mem_cons_of_mem _ hx)) hk.1
      refine ⟨q1, ?_⟩
      rw [List.foldl_cons, q2]
      simp only [hk.2, cntOut, List.filter_cons]
      by_cases h11 : s.op = 11 <;> simp [h11] <;> omega
  have := this us (List.replicate 8 0, []) h (by decide)
  exact ⟨this.1, by simpa [runF] using this.2⟩
set_option maxHeartbeats 1000000 in
theorem sameInts_same (xs : List Int) (n1 n2 : Nat) (h1 : xs.length = n1) (h2 : xs.length = n2) (ad ad' : Option Addr) (c c' : Nat) (w : World) (hm : xs.length ≤ 1048576) (hr : RdC w ad (I64 xs)) (hr' : RdC w ad' (I64 xs)) :
    Calls Try.prog 79 #[.slice ad n1 c, .slice ad' n2 c'] w fun e w' => e = .returned (.bool true) ∧ ∃ n, w' = w.drewN n := by
  subst h1; subst h2
  go_enter Try.func79, Try.ntmps79
  go_wp2_with fail
  go_loopw [5] (fun i wr => ∃ k : Nat, k ≤ xs.length ∧ i = .int .i64 k ∧ ∃ m, wr = w.drewN m) (fun i _ => xs.length - (intOf i).toNat)
  case atStart => exact ⟨0, Nat.zero_le _, rfl, 0, rfl⟩
  case round =>
    obtain ⟨k, hk, rfl, m, hw⟩ := hrel
    have HW := Lib.hid hw
    by_cases hlt : k < xs.length
    · obtain ⟨b, off, rfl, hc⟩ := (show RdC wr ad (I64 xs) from by rw [hw]; exact hr.drewN m).at k hlt
      obtain ⟨b', off', rfl, hc'⟩ := (show RdC wr ad' (I64 xs) from by rw [hw]; exact hr'.drewN m).at k hlt
      have q1 := hc k hlt
      have q2 := hc' k hlt
      generalize xs[k] = x at q1 q2
      have hi : (k : Int) < (xs.length : Int) := by omega
      clear hr hr' hc hc' hw
      go_wp2_with fail
      go_quiet (fail)
      go_wp2_with fail
      go_roundw
      case rel => exact ⟨k + 1, by omega, by go_num, m + nq, by rw [HW.out, World.drewN_drewN]⟩
      case measure => simp [intOf]; omega
    · clear hw
      go_wp2_with fail
      go_ret
      exact ⟨rfl, m, HW.out⟩

end Go.Proofs.Ytfeffofoofmgcaa
