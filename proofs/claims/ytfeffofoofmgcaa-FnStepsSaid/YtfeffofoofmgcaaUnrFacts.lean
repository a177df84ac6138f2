/- Facts on unrolled lists. -/
import Derived.Test.YtfeffofoofmgcaaProgFacts
import Derived.Test.YtfeffofoofmgcaaOutc
namespace Go.Proofs.Ytfeffofoofmgcaa
open Go.RowKit
set_option linter.unusedVariables false
set_option linter.unusedSimpArgs false

theorem ur_mem {b : Nat} {xs us : List St} (h : Ur b xs us) : ∀ s ∈ xs, s.op ≠ 12 → s.op ≠ 13 → s ∈ us := by
  induction h with
  | nil b => intro s hs; cases hs
  | plain b s r u h1 h2 h3 h4 ih =>
    intro x hx h12 h13
    rcases List.mem_cons.1 hx with rfl | hx
    · exact List.mem_cons_self ..
    · exact List.mem_cons_of_mem _ (ih x hx h12 h13)
  | loop b l e body r v u h1 h2 h3 h4 h5 h6 ih5 ih6 =>
    intro x hx h12 h13
    rcases List.mem_cons.1 hx with rfl | hx
    · exact absurd h3 h12
    rcases List.mem_append.1 hx with hx | hx
    · refine List.mem_append_left _ ?_
      have hn := (stOk_loop h1 h3).1
      have hv := ih5 x hx h12 h13
      simp only [repS, List.mem_flatten]
      exact ⟨v, by simp [List.mem_replicate]; omega, hv⟩
    rcases List.mem_cons.1 hx with rfl | hx
    · exact absurd h4 h13
    · exact List.mem_append_right _ (ih6 x hx h12 h13)
theorem foldM_mono (xs : List St) : ∀ p : Int × Int, p.2 ≤ (xs.foldl stepM p).2 := by
  induction xs with
  | nil => intro p; exact Int.le_refl _
  | cons s r ih =>
    intro p
    refine Int.le_trans ?_ (ih _)
    simp only [stepM]
    split <;> omega
theorem depth_bd {l : List St} (h : progOk l = true) : 0 ≤ loopDepth l ∧ loopDepth l ≤ 3 := by
  have := foldM_bd h l.length
  rw [List.take_length] at this
  simp only [loopDepth, h, if_true]
  exact this.2.2
theorem depth_zero {l : List St} (h : progOk l = true) (h0 : loopDepth l = 0) : ∀ s ∈ l, s.op ≠ 12 := by
  intro s hs h12
  obtain ⟨k, hk⟩ := List.getElem?_of_mem hs
  have e := foldM_bd h k
  have e2 := foldM_mono (l.drop (k + 1)) ((l.take (k + 1)).foldl stepM (0, 0))
  rw [← List.foldl_append, List.take_append_drop, foldM_snoc hk] at e2
  simp only [loopDepth, h, if_true] at h0
  rw [h0] at e2
  simp only [stepM, stepD, h12, if_true] at e2
  split at e2 <;> omega
theorem cnt_pos {us : List St} {s : St} (h : s ∈ us) (h11 : s.op = 11) : 1 ≤ cntOut us := by
  have : s ∈ us.filter (fun s => s.op == 11) := List.mem_filter.2 ⟨h, by simp [h11]⟩
  exact List.length_pos_of_mem this
/-- The one unrolled list of a valid program, and what the contracts ask of it. -/
theorem unr_one {l : List St} (h : progOk l = true) : ∃ U : List St, Ur 3 l U ∧ IsSize l (U.length : Int) ∧ (U.length ≤ 120 → IsUnr l U true) ∧ (120 < U.length → IsUnr l [] false) := by
  obtain ⟨hl, U, hu⟩ := ur_of_progOk h
  have hb : U.length ≤ 20480 := Nat.le_trans (ur_bound hu) (Nat.le_trans (Nat.mul_le_mul (Nat.le_refl _) hl) (by decide))
  exact ⟨U, hu, .inr ⟨h, hl, U, hu, rfl, hb⟩, fun h1 => .inr (.inr ⟨rfl, h, hl, hu, h1⟩), fun h1 => .inr (.inl ⟨rfl, rfl, h, hl, U, hu, h1, hb⟩)⟩
set_option maxHeartbeats 1000000 in
theorem sameStmts_same (xs : List St) (ad ad' : Option Addr) (c c' : Nat) (w : World) (hm : xs.length ≤ 1048576) (hr : RdC w ad (stCells xs)) (hr' : RdC w ad' (stCells xs)) :
    Calls Try.prog 72 #[.slice ad xs.length c, .slice ad' xs.length c'] w fun e w' => e = .returned (.bool true) ∧ ∃ n, w' = w.drewN n := by
  go_enter Try.func72, Try.ntmps72
  go_wp2_with fail
  go_loopw [5] (fun i wr => ∃ k : Nat, k ≤ xs.length ∧ i = .int .i64 k ∧ ∃ m, wr = w.drewN m) (fun i _ => xs.length - (intOf i).toNat)
  case atStart => exact ⟨0, Nat.zero_le _, rfl, 0, rfl⟩
  case round =>
    obtain ⟨k, hk, rfl, m, hw⟩ := hrel
    have HW := Lib.hid hw
    by_cases hlt : k < xs.length
    · obtain ⟨b, off, op, dst, a, b_, c_, n, rfl, hbl, hx, c0, c1, c2, c3, c4, c5⟩ := (show RdC wr ad (stCells xs) from by rw [hw]; exact hr.drewN m).st k hlt
      obtain ⟨b', off', op', dst', a', b_', c_', n', rfl, hbl', hx', c0', c1', c2', c3', c4', c5'⟩ := (show RdC wr ad' (stCells xs) from by rw [hw]; exact hr'.drewN m).st k hlt
      rw [hx] at hx'
      simp only [Option.some.injEq, St.mk.injEq] at hx'
      obtain ⟨rfl, rfl, rfl, rfl, rfl, rfl⟩ := hx'
      have hi : (k : Int) < (xs.length : Int) := by omega
      clear hr hr' hx hw
      go_wp2_with fail
      go_quiet (fail)
      go_wp2_with fail
      go_roundw
      case rel => exact ⟨k + 1, by omega, by go_num, m + nq, by rw [HW.out, World.drewN_drewN]⟩
      case measure => simp [intOf]; omega
    · clear hw
      go_wp2_with fail
      go_ret
      exact ⟨rfl, m, HW.out⟩
theorem sameStmts_eq (xs ys : List St) (he : xs = ys) (ad ad' : Option Addr) (c c' : Nat) (w : World) (hm : xs.length ≤ 1048576) (hr : RdC w ad (stCells xs)) (hr' : RdC w ad' (stCells ys)) :
    Calls Try.prog 72 #[.slice ad xs.length c, .slice ad' ys.length c'] w fun e w' => e = .returned (.bool true) ∧ ∃ n, w' = w.drewN n := by
  subst he
  exact sameStmts_same xs ad ad' c c' w hm hr hr'

end Go.Proofs.Ytfeffofoofmgcaa
