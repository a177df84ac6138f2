/- Contracts of the laws' helpers over slices of numbers: copy, compare, mark, look whether the marks are held. -/
import Derived.Test.YtjibbkigjcncdaaScal
import Derived.Deep.QuietTactic
import Derived.BigQuiet
import Derived.Deep.AppendLies
namespace Go.Proofs.Ytjibbkigjcncdaa
open Go.RowKit

theorem info_int : (Try.prog.info? 3).map (fun i => (i.zero, i.size, i.bytes)) = some (some (.int .i64 0), 1, 8) := by kernel_rfl

theorem Kp.own {w w' : World} {lo e size : Nat} {ad : Option Addr} {n cap : Nat} {cs : List Value} {b : Nat} (h : Own w lo e size ad n cap cs) (hb : b < lo) (hg : w.grownBy w' (ad.map (·.block))) : Kp b w w' :=
  (Kp.refl b w).grown hg (fun e => by
    cases ad with
    | none => cases e
    | some a => have := h.blk a rfl; simp only [Option.map_some, Option.some.injEq] at e; omega)

section
variable {ops : Array Oper} {rest : List Oper} {o : Oper} {a : Act} {Q : Exit → Act → World → Prop} {K : Act → World → Prop} {E : Prop}

/-- 'append(out, v)', out of the call's own, in a plain region. -/
theorem wpList_app1 (W : World) (hgd : o.guard = none) (s x : Operand) (ho : o.op = .call { callee := .builtin .append, args := #[s, x], argTypes := #[33, 33] })
    (lo n cap : Nat) (ad : Option Addr) (xs : List Int) (v : Int) (B c : Nat) (hs : a.eval s = .slice ad n cap) (hx : a.eval x = .slice (some ⟨B, 0, none⟩) 1 c)
    (hown : Own W lo 3 1 ad n cap (I64 xs)) (hnew : W.cell? ⟨B, 0, none⟩ = some (.int .i64 v)) (hn : n < 1099511627776) (hlo : lo ≤ W.heap.size)
    (h : ∀ g cap' w', Own w' lo 3 1 (some ⟨g, 0, none⟩) (n + 1) cap' (I64 (xs ++ [v])) → Below lo W w' → W.grownBy w' (ad.map (·.block)) → wpList Try.prog ops Q rest (a.put o.dst (.slice (some ⟨g, 0, none⟩) (n + 1) cap')) w') :
    wpList Try.prog ops Q (o :: rest) a W := by
  obtain ⟨i0, hi, hz0, hz1, hz2⟩ := info_parts info_int
  refine wpList_append_lies W hgd s x 33 ho lo 3 i0 (.int .i64 0) 1 8 Try.underlying33 hi hz0 hz1 hz2 rfl (by omega) _ _ _ hs hown ⟨B, 0, none⟩ 1 c [.int .i64 v] hx rfl ?_ (by simp [Value.oneCell'])
    (by omega) (by unfold maxLen; omega) (by omega) hlo W.heap.size rfl ?_
  · intro j u hj
    match j, hj with
    | 0, hj => simp at hj; subst hj; exact hnew
    | j + 1, hj => simp at hj
  · intro g cap' w' h1 h2 _ _
    rw [own_block] at h2
    rw [← show I64 (xs ++ [v]) = I64 xs ++ [.int .i64 v] from by simp [I64]] at h1
    exact h g cap' w' h1 (hown.below hlo h2) h2

/-- .. in a region that draws its order. -/
theorem step_app1 (W : World) (hgd : o.guard = none) (s x : Operand) (ho : o.op = .call { callee := .builtin .append, args := #[s, x], argTypes := #[33, 33] })
    (lo n cap : Nat) (ad : Option Addr) (xs : List Int) (v : Int) (B c : Nat) (hs : a.eval s = .slice ad n cap) (hx : a.eval x = .slice (some ⟨B, 0, none⟩) 1 c)
    (hown : Own W lo 3 1 ad n cap (I64 xs)) (hnew : W.cell? ⟨B, 0, none⟩ = some (.int .i64 v)) (hn : n < 1099511627776) (hlo : lo ≤ W.heap.size)
    (h : ∀ g cap' w', Own w' lo 3 1 (some ⟨g, 0, none⟩) (n + 1) cap' (I64 (xs ++ [v])) → Below lo W w' → W.grownBy w' (ad.map (·.block)) → K (a.put o.dst (.slice (some ⟨g, 0, none⟩) (n + 1) cap')) w') :
    if Region.wanted o (yielded ops a.tmps) = true then Oper.wp Try.prog o a W K Q else E := by
  obtain ⟨i0, hi, hz0, hz1, hz2⟩ := info_parts info_int
  refine step_append_lies W hgd s x 33 ho lo 3 i0 (.int .i64 0) 1 8 Try.underlying33 hi hz0 hz1 hz2 rfl (by omega) _ _ _ hs hown ⟨B, 0, none⟩ 1 c [.int .i64 v] hx rfl ?_ (by simp [Value.oneCell'])
    (by omega) (by unfold maxLen; omega) (by omega) hlo W.heap.size rfl ?_
  · intro j u hj
    match j, hj with
    | 0, hj => simp at hj; subst hj; exact hnew
    | j + 1, hj => simp at hj
  · intro g cap' w' h1 h2 _ _
    rw [own_block] at h2
    rw [← show I64 (xs ++ [v]) = I64 xs ++ [.int .i64 v] from by simp [I64]] at h1
    exact h g cap' w' h1 (hown.below hlo h2) h2
end




set_option maxHeartbeats 1000000 in
theorem eqIntS_same (xs : List Int) (ad ad' : Option Addr) (c c' : Nat) (w : World) (hm : xs.length ≤ 1048576) (hr : RdC w ad (I64 xs)) (hr' : RdC w ad' (I64 xs)) :
    Calls Try.prog 39 #[.slice ad xs.length c, .slice ad' xs.length c'] w fun e w' => e = .returned (.bool true) ∧ ∃ n, w' = w.drewN n := by
  go_enter Try.func39, Try.ntmps39
  go_wp2_with fail
  go_loopw [5] (fun i wr => ∃ k : Nat, k ≤ xs.length ∧ i = .int .i64 k ∧ ∃ m, wr = w.drewN m) (fun i _ => xs.length - (intOf i).toNat)
  case atStart => exact ⟨0, Nat.zero_le _, rfl, 0, rfl⟩
  case round =>
    obtain ⟨k, hk, rfl, m, rfl⟩ := hrel
    by_cases hlt : k < xs.length
    · obtain ⟨b, off, rfl, hcell⟩ := hr.at k hlt
      obtain ⟨b', off', rfl, hcell'⟩ := hr'.at k hlt
      have hc := hcell k hlt
      have hc' := hcell' k hlt
      clear hcell hcell' hr hr'
      have hi : (k : Int) < (xs.length : Int) := by omega
      go_wp2_with fail
      go_quiet (fail)
      go_wp2_with fail
      go_roundw
      case rel => exact ⟨k + 1, by omega, by go_num, m + nq, rfl⟩
      case measure => simp [intOf]; omega
    · go_wp2_with fail
      go_ret
      exact ⟨rfl, m, rfl⟩

set_option maxHeartbeats 1000000 in
theorem markIntS_any (n : Nat) (cs : List Value) (lo : Nat) (k0 : Int) (ad : Option Addr) (c : Nat) (w : World) (hk0 : 0 ≤ k0) (hk1 : k0 ≤ 1099511627776) (hm : n ≤ 1048576) (ho : Own w lo 3 1 ad n c cs) :
    Calls Try.prog 40 #[.slice ad n c, .int .i64 k0] w fun e w' => e = .returned (.int .i64 (k0 + n)) ∧ Own w' lo 3 1 ad n c (I64 (seqI k0 n)) ∧ w.grownBy w' (ad.map (·.block)) := by
  have hlen : cs.length = n := by have := ho.len; omega
  have HL := Lib.hid hlen
  clear hlen
  go_enter Try.func40, Try.ntmps40
  go_wp2_with fail
  go_loopw [1, 5] (fun kk i wr => ∃ j : Nat, j ≤ n ∧ i = .int .i64 j ∧ kk = .int .i64 (k0 + j) ∧ Own wr lo 3 1 ad n c (I64 (seqI k0 j) ++ cs.drop j) ∧ w.grownBy wr (ad.map (·.block))) (fun _ i _ => n - (intOf i).toNat)
  case atStart => exact ⟨0, Nat.zero_le _, rfl, by simp, ho, grown_refl _ _⟩
  case round =>
    obtain ⟨j, hj, rfl, rfl, hown, hgr⟩ := hrel
    by_cases hlt : j < n
    · obtain ⟨g, rfl, _, _⟩ := hown.addr (by omega)
      have hjl : j < (I64 (seqI k0 j) ++ cs.drop j).length := by have := HL.out; simp; omega
      obtain ⟨hc, hf⟩ := hown.get j hjl
      have R : Hid (Own (wr.setCell ⟨g, j, none⟩ (.int .i64 (k0 + j))) lo 3 1 (some ⟨g, 0, none⟩) n c (I64 (seqI k0 (j + 1)) ++ cs.drop (j + 1)) ∧ w.grownBy (wr.setCell ⟨g, j, none⟩ (.int .i64 (k0 + j))) (some g)) := by
        refine ⟨?_, grown_setCell _ hgr⟩
        rw [← mark_step (by have := HL.out; omega)]
        exact hown.put j _
      obtain ⟨u, hu⟩ : ∃ u, u = (I64 (seqI k0 j) ++ cs.drop j)[j] := ⟨_, rfl⟩
      rw [← hu] at hc
      clear hu hown hgr ho
      go_wp2_with fail
      go_roundw
      case rel => exact ⟨j + 1, by omega, by go_num, by go_num, R.out.1, R.out.2⟩
      case measure => simp [intOf]; omega
    · have hjn : n = j := by omega
      have HJ := Lib.hid hjn
      clear hjn
      go_wp2_with fail
      go_ret
      refine ⟨ret_int (by rw [HJ.out]), ?_, hgr⟩
      have e : I64 (seqI k0 j) ++ cs.drop j = I64 (seqI k0 n) := by rw [List.drop_eq_nil_of_le (by have := HL.out; have := HJ.out; omega), List.append_nil, ← HJ.out]
      rw [← e]; exact hown

theorem markIntS_rng (n : Nat) (cs : List Value) (lo l h : Nat) (k0 : Int) (ad : Option Addr) (c : Nat) (w : World) (hk0 : 0 ≤ k0) (hk1 : k0 ≤ 1099511627776) (hm : n ≤ 1048576) (ho : Own w lo 3 1 ad n c cs) (hi' : Ins ad l h) (hl : l ≤ w.heap.size) :
    Calls Try.prog 40 #[.slice ad n c, .int .i64 k0] w fun e w' => e = .returned (.int .i64 (k0 + n)) ∧ Own w' lo 3 1 ad n c (I64 (seqI k0 n)) ∧ Below l w w' ∧ Rng l h w w' :=
  (markIntS_any n cs lo k0 ad c w hk0 hk1 hm ho).mono fun _ _ ⟨h1, h2, h3⟩ => ⟨h1, h2, below_of_grown hi' hl h3, Rng.of_grown hi' h3⟩

set_option maxHeartbeats 1000000 in
theorem heldIntS_any (n : Nat) (k0 : Int) (ad : Option Addr) (c : Nat) (w : World) (hk0 : 0 ≤ k0) (hk1 : k0 ≤ 1099511627776) (hm : n ≤ 1048576) (hr : RdC w ad (I64 (seqI k0 n))) :
    Calls Try.prog 41 #[.slice ad n c, .int .i64 k0] w fun e w' => e = .returned (.int .i64 (k0 + n)) ∧ w = w' := by
  go_enter Try.func41, Try.ntmps41
  go_wp2_with fail
  go_loop [1, 5] (fun kk i => ∃ j : Nat, j ≤ n ∧ i = .int .i64 j ∧ kk = .int .i64 (k0 + j)) (fun _ i => n - (intOf i).toNat)
  case atStart => exact ⟨0, Nat.zero_le _, rfl, by simp⟩
  case round =>
    obtain ⟨j, hj, rfl, rfl⟩ := hrel
    by_cases hlt : j < n
    · obtain ⟨b, off, rfl, hcell⟩ := hr.at j (by simpa using hlt)
      have hc := hcell j (by simpa using hlt)
      rw [seqI_get k0 n j hlt] at hc
      clear hcell hr
      go_wp2_with fail
      go_round
      case rel => exact ⟨j + 1, by omega, by go_num, by go_num⟩
      case measure => simp [intOf]; omega
    · have hjn : n = j := by omega
      have HJ := Lib.hid hjn
      clear hjn
      go_wp2_with fail
      go_ret
      exact ⟨ret_int (by rw [HJ.out]), rfl⟩
end Go.Proofs.Ytjibbkigjcncdaa
