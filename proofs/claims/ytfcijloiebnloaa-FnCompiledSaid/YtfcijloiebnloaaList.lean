/- Contracts of the laws' helpers over slices of numbers: copy, compare, mark, look whether the marks are held. -/
import Derived.Test.YtfcijloiebnloaaScal
import Derived.Deep.QuietTactic
import Derived.BigQuiet
import Derived.Deep.AppendLies
namespace Go.Proofs.Ytfcijloiebnloaa
open Go.RowKit

theorem info_int : (Try.prog.info? 3).map (fun i => (i.zero, i.size, i.bytes)) = some (some (.int .i64 0), 1, 8) := by kernel_rfl

theorem Kp.own {w w' : World} {lo e size : Nat} {ad : Option Addr} {n cap : Nat} {cs : List Value} {b : Nat} (h : Own w lo e size ad n cap cs) (hb : b < lo) (hg : w.grownBy w' (ad.map (·.block))) : Kp b w w' :=
  (Kp.refl b w).grown hg (fun e => by
    cases ad with
    | none => cases e
    | some a => have := h.blk a rfl; simp only [Option.map_some, Option.some.injEq] at e; omega)

section
variable {ops : Array Oper} {rest : List Oper} {o : Oper} {a : Act} {Q : Exit → Act → World → Prop} {K : Act → World → Prop} {E : Prop}

/-- 'append(out, v)', out of the call's own, in a plain region. -/
theorem wpList_app1 (W : World) (hgd : o.guard = none) (s x : Operand) (ho : o.op = .call { callee := .builtin .append, args := #[s, x], argTypes := #[23, 23] })
    (lo n cap : Nat) (ad : Option Addr) (xs : List Int) (v : Int) (B c : Nat) (hs : a.eval s = .slice ad n cap) (hx : a.eval x = .slice (some ⟨B, 0, none⟩) 1 c)
    (hown : Own W lo 3 1 ad n cap (I64 xs)) (hnew : W.cell? ⟨B, 0, none⟩ = some (.int .i64 v)) (hn : n < 1099511627776) (hlo : lo ≤ W.heap.size)
    (h : ∀ g cap' w', Own w' lo 3 1 (some ⟨g, 0, none⟩) (n + 1) cap' (I64 (xs ++ [v])) → Below lo W w' → W.grownBy w' (ad.map (·.block)) → wpList Try.prog ops Q rest (a.put o.dst (.slice (some ⟨g, 0, none⟩) (n + 1) cap')) w') :
    wpList Try.prog ops Q (o :: rest) a W := by
  obtain ⟨i0, hi, hz0, hz1, hz2⟩ := info_parts info_int
  refine wpList_append_lies W hgd s x 23 ho lo 3 i0 (.int .i64 0) 1 8 Try.underlying23 hi hz0 hz1 hz2 rfl (by omega) _ _ _ hs hown ⟨B, 0, none⟩ 1 c [.int .i64 v] hx rfl ?_ (by simp [Value.oneCell'])
    (by omega) (by unfold maxLen; omega) (by omega) hlo W.heap.size rfl ?_
  · intro j u hj
    match j, hj with
    | 0, hj => simp at hj; subst hj; exact hnew
    | j + 1, hj => simp at hj
  · intro g cap' w' h1 h2 _ _
    rw [own_block] at h2
    rw [← show I64 (xs ++ [v]) = I64 xs ++ [.int .i64 v] from by simp [I64]] at h1
    exact h g cap' w' h1 (hown.below hlo h2) h2

/-- .. in a region that draws its order. -/
theorem step_app1 (W : World) (hgd : o.guard = none) (s x : Operand) (ho : o.op = .call { callee := .builtin .append, args := #[s, x], argTypes := #[23, 23] })
    (lo n cap : Nat) (ad : Option Addr) (xs : List Int) (v : Int) (B c : Nat) (hs : a.eval s = .slice ad n cap) (hx : a.eval x = .slice (some ⟨B, 0, none⟩) 1 c)
    (hown : Own W lo 3 1 ad n cap (I64 xs)) (hnew : W.cell? ⟨B, 0, none⟩ = some (.int .i64 v)) (hn : n < 1099511627776) (hlo : lo ≤ W.heap.size)
    (h : ∀ g cap' w', Own w' lo 3 1 (some ⟨g, 0, none⟩) (n + 1) cap' (I64 (xs ++ [v])) → Below lo W w' → W.grownBy w' (ad.map (·.block)) → K (a.put o.dst (.slice (some ⟨g, 0, none⟩) (n + 1) cap')) w') :
    if Region.wanted o (yielded ops a.tmps) = true then Oper.wp Try.prog o a W K Q else E := by
  obtain ⟨i0, hi, hz0, hz1, hz2⟩ := info_parts info_int
  refine step_append_lies W hgd s x 23 ho lo 3 i0 (.int .i64 0) 1 8 Try.underlying23 hi hz0 hz1 hz2 rfl (by omega) _ _ _ hs hown ⟨B, 0, none⟩ 1 c [.int .i64 v] hx rfl ?_ (by simp [Value.oneCell'])
    (by omega) (by unfold maxLen; omega) (by omega) hlo W.heap.size rfl ?_
  · intro j u hj
    match j, hj with
    | 0, hj => simp at hj; subst hj; exact hnew
    | j + 1, hj => simp at hj
  · intro g cap' w' h1 h2 _ _
    rw [own_block] at h2
    rw [← show I64 (xs ++ [v]) = I64 xs ++ [.int .i64 v] from by simp [I64]] at h1
    exact h g cap' w' h1 (hown.below hlo h2) h2
end

set_option maxHeartbeats 1000000 in
theorem toIntS_any (xs : List Int) (ad : Option Addr) (c : Nat) (w : World) (hm : xs.length ≤ 1048576) (hr : RdC w ad (I64 xs)) :
    Calls Try.prog 23 #[.slice ad xs.length c] w fun e w' => e = .returned (.slice (some ⟨w.heap.size, 0, none⟩) xs.length xs.length) ∧
      Own w' w.heap.size 3 1 (some ⟨w.heap.size, 0, none⟩) xs.length xs.length (I64 xs) ∧ Below w.heap.size w w' := by
  obtain ⟨i0, hi, hz0, hz1, hz2⟩ := info_parts info_int
  go_enter Try.func23, Try.ntmps23
  go_wp2_with (at_make; refine wpList_make_full _ rfl _ _ 23 rfl w.heap.size 3 i0 (.int .i64 0) 1 Try.underlying23 hi hz0 hz1 .i64 .i64 _ _ xs.length rfl rfl rfl rfl ?b2 ?b3 ?b4 ?_)
  case b2 => rw [hz2]; omega
  case b3 => unfold maxLen; omega
  case b4 => exact Nat.le_refl _
  intro w1 hown1 hgr1
  have hb1 : Below w.heap.size w w1 := (Below.refl _ _).grown hgr1 (Nat.le_refl _) (by simp)
  have hr1 : RdC w1 ad (I64 xs) := hr.below hb1
  obtain ⟨ys, hys, ho⟩ : ∃ ys : List Int, ys.length = xs.length ∧ Own w1 w.heap.size 3 1 (some ⟨w.heap.size, 0, none⟩) xs.length xs.length (I64 ys) := by
    refine ⟨List.replicate xs.length 0, by simp, ?_⟩
    rw [made_ints] at hown1
    exact hown1
  have hadr : ∀ b off, ad = some ⟨b, off, none⟩ → 0 < xs.length → b < w.heap.size := by
    intro b off h0 hl
    obtain ⟨b', off', h1, h2⟩ := hr.at 0 hl
    rw [h0] at h1
    simp only [Option.some.injEq, Addr.mk.injEq, and_true] at h1
    obtain ⟨rfl, rfl⟩ := h1
    exact lt_of_cell (h2 0 hl)
  have HY := Lib.hid hys
  clear hys hown1 hgr1
  go_wp2_with fail
  go_loopw [4] (fun i wr => ∃ k : Nat, k ≤ xs.length ∧ i = .int .i64 k ∧ Own wr w.heap.size 3 1 (some ⟨w.heap.size, 0, none⟩) xs.length xs.length (I64 (xs.take k ++ ys.drop k)) ∧ Below w.heap.size w wr) (fun i _ => xs.length - (intOf i).toNat)
  case atStart => exact ⟨0, Nat.zero_le _, rfl, ho, hb1⟩
  case round =>
    obtain ⟨k, hk, rfl, hown, hbw⟩ := hrel
    by_cases hlt : k < xs.length
    · obtain ⟨b, off, rfl, hcell⟩ := hr.at k hlt
      have hc := (hbw.cell (p := ⟨b, off + k, none⟩) (hadr b off rfl (by omega))).trans (hcell k hlt)
      have hkl : k < (I64 (xs.take k ++ ys.drop k)).length := by have := HY.out; simp; omega
      obtain ⟨hc2, hf2⟩ := hown.get k hkl
      have R : Hid (Own (wr.setCell ⟨w.heap.size, k, none⟩ (.int .i64 xs[k])) w.heap.size 3 1 (some ⟨w.heap.size, 0, none⟩) xs.length xs.length (I64 (xs.take (k + 1) ++ ys.drop (k + 1))) ∧ Below w.heap.size w (wr.setCell ⟨w.heap.size, k, none⟩ (.int .i64 xs[k]))) := by
        refine ⟨?_, hbw.setCell (Nat.le_refl _) _⟩
        have := hown.put k (.int .i64 xs[k])
        rw [I64_set, copy_step hlt HY.out] at this
        exact this
      obtain ⟨u, hu⟩ : ∃ u, u = (I64 (xs.take k ++ ys.drop k))[k] := ⟨_, rfl⟩
      rw [← hu] at hc2
      clear hu hown hbw ho hcell hr hr1 hb1 hadr
      go_wp2_with fail
      go_roundw
      case rel => exact ⟨k + 1, by omega, by go_num, R.out.1, R.out.2⟩
      case measure => simp [intOf]; omega
    · have e : I64 (xs.take k ++ ys.drop k) = I64 xs := by rw [List.take_of_length_le (by omega), List.drop_eq_nil_of_le (by have := HY.out; omega), List.append_nil]
      rw [e] at hown
      have H := Lib.hid (And.intro hown hbw)
      clear hown hbw e
      go_wp2_with fail
      go_ret
      exact ⟨rfl, H.out.1, H.out.2⟩

theorem toIntS_own (xs : List Int) (ad : Option Addr) (c : Nat) (w : World) (hm : xs.length ≤ 1048576) (hr : RdC w ad (I64 xs)) :
    Calls Try.prog 23 #[.slice ad xs.length c] w fun e w' => ∃ g, e = .returned (.slice (some ⟨g, 0, none⟩) xs.length xs.length) ∧
      Own w' w.heap.size 3 1 (some ⟨g, 0, none⟩) xs.length xs.length (I64 xs) ∧ w.heap.size ≤ g ∧ g < w'.heap.size ∧ Below w.heap.size w w' :=
  (toIntS_any xs ad c w hm hr).mono fun _ _ ⟨h1, h2, h3⟩ => ⟨_, h1, h2, (h2.blk _ rfl).2.2.1, (h2.blk _ rfl).2.2.2, h3⟩





end Go.Proofs.Ytfcijloiebnloaa
