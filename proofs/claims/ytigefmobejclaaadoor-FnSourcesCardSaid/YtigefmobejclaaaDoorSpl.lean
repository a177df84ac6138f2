/- Cutting a line into its fields, byte by byte: plain, no program text in sight. -/
import Derived.Test.YtigefmobejclaaaDoorTxt
namespace Go.Proofs.YtigefmobejclaaaDoor
set_option linter.unusedVariables false

theorem spl_snoc {c : UInt8} (a : UInt8) : ∀ (x : Bs) (pre : List Bs) (cur : Bs), spl c x = pre ++ [cur] →
    spl c (x ++ [a]) = if a = c then pre ++ [cur] ++ [[]] else pre ++ [cur ++ [a]]
  | [], pre, cur, h => by
    have hp : pre = [] ∧ cur = [] := by
      cases pre with
      | nil => simp [spl] at h; exact ⟨rfl, h⟩
      | cons p r => simp [spl] at h
    obtain ⟨rfl, rfl⟩ := hp
    by_cases ha : a = c <;> simp [spl, ha]
  | y :: x, pre, cur, h => by
    by_cases hy : y = c
    · subst hy
      simp only [spl, if_true] at h
      cases pre with
      | nil =>
        simp only [List.nil_append, List.cons.injEq] at h
        exact absurd h.2 (spl_ne y x)
      | cons p r =>
        simp only [List.cons_append, List.cons.injEq] at h
        obtain ⟨rfl, h⟩ := h
        have ih := spl_snoc a x r cur h
        simp only [List.cons_append, spl, if_true, ih]
        split <;> simp
    · simp only [spl, if_neg hy] at h
      cases hs : spl c x with
      | nil => exact absurd hs (spl_ne c x)
      | cons hd t =>
        rw [hs] at h
        simp only at h
        cases pre with
        | nil =>
          simp only [List.nil_append, List.cons.injEq] at h
          obtain ⟨rfl, rfl⟩ := h
          have ih := spl_snoc a x [] hd (by rw [hs]; rfl)
          simp only [List.cons_append, spl, if_neg hy, ih]
          by_cases ha : a = c <;> simp [ha]
        | cons p r =>
          simp only [List.cons_append, List.cons.injEq] at h
          obtain ⟨rfl, rfl⟩ := h
          have ih := spl_snoc a x (hd :: r) cur (by rw [hs]; rfl)
          simp only [List.cons_append, spl, if_neg hy, ih]
          by_cases ha : a = c <;> simp [ha]

def ne (x : Bs) : Bool := !x.isEmpty
theorem ne_false {x : Bs} (h : x.length = 0) : ne x = false := by cases x with | nil => rfl | cons _ _ => simp at h
theorem ne_true {x : Bs} (h : 0 < x.length) : ne x = true := by cases x with | nil => simp at h | cons _ _ => rfl

/-- Where the cutting of l stands ahead of its byte k: the fields so far, and where the next one begins. -/
structure FS (l : Bs) (k b : Nat) (xs : List Bs) : Prop where
  le : b ≤ k
  cnt : xs.length ≤ k
  sz : ∀ x ∈ xs, x.length ≤ l.length
  st : (k ≤ l.length ∧ ∃ pre, spl 32 (l.take k) = pre ++ [(l.take k).drop b] ∧ xs = pre.filter ne) ∨ (k = l.length + 1 ∧ xs = (spl 32 l).filter ne)

theorem FS.start (l : Bs) : FS l 0 0 [] := ⟨Nat.le_refl _, Nat.le_refl _, by simp, .inl ⟨Nat.zero_le _, [], by simp [spl], rfl⟩⟩
theorem take_drop_len {l : Bs} {k b : Nat} (hk : k ≤ l.length) : ((l.take k).drop b).length = k - b := by simp; omega

theorem FS.skip {l : Bs} {k b : Nat} {xs : List Bs} (h : FS l k b xs) (hk : k < l.length) (hc : l[k] ≠ 32) : FS l (k + 1) b xs := by
  refine ⟨by have := h.le; omega, by have := h.cnt; omega, h.sz, ?_⟩
  rcases h.st with ⟨_, pre, h1, h2⟩ | ⟨h1, _⟩
  · refine .inl ⟨by omega, pre, ?_, h2⟩
    have ht : l.take (k + 1) = l.take k ++ [l[k]] := List.take_succ_eq_append_getElem hk
    rw [ht, spl_snoc _ _ _ _ h1, if_neg hc, List.drop_append_of_le_length (by simp; have := h.le; omega)]
  · omega
theorem FS.cutY {l : Bs} {k b : Nat} {xs : List Bs} (h : FS l k b xs) (hk : k < l.length) (hc : l[k] = 32) (hb : b < k) : FS l (k + 1) (k + 1) (xs ++ [(l.take k).drop b]) := by
  refine ⟨Nat.le_refl _, by simp; have := h.cnt; omega, ?_, ?_⟩
  · intro x hx
    rcases List.mem_append.1 hx with hx | hx
    · exact h.sz x hx
    · simp only [List.mem_singleton] at hx; subst hx; rw [take_drop_len (by omega)]; omega
  rcases h.st with ⟨_, pre, h1, h2⟩ | ⟨h1, _⟩
  · refine .inl ⟨by omega, pre ++ [(l.take k).drop b], ?_, ?_⟩
    · have ht : l.take (k + 1) = l.take k ++ [l[k]] := List.take_succ_eq_append_getElem hk
      have hd : (l.take (k + 1)).drop (k + 1) = [] := by apply List.drop_eq_nil_of_le; simp; omega
      rw [hd, ht, spl_snoc _ _ _ _ h1, if_pos hc]
    · rw [List.filter_append, ← h2, List.filter_cons_of_pos (ne_true (by rw [take_drop_len (by omega)]; omega)), List.filter_nil]
  · omega
theorem FS.cutN {l : Bs} {k b : Nat} {xs : List Bs} (h : FS l k b xs) (hk : k < l.length) (hc : l[k] = 32) (hb : ¬ b < k) : FS l (k + 1) (k + 1) xs := by
  refine ⟨Nat.le_refl _, by have := h.cnt; omega, h.sz, ?_⟩
  rcases h.st with ⟨_, pre, h1, h2⟩ | ⟨h1, _⟩
  · refine .inl ⟨by omega, pre ++ [(l.take k).drop b], ?_, ?_⟩
    · have ht : l.take (k + 1) = l.take k ++ [l[k]] := List.take_succ_eq_append_getElem hk
      have hd : (l.take (k + 1)).drop (k + 1) = [] := by apply List.drop_eq_nil_of_le; simp; omega
      rw [hd, ht, spl_snoc _ _ _ _ h1, if_pos hc]
    · rw [List.filter_append, ← h2, List.filter_cons_of_neg (by rw [ne_false (by rw [take_drop_len (by omega)]; omega)]; decide), List.filter_nil, List.append_nil]
  · omega
theorem FS.lastY {l : Bs} {b : Nat} {xs : List Bs} (h : FS l l.length b xs) (hb : b < l.length) : FS l (l.length + 1) (l.length + 1) (xs ++ [(l.take l.length).drop b]) := by
  refine ⟨Nat.le_refl _, by simp; have := h.cnt; omega, ?_, .inr ⟨rfl, ?_⟩⟩
  · intro x hx
    rcases List.mem_append.1 hx with hx | hx
    · exact h.sz x hx
    · simp only [List.mem_singleton] at hx; subst hx; rw [take_drop_len (by omega)]; omega
  rcases h.st with ⟨_, pre, h1, h2⟩ | ⟨h1, _⟩
  · have h3 := h1
    rw [List.take_of_length_le (Nat.le_refl l.length)] at h3
    rw [h3, List.filter_append, ← h2, List.take_of_length_le (Nat.le_refl l.length), List.filter_cons_of_pos (ne_true (by rw [List.length_drop]; omega)), List.filter_nil]
  · omega
theorem FS.lastN {l : Bs} {b : Nat} {xs : List Bs} (h : FS l l.length b xs) (hb : ¬ b < l.length) : FS l (l.length + 1) (l.length + 1) xs := by
  refine ⟨Nat.le_refl _, by have := h.cnt; omega, h.sz, .inr ⟨rfl, ?_⟩⟩
  rcases h.st with ⟨_, pre, h1, h2⟩ | ⟨h1, _⟩
  · have h3 := h1
    rw [List.take_of_length_le (Nat.le_refl l.length)] at h3
    rw [h3, List.filter_append, ← h2, List.filter_cons_of_neg (by rw [ne_false (by rw [List.length_drop]; omega)]; decide), List.filter_nil, List.append_nil]
  · omega
theorem FS.done {l : Bs} {k b : Nat} {xs : List Bs} (h : FS l k b xs) (hk : ¬ k ≤ l.length) : xs = (spl 32 l).filter ne := by
  rcases h.st with ⟨h1, _⟩ | ⟨_, h2⟩
  · omega
  · exact h2

theorem dig_pos (n : Int) : 0 < (dig n).length := by
  unfold dig
  rw [Lib.decDigits]
  split
  · simp
  · simp
/-- The fields of a written statement. -/
theorem fields_fmtS {s : St} (h : stOk s = true) : (spl 32 (fmtS s)).filter ne = wordB s.op :: argsF s := by
  rw [spl_fmtS, List.filter_eq_self]
  intro x hx
  apply ne_true
  rcases List.mem_cons.1 hx with rfl | hx
  · obtain ⟨h1, h2⟩ := stok_op h
    have : s.op = 1 ∨ s.op = 2 ∨ s.op = 3 ∨ s.op = 4 ∨ s.op = 5 ∨ s.op = 6 ∨ s.op = 7 ∨ s.op = 8 ∨ s.op = 9 ∨ s.op = 10 ∨ s.op = 11 ∨ s.op = 12 ∨ s.op = 13 := by omega
    rcases this with e | e | e | e | e | e | e | e | e | e | e | e | e <;> (rw [e]; decide)
  · unfold argsF at hx
    have d1 := dig_pos s.n
    repeat' split at hx
    all_goals simp only [List.mem_cons, List.mem_nil_iff, or_false] at hx
    · rcases hx with rfl | rfl
      · simp
      · exact d1
    · rcases hx with rfl | rfl | rfl
      · simp
      · simp
      · exact d1
    · rcases hx with rfl | rfl | rfl | rfl <;> simp
    · subst hx; simp
    · subst hx; exact d1
    · rcases hx with rfl | rfl | rfl <;> simp
theorem args_len (s : St) : (argsF s).length ≤ 4 := by
  unfold argsF
  repeat' split
  all_goals simp
end Go.Proofs.YtigefmobejclaaaDoor
