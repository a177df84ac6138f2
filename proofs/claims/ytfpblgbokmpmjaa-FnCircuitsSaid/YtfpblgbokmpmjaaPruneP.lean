/- Pruning, plainly. -/
import Derived.Test.YtfpblgbokmpmjaaEvP
namespace Go.Proofs.Ytfpblgbokmpmjaa
open Go.RowKit
set_option linter.unusedVariables false
set_option linter.unusedSimpArgs false

def bat (l : List Bool) (i : Nat) : Bool := l.getD i false
theorem bat_lt {l : List Bool} {i : Nat} (h : i < l.length) : bat l i = l[i] := by simp [bat, List.getD, List.getElem?_eq_getElem h]
theorem bat_set (l : List Bool) (i j : Nat) : bat (l.set i true) j = (bat l j || decide (i = j ∧ j < l.length)) := by
  unfold bat
  by_cases hj : j < l.length
  · by_cases hi : i = j
    · subst hi; simp [List.getD, hj]
    · simp [List.getD, List.getElem?_set, hi]
  · have h1 : (l.set i true)[j]? = none := List.getElem?_eq_none (by simp; omega)
    have h2 : l[j]? = none := List.getElem?_eq_none (by omega)
    simp [List.getD, h1, h2, hj]
def usesA (g : Gt) : Bool := g.kd == 3 || (g.kd == 4 || g.kd == 5)
def usesB (g : Gt) : Bool := g.kd == 3 || g.kd == 4
def liveStep (l : List Bool) (g : Gt) (on : Bool) : List Bool :=
  if on then (if usesB g then (if usesA g then l.set g.ga.toNat true else l).set g.gb.toNat true else (if usesA g then l.set g.ga.toNat true else l)) else l
@[simp] theorem liveStep_len (l : List Bool) (g : Gt) (on : Bool) : (liveStep l g on).length = l.length := by
  unfold liveStep; repeat (first | split | simp)
def liveD (gs : List Gt) : Nat → List Bool → List Bool
  | 0, l => l
  | k + 1, l => liveD gs k (match gs[k]? with
    | some g => liveStep l g (bat l k)
    | none => l)
def live0 (n : Nat) (os : List Int) : List Bool := os.foldl (fun l o => l.set o.toNat true) (List.replicate n false)
def liveL (gs : List Gt) (os : List Int) : List Bool := liveD gs gs.length (live0 gs.length os)
theorem live0_snoc (n : Nat) {os : List Int} {k : Nat} (hk : k < os.length) : live0 n (os.take (k + 1)) = (live0 n (os.take k)).set os[k].toNat true := by
  unfold live0; rw [List.take_succ_eq_append_getElem hk, List.foldl_append]; rfl
theorem foldset_len (os : List Int) : ∀ l : List Bool, (os.foldl (fun l o => l.set o.toNat true) l).length = l.length := by
  induction os with
  | nil => intro l; rfl
  | cons o r ih => intro l; rw [List.foldl_cons, ih]; simp
@[simp] theorem live0_len (n : Nat) (os : List Int) : (live0 n os).length = n := by unfold live0; rw [foldset_len]; simp
@[simp] theorem liveD_len (gs : List Gt) : ∀ (k : Nat) (l : List Bool), (liveD gs k l).length = l.length
  | 0, l => rfl
  | k + 1, l => by
    unfold liveD
    rw [liveD_len gs k]
    split <;> simp
@[simp] theorem liveL_len (gs : List Gt) (os : List Int) : (liveL gs os).length = gs.length := by simp [liveL]
theorem liveD_step {gs : List Gt} {k : Nat} {g : Gt} (l : List Bool) (h : gs[k]? = some g) : liveD gs (k + 1) l = liveD gs k (liveStep l g (bat l k)) := by
  show liveD gs k _ = _
  rw [h]

theorem bat_step (l : List Bool) (g : Gt) (on : Bool) (j : Nat) :
    bat (liveStep l g on) j = (bat l j || (on && ((usesA g && decide (g.ga.toNat = j ∧ j < l.length)) || (usesB g && decide (g.gb.toNat = j ∧ j < l.length))))) := by
  unfold liveStep
  cases on <;> cases usesA g <;> cases usesB g <;> simp [bat_set, Bool.or_assoc]
theorem bat_foldset (os : List Int) (j : Nat) : ∀ l : List Bool, bat (os.foldl (fun l o => l.set o.toNat true) l) j = true ↔ bat l j = true ∨ (j < l.length ∧ ∃ o ∈ os, o.toNat = j) := by
  induction os with
  | nil => intro l; simp
  | cons o r ih =>
    intro l
    rw [List.foldl_cons, ih, bat_set]
    simp only [Bool.or_eq_true, decide_eq_true_eq, List.length_set, List.mem_cons, exists_eq_or_imp]
    constructor
    · rintro ((h | h) | h)
      · exact .inl h
      · exact .inr ⟨h.2, .inl h.1⟩
      · exact .inr ⟨h.1, .inr h.2⟩
    · rintro (h | ⟨h, h2 | h2⟩)
      · exact .inl (.inl h)
      · exact .inl (.inr ⟨h2, h⟩)
      · exact .inr ⟨h, h2⟩
theorem bat_live0 (n : Nat) (os : List Int) (j : Nat) : bat (live0 n os) j = true ↔ j < n ∧ ∃ o ∈ os, o.toNat = j := by
  unfold live0
  rw [bat_foldset]
  have : bat (List.replicate n false) j = false := by
    unfold bat
    by_cases h : j < n
    · simp [List.getD, h]
    · simp [List.getD, List.getElem?_eq_none, h]
  simp [this]
theorem liveD_mono (gs : List Gt) (j : Nat) : ∀ (k : Nat) (l : List Bool), bat l j = true → bat (liveD gs k l) j = true
  | 0, l, h => h
  | k + 1, l, h => by
    unfold liveD
    refine liveD_mono gs j k _ ?_
    split
    · rw [bat_step, h]; rfl
    · exact h

/-- The wires that a gate reads lie below it. -/
theorem refs_lt {g : Gt} {k : Nat} (h : gateOk g.kd g.ga g.gb k = true) : (usesA g = true → 0 ≤ g.ga ∧ g.ga < k) ∧ (usesB g = true → usesA g = true ∧ 0 ≤ g.gb ∧ g.gb < k) := by
  have := gate_cases h
  simp only [usesA, usesB, Bool.or_eq_true, beq_iff_eq]
  omega
theorem gtsOk_get {gs : List Gt} (h : gtsOk 0 gs = true) {k : Nat} {g : Gt} (hg : gs[k]? = some g) : gateOk g.kd g.ga g.gb k = true := by
  have := gtsOk_take h (k + 1)
  rw [take_snoc hg] at this
  have := (gtsOk_last this).2
  have hk : k < gs.length := by
    rcases Nat.lt_or_ge k gs.length with h | h
    · exact h
    · rw [List.getElem?_eq_none h] at hg; cases hg
  rwa [List.length_take, Nat.min_eq_left (by omega)] at this
theorem liveD_high {gs : List Gt} (h : gtsOk 0 gs = true) (j : Nat) : ∀ (k : Nat) (l : List Bool), k ≤ j → bat (liveD gs k l) j = bat l j
  | 0, l, hk => rfl
  | k + 1, l, hk => by
    unfold liveD
    rw [liveD_high h j k _ (by omega)]
    split
    · rename_i g hg
      have h1 := refs_lt (gtsOk_get h hg)
      rw [bat_step]
      cases ha : usesA g <;> cases hb : usesB g <;> simp [ha, hb] at h1 ⊢ <;> omega
    · rfl
theorem liveD_closed {gs : List Gt} (h : gtsOk 0 gs = true) : ∀ (k : Nat) (l : List Bool), k ≤ gs.length → l.length = gs.length → ∀ (i : Nat) (g : Gt), i < k → gs[i]? = some g → bat (liveD gs k l) i = true →
    (usesA g = true → bat (liveD gs k l) g.ga.toNat = true) ∧ (usesB g = true → bat (liveD gs k l) g.gb.toNat = true)
  | 0, l, hk, hl, i, g, hi, hg, hb => by omega
  | k + 1, l, hk, hl, i, g, hi, hg, hb => by
    by_cases hik : i = k
    · subst hik
      have e := liveD_step l hg
      have h1 := refs_lt (gtsOk_get h hg)
      rw [e, liveD_high h _ _ _ (Nat.le_refl _), bat_step] at hb
      have hon : bat l i = true := by
        cases ho : bat l i
        · simp [ho] at hb
        · rfl
      rw [e]
      refine ⟨fun ha => liveD_mono gs _ _ _ ?_, fun hbb => liveD_mono gs _ _ _ ?_⟩
      · have := h1.1 ha
        rw [bat_step, hon, ha]
        have : g.ga.toNat < l.length := by omega
        simp [this]
      · have := h1.2 hbb
        rw [bat_step, hon, hbb]
        have : g.gb.toNat < l.length := by omega
        simp [this]
    · obtain ⟨g', hg'⟩ : ∃ g', gs[k]? = some g' := ⟨gs[k], List.getElem?_eq_getElem (by omega)⟩
      rw [liveD_step l hg'] at hb ⊢
      exact liveD_closed h k _ (by omega) (by simpa using hl) i g (by omega) hg hb
theorem liveD_why {gs : List Gt} (i : Nat) : ∀ (k : Nat) (l : List Bool), bat (liveD gs k l) i = true →
    bat l i = true ∨ ∃ j g, j < k ∧ gs[j]? = some g ∧ bat (liveD gs k l) j = true ∧ ((usesA g = true ∧ g.ga.toNat = i) ∨ (usesB g = true ∧ g.gb.toNat = i))
  | 0, l, h => .inl h
  | k + 1, l, h => by
    cases hg : gs[k]? with
    | none =>
      have e : liveD gs (k + 1) l = liveD gs k l := by show liveD gs k _ = _; rw [hg]
      rw [e] at h ⊢
      rcases liveD_why i k l h with h | ⟨j, g, h1, h2⟩
      · exact .inl h
      · exact .inr ⟨j, g, by omega, h2⟩
    | some g =>
      rw [liveD_step l hg] at h ⊢
      rcases liveD_why i k _ h with h | ⟨j, g', h1, h2⟩
      · rw [bat_step] at h
        simp only [Bool.or_eq_true, Bool.and_eq_true, decide_eq_true_eq] at h
        rcases h with h | ⟨hon, h⟩
        · exact .inl h
        · refine .inr ⟨k, g, by omega, hg, liveD_mono gs _ _ _ (by rw [bat_step, hon]; rfl), ?_⟩
          rcases h with h | h
          · exact .inl ⟨h.1, h.2.1⟩
          · exact .inr ⟨h.1, h.2.1⟩
      · exact .inr ⟨j, g', by omega, h2⟩

/-- A gate whose wires are numbered anew. -/
def reG (to : List Int) (g : Gt) : Gt := ⟨g.kd, if usesA g then at0 to g.ga else g.ga, if usesB g then at0 to g.gb else g.gb⟩
def prT (l : List Bool) (gs : List Gt) : Nat → List Int × List Gt
  | 0 => (List.replicate gs.length 0, [])
  | k + 1 => match gs[k]? with
    | some g => if bat l k then ((prT l gs k).1.set k (prT l gs k).2.length, (prT l gs k).2 ++ [reG (prT l gs k).1 g]) else prT l gs k
    | none => prT l gs k
theorem prT_step {l : List Bool} {gs : List Gt} {k : Nat} {g : Gt} (hg : gs[k]? = some g) (h : bat l k = true) : prT l gs (k + 1) = ((prT l gs k).1.set k (prT l gs k).2.length, (prT l gs k).2 ++ [reG (prT l gs k).1 g]) := by
  show (match gs[k]? with | some g => _ | none => _) = _
  rw [hg]; simp [h]
theorem prT_skip {l : List Bool} {gs : List Gt} {k : Nat} {g : Gt} (hg : gs[k]? = some g) (h : bat l k = false) : prT l gs (k + 1) = prT l gs k := by
  show (match gs[k]? with | some g => _ | none => _) = _
  rw [hg]; simp [h]
def pruneG (gs : List Gt) (os : List Int) : List Gt := (prT (liveL gs os) gs gs.length).2
def pruneTo (gs : List Gt) (os : List Int) : List Int := (prT (liveL gs os) gs gs.length).1
def pruneO (gs : List Gt) (os : List Int) : List Int := outsOf (pruneTo gs os) os
theorem prT_len (l : List Bool) (gs : List Gt) : ∀ k, (prT l gs k).1.length = gs.length ∧ (prT l gs k).2.length ≤ k
  | 0 => by simp [prT]
  | k + 1 => by
    have ih := prT_len l gs k
    unfold prT
    split
    · split
      · simp; omega
      · omega
    · omega
theorem at0_set {to : List Int} {k i : Nat} {v : Int} (hk : k < to.length) : at0 (to.set k v) (i : Int) = if i = k then v else at0 to i := by
  rw [at0_nat, at0_nat]
  simp only [List.getD, List.getElem?_set]
  by_cases h : i = k
  · subst h; simp [hk]
  · have : ¬ k = i := fun e => h e.symm
    simp [h, this]
/-- Where a live wire lies behind, and what lies there. -/
theorem prT_at {l : List Bool} {gs : List Gt} (i : Nat) (g : Gt) (hg : gs[i]? = some g) (hb : bat l i = true) : ∀ k, i < k → k ≤ gs.length → 0 ≤ at0 (prT l gs k).1 i ∧ at0 (prT l gs k).1 i < (prT l gs k).2.length ∧
    (prT l gs k).2[(at0 (prT l gs k).1 i).toNat]? = some (reG (prT l gs i).1 g)
  | 0, h, _ => by omega
  | k + 1, h, hk => by
    have hl := prT_len l gs k
    obtain ⟨g', hg'⟩ : ∃ g', gs[k]? = some g' := ⟨gs[k], List.getElem?_eq_getElem (by omega)⟩
    by_cases hik : i = k
    · subst hik
      obtain rfl : g' = g := by rw [hg] at hg'; exact (Option.some.inj hg').symm
      rw [prT_step hg hb]
      simp only [at0_set (show i < (prT l gs i).1.length by omega), if_true]
      refine ⟨by omega, by simp <;> omega, by simp⟩
    · have ih := prT_at i g hg hb k (by omega) (by omega)
      cases hbk : bat l k
      · rw [prT_skip hg' hbk]; exact ih
      · rw [prT_step hg' hbk]
        simp only [at0_set (show k < (prT l gs k).1.length by omega), if_neg hik]
        refine ⟨ih.1, by simp; omega, ?_⟩
        rw [List.getElem?_append_left (by omega)]
        exact ih.2.2
/-- The number of a wire does not turn later. -/
theorem prT_same {l : List Bool} {gs : List Gt} (i : Nat) : ∀ k m, i < k → k ≤ m → m ≤ gs.length → at0 (prT l gs m).1 i = at0 (prT l gs k).1 i := by
  intro k m hik hkm hm
  induction m with
  | zero => omega
  | succ m ih =>
    by_cases hkm' : k = m + 1
    · rw [hkm']
    · have hl := prT_len l gs m
      obtain ⟨g', hg'⟩ : ∃ g', gs[m]? = some g' := ⟨gs[m], List.getElem?_eq_getElem (by omega)⟩
      cases hbk : bat l m
      · rw [prT_skip hg' hbk]; exact ih (by omega) (by omega)
      · rw [prT_step hg' hbk]
        simp only [at0_set (show m < (prT l gs m).1.length by omega), if_neg (show i ≠ m by omega)]
        exact ih (by omega) (by omega)
/-- Every gate behind comes from a live one. -/
theorem prT_from {l : List Bool} {gs : List Gt} : ∀ k, k ≤ gs.length → ∀ m, m < (prT l gs k).2.length → ∃ i g, i < k ∧ gs[i]? = some g ∧ bat l i = true ∧ at0 (prT l gs k).1 i = m
  | 0, hk, m, hm => by simp [prT] at hm
  | k + 1, hk, m, hm => by
    have hl := prT_len l gs k
    obtain ⟨g', hg'⟩ : ∃ g', gs[k]? = some g' := ⟨gs[k], List.getElem?_eq_getElem (by omega)⟩
    cases hbk : bat l k
    · rw [prT_skip hg' hbk] at hm ⊢
      obtain ⟨i, g, h1, h2⟩ := prT_from (l := l) (gs := gs) k (by omega) m hm
      exact ⟨i, g, by omega, h2⟩
    · rw [prT_step hg' hbk] at hm ⊢
      simp only [List.length_append, List.length_singleton] at hm
      by_cases hmk : m = (prT l gs k).2.length
      · refine ⟨k, g', by omega, hg', hbk, ?_⟩
        simp only [at0_set (show k < (prT l gs k).1.length by omega), if_true]
        omega
      · obtain ⟨i, g, h1, h2, h3, h4⟩ := prT_from (l := l) (gs := gs) k (by omega) m (by omega)
        refine ⟨i, g, by omega, h2, h3, ?_⟩
        simp only [at0_set (show k < (prT l gs k).1.length by omega), if_neg (show i ≠ k by omega)]
        exact h4
end Go.Proofs.Ytfpblgbokmpmjaa
