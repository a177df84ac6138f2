/- PruneP, PruneF, Count, CircFacts, SimpP, BldF, BldS, StmtA, StmtB, StmtC, SStmt, SStmtB, SStmtC, ProgOk, Unr, Unroll, in one text. -/
import Derived.Test.YtfcijloiebnloaaEvP
import Derived.Test.YtfcijloiebnloaaGts
import Derived.Test.YtfcijloiebnloaaBldP
import Derived.Test.YtfcijloiebnloaaStmt
import Derived.Test.YtfcijloiebnloaaQuiet
import Derived.Test.YtfcijloiebnloaaSts
import Derived.Test.YtfcijloiebnloaaStmtList
import Derived.Test.YtfcijloiebnloaaOpen
import Derived.Maps.AppendAt
/- PruneP -/
namespace Go.Proofs.Ytfcijloiebnloaa
open Go.RowKit
set_option linter.unusedVariables false
set_option linter.unusedSimpArgs false

def bat (l : List Bool) (i : Nat) : Bool := l.getD i false
theorem bat_lt {l : List Bool} {i : Nat} (h : i < l.length) : bat l i = l[i] := by simp [bat, List.getD, List.getElem?_eq_getElem h]
theorem bat_set (l : List Bool) (i j : Nat) : bat (l.set i true) j = (bat l j || decide (i = j ∧ j < l.length)) := by
  unfold bat
  by_cases hj : j < l.length
  · by_cases hi : i = j
    · subst hi; simp [List.getD, hj]
    · simp [List.getD, List.getElem?_set, hi]
  · have h1 : (l.set i true)[j]? = none := List.getElem?_eq_none (by simp; omega)
    have h2 : l[j]? = none := List.getElem?_eq_none (by omega)
    simp [List.getD, h1, h2, hj]
def usesA (g : Gt) : Bool := g.kd == 3 || (g.kd == 4 || g.kd == 5)
def usesB (g : Gt) : Bool := g.kd == 3 || g.kd == 4
def liveStep (l : List Bool) (g : Gt) (on : Bool) : List Bool :=
  if on then (if usesB g then (if usesA g then l.set g.ga.toNat true else l).set g.gb.toNat true else (if usesA g then l.set g.ga.toNat true else l)) else l
@[simp] theorem liveStep_len (l : List Bool) (g : Gt) (on : Bool) : (liveStep l g on).length = l.length := by
  unfold liveStep; repeat (first | split | simp)
def liveD (gs : List Gt) : Nat → List Bool → List Bool
  | 0, l => l
  | k + 1, l => liveD gs k (match gs[k]? with
    | some g => liveStep l g (bat l k)
    | none => l)
def live0 (n : Nat) (os : List Int) : List Bool := os.foldl (fun l o => l.set o.toNat true) (List.replicate n false)
def liveL (gs : List Gt) (os : List Int) : List Bool := liveD gs gs.length (live0 gs.length os)
theorem live0_snoc (n : Nat) {os : List Int} {k : Nat} (hk : k < os.length) : live0 n (os.take (k + 1)) = (live0 n (os.take k)).set os[k].toNat true := by
  unfold live0; rw [List.take_succ_eq_append_getElem hk, List.foldl_append]; rfl
theorem foldset_len (os : List Int) : ∀ l : List Bool, (os.foldl (fun l o => l.set o.toNat true) l).length = l.length := by
  induction os with
  | nil => intro l; rfl
  | cons o r ih => intro l; rw [List.foldl_cons, ih]; simp
@[simp] theorem live0_len (n : Nat) (os : List Int) : (live0 n os).length = n := by unfold live0; rw [foldset_len]; simp
@[simp] theorem liveD_len (gs : List Gt) : ∀ (k : Nat) (l : List Bool), (liveD gs k l).length = l.length
  | 0, l => rfl
  | k + 1, l => by
    unfold liveD
    rw [liveD_len gs k]
    split <;> simp
@[simp] theorem liveL_len (gs : List Gt) (os : List Int) : (liveL gs os).length = gs.length := by simp [liveL]
theorem liveD_step {gs : List Gt} {k : Nat} {g : Gt} (l : List Bool) (h : gs[k]? = some g) : liveD gs (k + 1) l = liveD gs k (liveStep l g (bat l k)) := by
  show liveD gs k _ = _
  rw [h]

theorem bat_step (l : List Bool) (g : Gt) (on : Bool) (j : Nat) :
    bat (liveStep l g on) j = (bat l j || (on && ((usesA g && decide (g.ga.toNat = j ∧ j < l.length)) || (usesB g && decide (g.gb.toNat = j ∧ j < l.length))))) := by
  unfold liveStep
  cases on <;> cases usesA g <;> cases usesB g <;> simp [bat_set, Bool.or_assoc]
theorem bat_foldset (os : List Int) (j : Nat) : ∀ l : List Bool, bat (os.foldl (fun l o => l.set o.toNat true) l) j = true ↔ bat l j = true ∨ (j < l.length ∧ ∃ o ∈ os, o.toNat = j) := by
  induction os with
  | nil => intro l; simp
  | cons o r ih =>
    intro l
    rw [List.foldl_cons, ih, bat_set]
    simp only [Bool.or_eq_true, decide_eq_true_eq, List.length_set, List.mem_cons, exists_eq_or_imp]
    constructor
    · rintro ((h | h) | h)
      · exact .inl h
      · exact .inr ⟨h.2, .inl h.1⟩
      · exact .inr ⟨h.1, .inr h.2⟩
    · rintro (h | ⟨h, h2 | h2⟩)
      · exact .inl (.inl h)
      · exact .inl (.inr ⟨h2, h⟩)
      · exact .inr ⟨h, h2⟩
theorem bat_live0 (n : Nat) (os : List Int) (j : Nat) : bat (live0 n os) j = true ↔ j < n ∧ ∃ o ∈ os, o.toNat = j := by
  unfold live0
  rw [bat_foldset]
  have : bat (List.replicate n false) j = false := by
    unfold bat
    by_cases h : j < n
    · simp [List.getD, h]
    · simp [List.getD, List.getElem?_eq_none, h]
  simp [this]
theorem liveD_mono (gs : List Gt) (j : Nat) : ∀ (k : Nat) (l : List Bool), bat l j = true → bat (liveD gs k l) j = true
  | 0, l, h => h
  | k + 1, l, h => by
    unfold liveD
    refine liveD_mono gs j k _ ?_
    split
    · rw [bat_step, h]; rfl
    · exact h

/-- The wires that a gate reads lie below it. -/
theorem refs_lt {g : Gt} {k : Nat} (h : gateOk g.kd g.ga g.gb k = true) : (usesA g = true → 0 ≤ g.ga ∧ g.ga < k) ∧ (usesB g = true → usesA g = true ∧ 0 ≤ g.gb ∧ g.gb < k) := by
  have := gate_cases h
  simp only [usesA, usesB, Bool.or_eq_true, beq_iff_eq]
  omega
theorem gtsOk_get {gs : List Gt} (h : gtsOk 0 gs = true) {k : Nat} {g : Gt} (hg : gs[k]? = some g) : gateOk g.kd g.ga g.gb k = true := by
  have := gtsOk_take h (k + 1)
  rw [take_snoc hg] at this
  have := (gtsOk_last this).2
  have hk : k < gs.length := by
    rcases Nat.lt_or_ge k gs.length with h | h
    · exact h
    · rw [List.getElem?_eq_none h] at hg; cases hg
  rwa [List.length_take, Nat.min_eq_left (by omega)] at this
theorem liveD_high {gs : List Gt} (h : gtsOk 0 gs = true) (j : Nat) : ∀ (k : Nat) (l : List Bool), k ≤ j → bat (liveD gs k l) j = bat l j
  | 0, l, hk => rfl
  | k + 1, l, hk => by
    unfold liveD
    rw [liveD_high h j k _ (by omega)]
    split
    · rename_i g hg
      have h1 := refs_lt (gtsOk_get h hg)
      rw [bat_step]
      cases ha : usesA g <;> cases hb : usesB g <;> simp [ha, hb] at h1 ⊢ <;> omega
    · rfl
theorem liveD_closed {gs : List Gt} (h : gtsOk 0 gs = true) : ∀ (k : Nat) (l : List Bool), k ≤ gs.length → l.length = gs.length → ∀ (i : Nat) (g : Gt), i < k → gs[i]? = some g → bat (liveD gs k l) i = true →
    (usesA g = true → bat (liveD gs k l) g.ga.toNat = true) ∧ (usesB g = true → bat (liveD gs k l) g.gb.toNat = true)
  | 0, l, hk, hl, i, g, hi, hg, hb => by omega
  | k + 1, l, hk, hl, i, g, hi, hg, hb => by
    by_cases hik : i = k
    · subst hik
      have e := liveD_step l hg
      have h1 := refs_lt (gtsOk_get h hg)
      rw [e, liveD_high h _ _ _ (Nat.le_refl _), bat_step] at hb
      have hon : bat l i = true := by
        cases ho : bat l i
        · simp [ho] at hb
        · rfl
      rw [e]
      refine ⟨fun ha => liveD_mono gs _ _ _ ?_, fun hbb => liveD_mono gs _ _ _ ?_⟩
      · have := h1.1 ha
        rw [bat_step, hon, ha]
        have : g.ga.toNat < l.length := by omega
        simp [this]
      · have := h1.2 hbb
        rw [bat_step, hon, hbb]
        have : g.gb.toNat < l.length := by omega
        simp [this]
    · obtain ⟨g', hg'⟩ : ∃ g', gs[k]? = some g' := ⟨gs[k], List.getElem?_eq_getElem (by omega)⟩
      rw [liveD_step l hg'] at hb ⊢
      exact liveD_closed h k _ (by omega) (by simpa using hl) i g (by omega) hg hb
theorem liveD_why {gs : List Gt} (i : Nat) : ∀ (k : Nat) (l : List Bool), bat (liveD gs k l) i = true →
    bat l i = true ∨ ∃ j g, j < k ∧ gs[j]? = some g ∧ bat (liveD gs k l) j = true ∧ ((usesA g = true ∧ g.ga.toNat = i) ∨ (usesB g = true ∧ g.gb.toNat = i))
  | 0, l, h => .inl h
  | k + 1, l, h => by
    cases hg : gs[k]? with
    | none =>
      have e : liveD gs (k + 1) l = liveD gs k l := by show liveD gs k _ = _; rw [hg]
      rw [e] at h ⊢
      rcases liveD_why i k l h with h | ⟨j, g, h1, h2⟩
      · exact .inl h
      · exact .inr ⟨j, g, by omega, h2⟩
    | some g =>
      rw [liveD_step l hg] at h ⊢
      rcases liveD_why i k _ h with h | ⟨j, g', h1, h2⟩
      · rw [bat_step] at h
        simp only [Bool.or_eq_true, Bool.and_eq_true, decide_eq_true_eq] at h
        rcases h with h | ⟨hon, h⟩
        · exact .inl h
        · refine .inr ⟨k, g, by omega, hg, liveD_mono gs _ _ _ (by rw [bat_step, hon]; rfl), ?_⟩
          rcases h with h | h
          · exact .inl ⟨h.1, h.2.1⟩
          · exact .inr ⟨h.1, h.2.1⟩
      · exact .inr ⟨j, g', by omega, h2⟩

/-- A gate whose wires are numbered anew. -/
def reG (to : List Int) (g : Gt) : Gt := ⟨g.kd, if usesA g then at0 to g.ga else g.ga, if usesB g then at0 to g.gb else g.gb⟩
def prT (l : List Bool) (gs : List Gt) : Nat → List Int × List Gt
  | 0 => (List.replicate gs.length 0, [])
  | k + 1 => match gs[k]? with
    | some g => if bat l k then ((prT l gs k).1.set k (prT l gs k).2.length, (prT l gs k).2 ++ [reG (prT l gs k).1 g]) else prT l gs k
    | none => prT l gs k
theorem prT_step {l : List Bool} {gs : List Gt} {k : Nat} {g : Gt} (hg : gs[k]? = some g) (h : bat l k = true) : prT l gs (k + 1) = ((prT l gs k).1.set k (prT l gs k).2.length, (prT l gs k).2 ++ [reG (prT l gs k).1 g]) := by
  show (match gs[k]? with | some g => _ | none => _) = _
  rw [hg]; simp [h]
theorem prT_skip {l : List Bool} {gs : List Gt} {k : Nat} {g : Gt} (hg : gs[k]? = some g) (h : bat l k = false) : prT l gs (k + 1) = prT l gs k := by
  show (match gs[k]? with | some g => _ | none => _) = _
  rw [hg]; simp [h]
def pruneG (gs : List Gt) (os : List Int) : List Gt := (prT (liveL gs os) gs gs.length).2
def pruneTo (gs : List Gt) (os : List Int) : List Int := (prT (liveL gs os) gs gs.length).1
def pruneO (gs : List Gt) (os : List Int) : List Int := outsOf (pruneTo gs os) os
theorem prT_len (l : List Bool) (gs : List Gt) : ∀ k, (prT l gs k).1.length = gs.length ∧ (prT l gs k).2.length ≤ k
  | 0 => by simp [prT]
  | k + 1 => by
    have ih := prT_len l gs k
    unfold prT
    split
    · split
      · simp; omega
      · omega
    · omega
theorem at0_set {to : List Int} {k i : Nat} {v : Int} (hk : k < to.length) : at0 (to.set k v) (i : Int) = if i = k then v else at0 to i := by
  rw [at0_nat, at0_nat]
  simp only [List.getD, List.getElem?_set]
  by_cases h : i = k
  · subst h; simp [hk]
  · have : ¬ k = i := fun e => h e.symm
    simp [h, this]
/-- Where a live wire lies behind, and what lies there. -/
theorem prT_at {l : List Bool} {gs : List Gt} (i : Nat) (g : Gt) (hg : gs[i]? = some g) (hb : bat l i = true) : ∀ k, i < k → k ≤ gs.length → 0 ≤ at0 (prT l gs k).1 i ∧ at0 (prT l gs k).1 i < (prT l gs k).2.length ∧
    (prT l gs k).2[(at0 (prT l gs k).1 i).toNat]? = some (reG (prT l gs i).1 g)
  | 0, h, _ => by omega
  | k + 1, h, hk => by
    have hl := prT_len l gs k
    obtain ⟨g', hg'⟩ : ∃ g', gs[k]? = some g' := ⟨gs[k], List.getElem?_eq_getElem (by omega)⟩
    by_cases hik : i = k
    · subst hik
      obtain rfl : g' = g := by rw [hg] at hg'; exact (Option.some.inj hg').symm
      rw [prT_step hg hb]
      simp only [at0_set (show i < (prT l gs i).1.length by omega), if_true]
      refine ⟨by omega, by simp <;> omega, by simp⟩
    · have ih := prT_at i g hg hb k (by omega) (by omega)
      cases hbk : bat l k
      · rw [prT_skip hg' hbk]; exact ih
      · rw [prT_step hg' hbk]
        simp only [at0_set (show k < (prT l gs k).1.length by omega), if_neg hik]
        refine ⟨ih.1, by simp; omega, ?_⟩
        rw [List.getElem?_append_left (by omega)]
        exact ih.2.2
/-- The number of a wire does not turn later. -/
theorem prT_same {l : List Bool} {gs : List Gt} (i : Nat) : ∀ k m, i < k → k ≤ m → m ≤ gs.length → at0 (prT l gs m).1 i = at0 (prT l gs k).1 i := by
  intro k m hik hkm hm
  induction m with
  | zero => omega
  | succ m ih =>
    by_cases hkm' : k = m + 1
    · rw [hkm']
    · have hl := prT_len l gs m
      obtain ⟨g', hg'⟩ : ∃ g', gs[m]? = some g' := ⟨gs[m], List.getElem?_eq_getElem (by omega)⟩
      cases hbk : bat l m
      · rw [prT_skip hg' hbk]; exact ih (by omega) (by omega)
      · rw [prT_step hg' hbk]
        simp only [at0_set (show m < (prT l gs m).1.length by omega), if_neg (show i ≠ m by omega)]
        exact ih (by omega) (by omega)
/-- Every gate behind comes from a live one. -/
theorem prT_from {l : List Bool} {gs : List Gt} : ∀ k, k ≤ gs.length → ∀ m, m < (prT l gs k).2.length → ∃ i g, i < k ∧ gs[i]? = some g ∧ bat l i = true ∧ at0 (prT l gs k).1 i = m
  | 0, hk, m, hm => by simp [prT] at hm
  | k + 1, hk, m, hm => by
    have hl := prT_len l gs k
    obtain ⟨g', hg'⟩ : ∃ g', gs[k]? = some g' := ⟨gs[k], List.getElem?_eq_getElem (by omega)⟩
    cases hbk : bat l k
    · rw [prT_skip hg' hbk] at hm ⊢
      obtain ⟨i, g, h1, h2⟩ := prT_from (l := l) (gs := gs) k (by omega) m hm
      exact ⟨i, g, by omega, h2⟩
    · rw [prT_step hg' hbk] at hm ⊢
      simp only [List.length_append, List.length_singleton] at hm
      by_cases hmk : m = (prT l gs k).2.length
      · refine ⟨k, g', by omega, hg', hbk, ?_⟩
        simp only [at0_set (show k < (prT l gs k).1.length by omega), if_true]
        omega
      · obtain ⟨i, g, h1, h2, h3, h4⟩ := prT_from (l := l) (gs := gs) k (by omega) m (by omega)
        refine ⟨i, g, by omega, h2, h3, ?_⟩
        simp only [at0_set (show k < (prT l gs k).1.length by omega), if_neg (show i ≠ k by omega)]
        exact h4
end Go.Proofs.Ytfcijloiebnloaa

/- PruneF -/
namespace Go.Proofs.Ytfcijloiebnloaa
open Go.RowKit
set_option linter.unusedVariables false
set_option linter.unusedSimpArgs false

theorem bat_bound {l : List Bool} {i : Nat} (h : bat l i = true) : i < l.length := by
  rcases Nat.lt_or_ge i l.length with hl | hl
  · exact hl
  · simp [bat, List.getD, List.getElem?_eq_none hl] at h
theorem live_on {gs : List Gt} (h : gtsOk 0 gs = true) {k : Nat} {l : List Bool} (hk : k < gs.length) (hb : bat (liveD gs (k + 1) l) k = true) : bat l k = true := by
  have hg : gs[k]? = some gs[k] := List.getElem?_eq_getElem hk
  have h1 := refs_lt (gtsOk_get h hg)
  rw [liveD_step l hg, liveD_high h _ _ _ (Nat.le_refl _), bat_step] at hb
  cases ho : bat l k
  · simp [ho] at hb
  · rfl
theorem gateOk_re {g : Gt} {k : Nat} {m : Int} (h : gateOk g.kd g.ga g.gb k = true) (to : List Int) (ha : usesA g = true → 0 ≤ at0 to g.ga ∧ at0 to g.ga < m) (hb : usesB g = true → 0 ≤ at0 to g.gb ∧ at0 to g.gb < m) :
    gateOk (reG to g).kd (reG to g).ga (reG to g).gb m = true := by
  obtain ⟨kd, ga, gb⟩ := g
  rcases gate_cases h with h | h | h | h | h
  · obtain ⟨h1, h2, h3⟩ := h
    simp only at h1 h2 h3; subst h1; subst h2
    simp [reG, usesA, usesB, gateOk, inB]; omega
  · obtain ⟨h1, h2, h3⟩ := h
    simp only at h1 h2 h3; subst h1; subst h2
    simp [reG, usesA, usesB, gateOk, inB]; omega
  · obtain ⟨h1, h2⟩ := h
    simp only at h1; subst h1
    have h3 := ha (by simp [usesA]); have h4 := hb (by simp [usesB])
    simp [reG, usesA, usesB, gateOk] at h3 h4 ⊢; omega
  · obtain ⟨h1, h2⟩ := h
    simp only at h1; subst h1
    have h3 := ha (by simp [usesA]); have h4 := hb (by simp [usesB])
    simp [reG, usesA, usesB, gateOk] at h3 h4 ⊢; omega
  · obtain ⟨h1, h2, h3⟩ := h
    simp only at h1 h2; subst h1; subst h2
    have h3 := ha (by simp [usesA])
    simp [reG, usesA, usesB, gateOk] at h3 ⊢; omega

theorem get_of {gs : List Gt} (k : Nat) (hk : k < gs.length) : gs[k]? = some gs[k] := List.getElem?_eq_getElem hk
theorem at0_evalW_take {gs : List Gt} {bs : List Int} {k : Nat} {a : Int} (h0 : 0 ≤ a) (h1 : a < k) (hk : k ≤ gs.length) : at0 (evalW bs gs) a = at0 (evalW bs (gs.take k)) a := by
  have e : ∀ m, k ≤ m → m ≤ gs.length → at0 (evalW bs (gs.take m)) a = at0 (evalW bs (gs.take k)) a := by
    intro m
    induction m with
    | zero => intro h2 h3; rw [show k = 0 by omega]
    | succ m ih =>
      intro h2 h3
      by_cases hm : k = m + 1
      · rw [hm]
      · rw [evalW_snoc (get_of m (by omega)), at0_append (by rw [evalW_len, List.length_take]; omega)]
        exact ih (by omega) (by omega)
  have := e gs.length hk (Nat.le_refl _)
  rwa [List.take_length] at this
theorem evalW_at {gs : List Gt} (bs : List Int) {k : Nat} {g : Gt} (hg : gs[k]? = some g) (hk : k < gs.length) : at0 (evalW bs gs) (k : Int) = gval bs (evalW bs (gs.take k)) g := by
  rw [at0_evalW_take (k := k + 1) (by omega) (by omega) (by omega), evalW_snoc hg, at0_nat]
  have hl : (evalW bs (gs.take k)).length = k := by rw [evalW_len, List.length_take]; omega
  simp [List.getD, List.getElem?_append_right, hl]
theorem gval_same (bs : List Int) {o1 o2 : List Int} {g1 g2 : Gt} (hk : g1.kd = g2.kd) (h1 : usesA g1 = false → g1.ga = g2.ga) (ha : usesA g1 = true → at0 o1 g1.ga = at0 o2 g2.ga) (hb : usesB g1 = true → at0 o1 g1.gb = at0 o2 g2.gb) {m : Int} (hok : gateOk g1.kd g1.ga g1.gb m = true) :
    gval bs o1 g1 = gval bs o2 g2 := by
  obtain ⟨k1, a1, b1⟩ := g1
  obtain ⟨k2, a2, b2⟩ := g2
  simp only at hk; subst hk
  simp only [usesA, usesB] at h1 ha hb
  unfold gval
  by_cases h3 : k1 = 3
  · subst h3; simp at ha hb; simp [ha, hb]
  by_cases h4 : k1 = 4
  · subst h4; simp at ha hb; simp [ha, hb]
  by_cases h5 : k1 = 5
  · subst h5; simp at ha; simp [ha]
  have : k1 = 1 ∨ k1 = 2 := by
    by_cases e1 : k1 = 1
    · exact .inl e1
    by_cases e2 : k1 = 2
    · exact .inr e2
    exfalso
    simp [gateOk, e1, e2, h3, h4, h5] at hok
  have e := h1 (by simp [h3, h4, h5])
  rcases this with rfl | rfl <;> simp [e]

theorem live_closed {gs : List Gt} {os : List Int} (h : circOk gs os = true) (i : Nat) (g : Gt) (hg : gs[i]? = some g) (hb : bat (liveL gs os) i = true) :
    (usesA g = true → bat (liveL gs os) g.ga.toNat = true) ∧ (usesB g = true → bat (liveL gs os) g.gb.toNat = true) := by
  have hi : i < gs.length := by have := bat_bound hb; simpa using this
  exact liveD_closed (circ_parts h).1 gs.length _ (Nat.le_refl _) (by simp) i g hi hg hb
theorem live_out {gs : List Gt} {os : List Int} (h : circOk gs os = true) (o : Int) (ho : o ∈ os) : 0 ≤ o ∧ o < gs.length ∧ bat (liveL gs os) o.toNat = true := by
  have h1 := allB_iff.1 (circ_parts h).2.1 o ho
  exact ⟨h1.1, by omega, liveD_mono _ _ _ _ ((bat_live0 _ _ _).2 ⟨by omega, o, ho, rfl⟩)⟩
/-- A wire that a live gate reads has its number. -/
theorem ref_at {gs : List Gt} {os : List Int} (h : circOk gs os = true) {k : Nat} {g : Gt} (hg : gs[k]? = some g) (hb : bat (liveL gs os) k = true) (hk : k < gs.length) :
    (usesA g = true → 0 ≤ at0 (prT (liveL gs os) gs k).1 g.ga ∧ at0 (prT (liveL gs os) gs k).1 g.ga < (prT (liveL gs os) gs k).2.length) ∧
    (usesB g = true → 0 ≤ at0 (prT (liveL gs os) gs k).1 g.gb ∧ at0 (prT (liveL gs os) gs k).1 g.gb < (prT (liveL gs os) gs k).2.length) := by
  have h1 := refs_lt (gtsOk_get (circ_parts h).1 hg)
  have h2 := live_closed h k g hg hb
  have key : ∀ a : Int, 0 ≤ a → a < k → bat (liveL gs os) a.toNat = true → 0 ≤ at0 (prT (liveL gs os) gs k).1 a ∧ at0 (prT (liveL gs os) gs k).1 a < (prT (liveL gs os) gs k).2.length := by
    intro a h3 h4 h5
    have h6 := prT_at a.toNat gs[a.toNat] (List.getElem?_eq_getElem (by omega)) h5 k (by omega) (by omega)
    rw [Int.toNat_of_nonneg h3] at h6
    exact ⟨h6.1, h6.2.1⟩
  refine ⟨fun ha => key _ (h1.1 ha).1 (h1.1 ha).2 (h2.1 ha), fun hb => key _ (h1.2 hb).2.1 (h1.2 hb).2.2 (h2.2 hb)⟩
theorem prT_ok {gs : List Gt} {os : List Int} (h : circOk gs os = true) : ∀ k, k ≤ gs.length → gtsOk 0 (prT (liveL gs os) gs k).2 = true
  | 0, _ => rfl
  | k + 1, hk => by
    have hg := get_of (gs := gs) k (by omega)
    have ih := prT_ok h k (by omega)
    cases hb : bat (liveL gs os) k
    · rw [prT_skip hg hb]; exact ih
    · rw [prT_step hg hb]
      have h1 := ref_at h hg hb (by omega)
      have h2 := gateOk_re (m := ((prT (liveL gs os) gs k).2.length : Int)) (gtsOk_get (circ_parts h).1 hg) (prT (liveL gs os) gs k).1 h1.1 h1.2
      rw [gtsOk_append, ih]
      simp [gtsOk, h2]
theorem out_at {gs : List Gt} {os : List Int} (h : circOk gs os = true) (o : Int) (ho : o ∈ os) : 0 ≤ at0 (pruneTo gs os) o ∧ at0 (pruneTo gs os) o < (pruneG gs os).length := by
  obtain ⟨h1, h2, h3⟩ := live_out h o ho
  have h6 := prT_at o.toNat gs[o.toNat] (List.getElem?_eq_getElem (by omega)) h3 gs.length (by omega) (Nat.le_refl _)
  rw [Int.toNat_of_nonneg h1] at h6
  exact ⟨h6.1, h6.2.1⟩
theorem prune_ok {gs : List Gt} {os : List Int} (h : circOk gs os = true) : circOk (pruneG gs os) (pruneO gs os) = true := by
  have h1 := prT_ok h gs.length (Nat.le_refl _)
  have h2 := (prT_len (liveL gs os) gs gs.length).2
  have h3 := (circ_parts h).2.2
  have h4 : allB (pruneO gs os) 0 (((pruneG gs os).length : Int) - 1) = true := by
    rw [allB_iff]
    intro x hx
    obtain ⟨o, ho, rfl⟩ := List.mem_map.1 hx
    have := out_at h o ho
    omega
  unfold circOk
  rw [h4, show gtsOk 0 (pruneG gs os) = true from h1]
  have h5 : (pruneG gs os).length ≤ 6000 := Nat.le_trans h2 h3
  simp [h5]
theorem prT_eval {gs : List Gt} {os : List Int} (h : circOk gs os = true) (bs : List Int) : ∀ k, k ≤ gs.length → ∀ i, i < k → bat (liveL gs os) i = true →
    at0 (evalW bs (prT (liveL gs os) gs k).2) (at0 (prT (liveL gs os) gs k).1 i) = at0 (evalW bs gs) (i : Int)
  | 0, _, i, hi, _ => by omega
  | k + 1, hk, i, hi, hbi => by
    have hg := get_of (gs := gs) k (by omega)
    have ih := prT_eval h bs k (by omega)
    have hl := prT_len (liveL gs os) gs k
    cases hb : bat (liveL gs os) k
    · rw [prT_skip hg hb]
      by_cases hik : i = k
      · subst hik; rw [hb] at hbi; cases hbi
      · exact ih i (by omega) hbi
    · rw [prT_step hg hb]
      simp only [at0_set (show k < (prT (liveL gs os) gs k).1.length by omega), evalW_append]
      by_cases hik : i = k
      · subst hik
        rw [if_pos rfl, at0_nat]
        have e : (evalW bs (prT (liveL gs os) gs i).2 ++ [gval bs (evalW bs (prT (liveL gs os) gs i).2) (reG (prT (liveL gs os) gs i).1 gs[i])]).getD (prT (liveL gs os) gs i).2.length 0 = gval bs (evalW bs (prT (liveL gs os) gs i).2) (reG (prT (liveL gs os) gs i).1 gs[i]) := by
          simp [List.getD, List.getElem?_append_right, evalW_len]
        rw [e, evalW_at bs hg (by omega)]
        have hok := gtsOk_get (circ_parts h).1 hg
        have h1 := refs_lt hok
        have h2 := live_closed h i _ hg hb
        have key : ∀ a : Int, 0 ≤ a → a < i → bat (liveL gs os) a.toNat = true → at0 (evalW bs (gs.take i)) a = at0 (evalW bs (prT (liveL gs os) gs i).2) (at0 (prT (liveL gs os) gs i).1 a) := by
          intro a h3 h4 h5
          have := ih a.toNat (by omega) h5
          rw [Int.toNat_of_nonneg h3] at this
          exact (this.trans (at0_evalW_take (gs := gs) h3 h4 (by omega))).symm
        obtain ⟨g, hgg⟩ : ∃ g, g = gs[i] := ⟨_, rfl⟩
        rw [← hgg] at hok h1 h2 ⊢
        have ea : usesA g = true → at0 (evalW bs (gs.take i)) g.ga = at0 (evalW bs (prT (liveL gs os) gs i).2) (reG (prT (liveL gs os) gs i).1 g).ga := by
          intro e
          have e' : (reG (prT (liveL gs os) gs i).1 g).ga = at0 (prT (liveL gs os) gs i).1 g.ga := by unfold reG; rw [if_pos e]
          rw [e']; exact key _ (h1.1 e).1 (h1.1 e).2 (h2.1 e)
        have eb : usesB g = true → at0 (evalW bs (gs.take i)) g.gb = at0 (evalW bs (prT (liveL gs os) gs i).2) (reG (prT (liveL gs os) gs i).1 g).gb := by
          intro e
          have e' : (reG (prT (liveL gs os) gs i).1 g).gb = at0 (prT (liveL gs os) gs i).1 g.gb := by unfold reG; rw [if_pos e]
          rw [e']; exact key _ (h1.2 e).2.1 (h1.2 e).2.2 (h2.2 e)
        exact (gval_same bs (g1 := g) (g2 := reG (prT (liveL gs os) gs i).1 g) rfl (fun e => by unfold reG; rw [if_neg (by simp [e])]) ea eb hok).symm
      · rw [if_neg hik]
        have h6 := prT_at i gs[i] (get_of (gs := gs) i (by omega)) hbi k (by omega) (by omega)
        rw [at0_append (by rw [evalW_len]; omega)]
        exact ih i (by omega) hbi
theorem prune_eval {gs : List Gt} {os : List Int} (h : circOk gs os = true) (bs : List Int) : evalOuts (pruneG gs os) (pruneO gs os) bs = evalOuts gs os bs ∧ evalB (pruneG gs os) (pruneO gs os) bs = evalB gs os bs := by
  have e2 : evalB (pruneG gs os) (pruneO gs os) bs = evalB gs os bs := by unfold evalB; rw [prune_ok h, h]
  refine ⟨?_, e2⟩
  unfold evalOuts
  rw [e2]
  split
  · unfold pruneO outsOf
    rw [List.map_map]
    refine List.map_congr_left fun o ho => ?_
    obtain ⟨h1, h2, h3⟩ := live_out h o ho
    have := prT_eval h bs gs.length (Nat.le_refl _) o.toNat (by omega) h3
    rw [Int.toNat_of_nonneg h1] at this
    exact this
  · rfl
theorem live_why {gs : List Gt} {os : List Int} (i : Nat) (hb : bat (liveL gs os) i = true) : (∃ o ∈ os, o.toNat = i) ∨ ∃ j g, j < gs.length ∧ gs[j]? = some g ∧ bat (liveL gs os) j = true ∧ ((usesA g = true ∧ g.ga.toNat = i) ∨ (usesB g = true ∧ g.gb.toNat = i)) := by
  rcases liveD_why (gs := gs) i gs.length (live0 gs.length os) hb with h | h
  · exact .inl ((bat_live0 _ _ _).1 h).2
  · exact .inr h
theorem prune_live0 {gs : List Gt} {os : List Int} (h : circOk gs os = true) : ∀ (d i : Nat), gs.length - i ≤ d → bat (liveL gs os) i = true → bat (liveL (pruneG gs os) (pruneO gs os)) (at0 (pruneTo gs os) (i : Int)).toNat = true := by
  intro d
  induction d with
  | zero =>
    intro i hd hb
    have := bat_bound hb
    simp at this
    omega
  | succ d ih =>
    intro i hd hb
    have hi := bat_bound hb
    simp at hi
    rcases live_why i hb with ⟨o, ho, rfl⟩ | ⟨j, g, hj, hg, hbj, hu⟩
    · obtain ⟨h2, h3, h4⟩ := live_out h o ho
      have h5 := out_at h o ho
      refine liveD_mono _ _ _ _ ((bat_live0 _ _ _).2 ⟨?_, at0 (pruneTo gs os) o, List.mem_map_of_mem ho, ?_⟩)
      · rw [Int.toNat_of_nonneg h2]; omega
      · rw [Int.toNat_of_nonneg h2]
    · have hr := refs_lt (gtsOk_get (circ_parts h).1 hg)
      have hij : i < j := by
        rcases hu with ⟨h1, h2⟩ | ⟨h1, h2⟩
        · have := hr.1 h1; omega
        · have := hr.2 h1; omega
      have ihj := ih j (by omega) hbj
      have hat := prT_at j g hg hbj gs.length hj (Nat.le_refl _)
      have hc := live_closed (prune_ok h) _ _ hat.2.2 ihj
      have key : ∀ a : Int, 0 ≤ a → a.toNat = i → at0 (prT (liveL gs os) gs j).1 a = at0 (pruneTo gs os) (i : Int) := by
        intro a h0 h1
        have := prT_same (l := liveL gs os) (gs := gs) i j gs.length hij (by omega) (Nat.le_refl _)
        rw [← h1, Int.toNat_of_nonneg h0] at this ⊢
        exact this.symm
      rcases hu with ⟨h1, h2⟩ | ⟨h1, h2⟩
      · have := hc.1 h1
        have e : (reG (prT (liveL gs os) gs j).1 g).ga = at0 (prT (liveL gs os) gs j).1 g.ga := by simp [reG, h1]
        rwa [e, key _ (hr.1 h1).1 h2] at this
      · have := hc.2 h1
        have e : (reG (prT (liveL gs os) gs j).1 g).gb = at0 (prT (liveL gs os) gs j).1 g.gb := by simp [reG, h1]
        rwa [e, key _ (hr.2 h1).2.1 h2] at this
/-- Every gate of a pruned circuit is needed. -/
theorem prune_live {gs : List Gt} {os : List Int} (h : circOk gs os = true) (m : Nat) (hm : m < (pruneG gs os).length) : bat (liveL (pruneG gs os) (pruneO gs os)) m = true := by
  obtain ⟨i, g, h1, h2, h3, h4⟩ := prT_from gs.length (Nat.le_refl _) m hm
  have := prune_live0 h _ i (Nat.le_refl _) h3
  have h4' : at0 (pruneTo gs os) (i : Int) = m := h4
  rwa [h4', Int.toNat_natCast] at this
theorem prT_id {gs : List Gt} {os : List Int} (h : circOk gs os = true) (hall : ∀ m, m < gs.length → bat (liveL gs os) m = true) : ∀ k, k ≤ gs.length → (prT (liveL gs os) gs k).2 = gs.take k ∧ ∀ i : Nat, i < k → at0 (prT (liveL gs os) gs k).1 (i : Int) = i
  | 0, _ => by simp [prT]
  | k + 1, hk => by
    obtain ⟨ih1, ih2⟩ := prT_id h hall k (by omega)
    have hg := get_of (gs := gs) k (by omega)
    have hl := prT_len (liveL gs os) gs k
    rw [prT_step hg (hall k (by omega))]
    have hok := gtsOk_get (circ_parts h).1 hg
    have h1 := refs_lt hok
    have key : ∀ a : Int, 0 ≤ a → a < k → at0 (prT (liveL gs os) gs k).1 a = a := by
      intro a h0 h3
      have := ih2 a.toNat (by omega)
      rwa [Int.toNat_of_nonneg h0] at this
    have e : reG (prT (liveL gs os) gs k).1 gs[k] = gs[k] := by
      have ea : (if usesA gs[k] then at0 (prT (liveL gs os) gs k).1 gs[k].ga else gs[k].ga) = gs[k].ga := by
        split
        · rename_i hu; exact key _ (h1.1 hu).1 (h1.1 hu).2
        · rfl
      have eb : (if usesB gs[k] then at0 (prT (liveL gs os) gs k).1 gs[k].gb else gs[k].gb) = gs[k].gb := by
        split
        · rename_i hu; exact key _ (h1.2 hu).2.1 (h1.2 hu).2.2
        · rfl
      unfold reG; rw [ea, eb]
    rw [e, ih1, take_snoc hg]
    refine ⟨rfl, fun i hi => ?_⟩
    simp only [at0_set (show k < (prT (liveL gs os) gs k).1.length by omega)]
    by_cases hik : i = k
    · subst hik; rw [if_pos rfl, List.length_take]; omega
    · rw [if_neg hik]; exact ih2 i (by omega)
theorem prune_id {gs : List Gt} {os : List Int} (h : circOk gs os = true) (hall : ∀ m, m < gs.length → bat (liveL gs os) m = true) : pruneG gs os = gs ∧ pruneO gs os = os := by
  obtain ⟨h1, h2⟩ := prT_id h hall gs.length (Nat.le_refl _)
  refine ⟨by unfold pruneG; rw [h1, List.take_length], ?_⟩
  unfold pruneO outsOf
  conv => rhs; rw [← List.map_id os]
  refine List.map_congr_left fun o ho => ?_
  obtain ⟨h3, h4, h5⟩ := live_out h o ho
  have := h2 o.toNat (by omega)
  rw [Int.toNat_of_nonneg h3] at this
  exact this
theorem pruneG_len (gs : List Gt) (os : List Int) : (pruneG gs os).length ≤ gs.length := (prT_len _ _ _).2
theorem prune_prune {gs : List Gt} {os : List Int} (h : circOk gs os = true) : pruneG (pruneG gs os) (pruneO gs os) = pruneG gs os ∧ pruneO (pruneG gs os) (pruneO gs os) = pruneO gs os :=
  prune_id (prune_ok h) fun m hm => prune_live h m hm
end Go.Proofs.Ytfcijloiebnloaa

/- Count -/
namespace Go.Proofs.Ytfcijloiebnloaa
open Go.RowKit
set_option linter.unusedVariables false
set_option linter.unusedSimpArgs false
def cntG (kd : Int) (gs : List Gt) : Nat := (gs.filter fun g => g.kd == kd).length
theorem cntG_snoc {kd : Int} {gs : List Gt} {k : Nat} {g : Gt} (h : gs[k]? = some g) : cntG kd (gs.take (k + 1)) = cntG kd (gs.take k) + if g.kd = kd then 1 else 0 := by
  rw [take_snoc h]
  simp only [cntG, List.filter_append, List.length_append, List.filter_cons, List.filter_nil]
  by_cases h1 : g.kd = kd <;> simp [h1]
theorem cntG_le (kd : Int) (gs : List Gt) : cntG kd gs ≤ gs.length := List.length_filter_le _ _

end Go.Proofs.Ytfcijloiebnloaa

/- CircFacts -/
namespace Go.Proofs.Ytfcijloiebnloaa
open Go.RowKit
set_option linter.unusedVariables false
set_option linter.unusedSimpArgs false

theorem foldmax (xs : List Int) : ∀ a : Int, a ≤ xs.foldl max a ∧ ∀ x ∈ xs, x ≤ xs.foldl max a := by
  induction xs with
  | nil => intro a; simp
  | cons y r ih =>
    intro a
    have h := ih (max a y)
    rw [List.foldl_cons]
    refine ⟨by omega, fun x hx => ?_⟩
    rcases List.mem_cons.1 hx with rfl | hx
    · omega
    · exact h.2 x hx
theorem at0_le_depM (gs : List Gt) (i : Int) : at0 (depL gs) i ≤ depM gs := by
  have h := foldmax (depL gs) 0
  unfold at0
  by_cases hi : i.toNat < (depL gs).length
  · simp only [List.getD, List.getElem?_eq_getElem hi, Option.getD_some]; exact h.2 _ (List.getElem_mem hi)
  · simp only [List.getD, List.getElem?_eq_none (by omega : (depL gs).length ≤ i.toNat), Option.getD_none]; exact h.1
theorem at0_ge_dep (gs : List Gt) (i : Int) : 0 ≤ at0 (depL gs) i := (at0_b (depL_b gs) (by omega) (by omega)).1
theorem cntG_append (kd : Int) (gs : List Gt) (g : Gt) : cntG kd (gs ++ [g]) = cntG kd gs + if g.kd = kd then 1 else 0 := by
  have h : (gs ++ [g])[gs.length]? = some g := by simp
  have := cntG_snoc (kd := kd) h
  rwa [List.take_of_length_le (by simp), List.take_left' rfl] at this
theorem dval_and (gs : List Gt) (g : Gt) (h : g.kd = 4) : dval (depL gs) g = max (at0 (depL gs) g.ga) (at0 (depL gs) g.gb) + 1 := by simp [dval, h]
theorem dval_not (gs : List Gt) (g : Gt) (h : g.kd ≠ 4) : dval (depL gs) g ≤ depM gs := by
  have h1 := at0_le_depM gs g.ga
  have h2 := at0_le_depM gs g.gb
  have h3 := (depM_b gs).1
  unfold dval
  simp only [h, if_false]
  repeat (first | split | omega)
theorem depM_cnt (gs : List Gt) : depM gs ≤ cntG 4 gs ∧ (0 < cntG 4 gs ↔ 0 < depM gs) := by
  induction gs using snocRec with
  | h0 => simp [depM, depL, cntG]
  | h1 gs g ih =>
    rw [depM_append, cntG_append]
    have h1 := at0_le_depM gs g.ga
    have h2 := at0_le_depM gs g.gb
    have h3 := at0_ge_dep gs g.ga
    by_cases h : g.kd = 4
    · rw [dval_and gs g h, if_pos h]; omega
    · have := dval_not gs g h
      rw [if_neg h]; omega
/-- One more and gate. -/
def moreAnd (gs : List Gt) : List Gt := gs ++ [⟨4, (gs.length : Int) - 1, 0⟩]
theorem moreAnd_ok {gs : List Gt} {os : List Int} (h : circOk gs os = true) (h1 : 1 ≤ gs.length) (h2 : gs.length ≤ 5999) : circOk (moreAnd gs) os = true := by
  obtain ⟨h3, h4, h5⟩ := circ_parts h
  unfold circOk moreAnd
  rw [gtsOk_append, h3]
  have h6 : gateOk 4 ((gs.length : Int) - 1) 0 gs.length = true := by simp [gateOk]; omega
  have h7 : allB os 0 (((gs ++ [(⟨4, (gs.length : Int) - 1, 0⟩ : Gt)]).length : Int) - 1) = true := allB_mono h4 (by simp; omega)
  rw [h7]
  simp [gtsOk, h6]
  omega
theorem moreAnd_depth (gs : List Gt) : (depM (moreAnd gs) = depM gs ∨ depM (moreAnd gs) = depM gs + 1) ∧ 1 ≤ depM (moreAnd gs) ∧ cntG 4 (moreAnd gs) = cntG 4 gs + 1 := by
  unfold moreAnd
  rw [depM_append, cntG_append, if_pos rfl, dval_and gs _ rfl]
  have h1 := at0_le_depM gs ((gs.length : Int) - 1)
  have h2 := at0_le_depM gs 0
  have h3 := at0_ge_dep gs 0
  have h4 := depM_b gs
  refine ⟨?_, ?_, rfl⟩
  · show max (depM gs) (max (at0 (depL gs) ((gs.length : Int) - 1)) (at0 (depL gs) 0) + 1) = _ ∨ max (depM gs) (max (at0 (depL gs) ((gs.length : Int) - 1)) (at0 (depL gs) 0) + 1) = _
    omega
  · show 1 ≤ max (depM gs) (max (at0 (depL gs) ((gs.length : Int) - 1)) (at0 (depL gs) 0) + 1)
    omega
end Go.Proofs.Ytfcijloiebnloaa

/- SimpP -/
namespace Go.Proofs.Ytfcijloiebnloaa
open Go.RowKit
set_option linter.unusedVariables false
set_option linter.unusedSimpArgs false

/-- The wire of an equal gate, or of a new one. -/
def gGate (gs : List Gt) (g : Gt) : List Gt × Int := if gs.idxOf g < gs.length then (gs, (gs.idxOf g : Int)) else (gs ++ [g], (gs.length : Int))
theorem idxOf_eq {gs : List Gt} {g : Gt} {i : Nat} (h : gs[i]? = some g) (hn : ∀ j, j < i → gs[j]? ≠ some g) : gs.idxOf g = i := by
  induction gs generalizing i with
  | nil => simp at h
  | cons x r ih =>
    cases i with
    | zero => simp at h; subst h; simp
    | succ i =>
      have hx : x ≠ g := fun e => hn 0 (by omega) (by simp [e])
      simp at h
      have := ih h (fun j hj => by have := hn (j + 1) (by omega); simpa using this)
      rw [List.idxOf_cons, this]
      have hb : (x == g) = false := by simpa using hx
      simp [hb]
theorem gGate_found {gs : List Gt} {g : Gt} {i : Nat} (h : gs[i]? = some g) (hn : ∀ j, j < i → gs[j]? ≠ some g) : gGate gs g = (gs, (i : Int)) := by
  have hi : i < gs.length := (List.getElem?_eq_some_iff.1 h).1
  unfold gGate; rw [idxOf_eq h hn, if_pos hi]
theorem gGate_new {gs : List Gt} {g : Gt} (hn : g ∉ gs) : gGate gs g = (gs ++ [g], (gs.length : Int)) := by
  unfold gGate; rw [if_neg (by rw [List.idxOf_lt_length_iff]; exact hn)]
theorem gGate_nodup_found {gs : List Gt} {g : Gt} {i : Nat} (hd : gs.Nodup) (h : gs[i]? = some g) : gGate gs g = (gs, (i : Int)) :=
  gGate_found h fun j hj e => by
    obtain ⟨h1, h2⟩ := List.getElem?_eq_some_iff.1 h
    obtain ⟨h3, h4⟩ := List.getElem?_eq_some_iff.1 e
    have := (List.getElem_inj hd (h₀ := h3) (h₁ := h1)).1 (h4.trans h2.symm)
    omega

def valC (gs : List Gt) (w : Int) : Int := match gs[w.toNat]? with
  | some g => if g.kd = 2 then g.ga else -1
  | none => -1
def gNot (gs : List Gt) (w : Int) : List Gt × Int := match gs[w.toNat]? with
  | some g => if g.kd = 2 then gGate gs ⟨2, 1 - g.ga, 0⟩ else if g.kd = 5 then (gs, g.ga) else gGate gs ⟨5, w, 0⟩
  | none => (gs, 0)
def gXor (gs : List Gt) (a b : Int) : List Gt × Int :=
  if a = b then gGate gs ⟨2, 0, 0⟩ else if valC gs a = 0 then (gs, b) else if valC gs a = 1 then gNot gs b else if valC gs b = 0 then (gs, a) else if valC gs b = 1 then gNot gs a else gGate gs ⟨3, min a b, max a b⟩
def gAnd (gs : List Gt) (a b : Int) : List Gt × Int :=
  if a = b then (gs, a) else if valC gs a = 0 then gGate gs ⟨2, 0, 0⟩ else if valC gs a = 1 then (gs, b) else if valC gs b = 0 then gGate gs ⟨2, 0, 0⟩ else if valC gs b = 1 then (gs, a) else gGate gs ⟨4, min a b, max a b⟩
def simpS (gs : List Gt) (to : List Int) (g : Gt) : List Gt × Int :=
  if g.kd = 3 then gXor gs (at0 to g.ga) (at0 to g.gb) else if g.kd = 4 then gAnd gs (at0 to g.ga) (at0 to g.gb) else if g.kd = 5 then gNot gs (at0 to g.ga) else gGate gs g
def simpT (gs : List Gt) : List Gt × List Int := gs.foldl (fun s g => ((simpS s.1 s.2 g).1, s.2 ++ [(simpS s.1 s.2 g).2])) ([], [])
def simpG (gs : List Gt) : List Gt := (simpT gs).1
def simpO (gs : List Gt) (os : List Int) : List Int := outsOf (simpT gs).2 os
theorem simpT_append (gs : List Gt) (g : Gt) : simpT (gs ++ [g]) = ((simpS (simpT gs).1 (simpT gs).2 g).1, (simpT gs).2 ++ [(simpS (simpT gs).1 (simpT gs).2 g).2]) := by
  unfold simpT; rw [List.foldl_append]; rfl
theorem simpT_snoc {gs : List Gt} {k : Nat} {g : Gt} (h : gs[k]? = some g) : simpT (gs.take (k + 1)) = ((simpS (simpT (gs.take k)).1 (simpT (gs.take k)).2 g).1, (simpT (gs.take k)).2 ++ [(simpS (simpT (gs.take k)).1 (simpT (gs.take k)).2 g).2]) := by
  rw [take_snoc h, simpT_append]

/-- What a step leaves: the gates that were there, at most one more, no gate twice. -/
structure Stp (gs : List Gt) (r : List Gt × Int) (n : Nat) (v : List Int → Int) : Prop where
  pre : ∃ t, r.1 = gs ++ t ∧ t.length ≤ 1
  ok : gtsOk 0 r.1 = true
  nd : r.1.Nodup
  lo : 0 ≤ r.2
  hi : r.2 < r.1.length
  cnt : cntG 4 r.1 ≤ cntG 4 gs + n
  val : ∀ bs : List Int, allB bs 0 1 = true → at0 (evalW bs r.1) r.2 = v bs

theorem evalW_pre (bs : List Int) (gs t : List Gt) {a : Int} (h0 : 0 ≤ a) (h1 : a < gs.length) : at0 (evalW bs (gs ++ t)) a = at0 (evalW bs gs) a := by
  have := at0_evalW_take (gs := gs ++ t) (bs := bs) (k := gs.length) h0 h1 (by simp)
  rwa [List.take_left' rfl] at this
theorem nodup_snoc {gs : List Gt} {g : Gt} (h : gs.Nodup) (hn : g ∉ gs) : (gs ++ [g]).Nodup := by
  rw [List.nodup_append]
  exact ⟨h, by simp, fun a ha b hb => by simp at hb; subst hb; rintro rfl; exact hn ha⟩
/-- Staying where one is. -/
theorem Stp.same {gs : List Gt} {a : Int} {n : Nat} {v : List Int → Int} (hok : gtsOk 0 gs = true) (hd : gs.Nodup) (h0 : 0 ≤ a) (h1 : a < gs.length) (hn : 0 ≤ n) (hv : ∀ bs : List Int, allB bs 0 1 = true → at0 (evalW bs gs) a = v bs) : Stp gs (gs, a) n v :=
  ⟨⟨[], by simp, by simp⟩, hok, hd, h0, h1, by show cntG 4 gs ≤ cntG 4 gs + n; omega, hv⟩
theorem gGate_stp {gs : List Gt} {g : Gt} {n : Nat} {v : List Int → Int} (hok : gtsOk 0 gs = true) (hd : gs.Nodup) (hg : gateOk g.kd g.ga g.gb gs.length = true) (hn : (if g.kd = 4 then 1 else 0) ≤ n)
    (hv : ∀ bs : List Int, allB bs 0 1 = true → gval bs (evalW bs gs) g = v bs) : Stp gs (gGate gs g) n v := by
  have hn0 : 0 ≤ n := by split at hn <;> omega
  by_cases hm : g ∈ gs
  · obtain ⟨i, hi⟩ := List.getElem?_of_mem hm
    rw [gGate_nodup_found hd hi]
    have hl : i < gs.length := (List.getElem?_eq_some_iff.1 hi).1
    refine Stp.same hok hd (by omega) (by omega) hn0 fun bs hb => ?_
    rw [evalW_at bs hi hl, ← hv bs hb]
    have h1 := refs_lt (gtsOk_get hok hi)
    exact gval_same bs rfl (fun _ => rfl) (fun ha => (at0_evalW_take (h1.1 ha).1 (h1.1 ha).2 (by omega)).symm) (fun hb => (at0_evalW_take (h1.2 hb).2.1 (h1.2 hb).2.2 (by omega)).symm) hg
  · rw [gGate_new hm]
    refine ⟨⟨[g], rfl, by simp⟩, ?_, nodup_snoc hd hm, by show (0 : Int) ≤ (gs.length : Int); omega, by show (gs.length : Int) < ((gs ++ [g]).length : Int); simp <;> omega, ?_, fun bs hb => ?_⟩
    · show gtsOk 0 (gs ++ [g]) = true
      rw [gtsOk_append, hok]; simp [gtsOk, hg]
    · show cntG 4 (gs ++ [g]) ≤ cntG 4 gs + n
      rw [cntG_append]; omega
    · show at0 (evalW bs (gs ++ [g])) (gs.length : Int) = _
      rw [evalW_append, at0_nat, ← hv bs hb]
      simp [List.getD, List.getElem?_append_right, evalW_len]
theorem valC_at {gs : List Gt} {w : Int} (hok : gtsOk 0 gs = true) (h0 : 0 ≤ w) (h1 : w < gs.length) : valC gs w = -1 ∨ ((valC gs w = 0 ∨ valC gs w = 1) ∧ ∀ bs, at0 (evalW bs gs) w = valC gs w) := by
  have hg := get_of (gs := gs) w.toNat (by omega)
  have hgk := gtsOk_get hok hg
  have hc := gate_cases hgk
  have e : ((w.toNat : Nat) : Int) = w := by omega
  by_cases h2 : (gs[w.toNat]'(by omega)).kd = 2
  · have hv : valC gs w = (gs[w.toNat]'(by omega)).ga := by unfold valC; rw [hg]; simp [h2]
    right
    refine ⟨by rw [hv]; omega, fun bs => ?_⟩
    have := evalW_at bs hg (by omega)
    rw [e] at this
    rw [this, hv]
    simp [gval, h2]
  · left; unfold valC; rw [hg]; simp [h2]
theorem evalW_bit {gs : List Gt} {bs : List Int} (hok : gtsOk 0 gs = true) (hb : allB bs 0 1 = true) (w : Int) : 0 ≤ at0 (evalW bs gs) w ∧ at0 (evalW bs gs) w ≤ 1 := at0_b (evalW_b hb gs hok) (by omega) (by omega)
theorem gNot_stp {gs : List Gt} {w : Int} {n : Nat} (hok : gtsOk 0 gs = true) (hd : gs.Nodup) (h0 : 0 ≤ w) (h1 : w < gs.length) (hn : 0 ≤ n) : Stp gs (gNot gs w) n fun bs => 1 - at0 (evalW bs gs) w := by
  have hg := get_of (gs := gs) w.toNat (by omega)
  have hgk := gtsOk_get hok hg
  have hc := gate_cases hgk
  have e : ((w.toNat : Nat) : Int) = w := by omega
  have hev : ∀ bs, at0 (evalW bs gs) w = gval bs (evalW bs (gs.take w.toNat)) (gs[w.toNat]'(by omega)) := fun bs => by
    have := evalW_at bs hg (by omega); rwa [e] at this
  unfold gNot
  rw [hg]
  generalize gs[w.toNat]'(by omega) = g at hg hgk hc hev
  simp only
  by_cases h2 : g.kd = 2
  · rw [if_pos h2]
    refine gGate_stp hok hd (by simp [gateOk, inB]; omega) (by simp) fun bs hb => ?_
    rw [hev bs]; simp [gval, h2]
  · rw [if_neg h2]
    by_cases h5 : g.kd = 5
    · rw [if_pos h5]
      refine Stp.same hok hd (by omega) (by omega) hn fun bs hb => ?_
      rw [hev bs]
      have : gval bs (evalW bs (gs.take w.toNat)) g = 1 - at0 (evalW bs (gs.take w.toNat)) g.ga := by simp [gval, h5]
      rw [this, at0_evalW_take (k := w.toNat) (gs := gs) (by omega) (by omega) (by omega)]; omega
    · rw [if_neg h5]
      refine gGate_stp hok hd (by simp [gateOk]; omega) (by simp) fun bs hb => ?_
      simp [gval]
theorem gXor_stp {gs : List Gt} {a b : Int} {n : Nat} (hok : gtsOk 0 gs = true) (hd : gs.Nodup) (h0 : 0 ≤ a) (h1 : a < gs.length) (h2 : 0 ≤ b) (h3 : b < gs.length) (hn : 0 ≤ n) : Stp gs (gXor gs a b) n fun bs => xorI (at0 (evalW bs gs) a) (at0 (evalW bs gs) b) := by
  have va := valC_at hok h0 h1
  have vb := valC_at hok h2 h3
  have not1 : ∀ {w : Int}, 0 ≤ w → w < gs.length → ∀ v : List Int → Int, (∀ bs : List Int, allB bs 0 1 = true → 1 - at0 (evalW bs gs) w = v bs) → Stp gs (gNot gs w) n v := fun hw0 hw1 v hv => by
    have := gNot_stp hok hd hw0 hw1 hn
    exact ⟨this.pre, this.ok, this.nd, this.lo, this.hi, this.cnt, fun bs hb => (this.val bs hb).trans (hv bs hb)⟩
  unfold gXor
  by_cases e : a = b
  · rw [if_pos e]; subst e
    refine gGate_stp hok hd (by simp [gateOk, inB]) (by simp) fun bs hb => ?_
    have := evalW_bit hok hb a
    rw [xorI_bit this this]; simp [gval]
  rw [if_neg e]
  by_cases e0 : valC gs a = 0
  · rw [if_pos e0]
    refine Stp.same hok hd h2 h3 hn fun bs hb => ?_
    have q1 := evalW_bit hok hb a
    have q2 := evalW_bit hok hb b
    have q3 : at0 (evalW bs gs) a = 0 := by rcases va with h | h; · omega
                                            · rw [h.2 bs, e0]
    rw [xorI_bit q1 q2]; split <;> omega
  rw [if_neg e0]
  by_cases e1 : valC gs a = 1
  · rw [if_pos e1]
    refine not1 h2 h3 _ fun bs hb => ?_
    have q1 := evalW_bit hok hb a
    have q2 := evalW_bit hok hb b
    have q3 : at0 (evalW bs gs) a = 1 := by rcases va with h | h; · omega
                                            · rw [h.2 bs, e1]
    rw [xorI_bit q1 q2]; split <;> omega
  rw [if_neg e1]
  by_cases f0 : valC gs b = 0
  · rw [if_pos f0]
    refine Stp.same hok hd h0 h1 hn fun bs hb => ?_
    have q1 := evalW_bit hok hb a
    have q2 := evalW_bit hok hb b
    have q3 : at0 (evalW bs gs) b = 0 := by rcases vb with h | h; · omega
                                            · rw [h.2 bs, f0]
    rw [xorI_bit q1 q2]; split <;> omega
  rw [if_neg f0]
  by_cases f1 : valC gs b = 1
  · rw [if_pos f1]
    refine not1 h0 h1 _ fun bs hb => ?_
    have q1 := evalW_bit hok hb a
    have q2 := evalW_bit hok hb b
    have q3 : at0 (evalW bs gs) b = 1 := by rcases vb with h | h; · omega
                                            · rw [h.2 bs, f1]
    rw [xorI_bit q1 q2]; split <;> omega
  rw [if_neg f1]
  refine gGate_stp hok hd (by simp [gateOk]; omega) (by simp) fun bs hb => ?_
  have q1 := evalW_bit hok hb a
  have q2 := evalW_bit hok hb b
  have hm : gval bs (evalW bs gs) ⟨3, min a b, max a b⟩ = xorI (at0 (evalW bs gs) (min a b)) (at0 (evalW bs gs) (max a b)) := by simp [gval]
  rw [hm]
  by_cases hab : a ≤ b
  · rw [Int.min_eq_left hab, Int.max_eq_right hab]
  · rw [Int.min_eq_right (by omega), Int.max_eq_left (by omega), xorI_bit q1 q2, xorI_bit q2 q1]
    split <;> split <;> omega
theorem gAnd_stp {gs : List Gt} {a b : Int} (hok : gtsOk 0 gs = true) (hd : gs.Nodup) (h0 : 0 ≤ a) (h1 : a < gs.length) (h2 : 0 ≤ b) (h3 : b < gs.length) : Stp gs (gAnd gs a b) 1 fun bs => andI (at0 (evalW bs gs) a) (at0 (evalW bs gs) b) := by
  have va := valC_at hok h0 h1
  have vb := valC_at hok h2 h3
  unfold gAnd
  by_cases e : a = b
  · rw [if_pos e]; subst e
    refine Stp.same hok hd h0 h1 (by omega) fun bs hb => ?_
    have := evalW_bit hok hb a
    rw [andI_bit this this]; split <;> omega
  rw [if_neg e]
  by_cases e0 : valC gs a = 0
  · rw [if_pos e0]
    refine gGate_stp hok hd (by simp [gateOk, inB]) (by simp) fun bs hb => ?_
    have q1 := evalW_bit hok hb a
    have q2 := evalW_bit hok hb b
    have q3 : at0 (evalW bs gs) a = 0 := by rcases va with h | h; · omega
                                            · rw [h.2 bs, e0]
    rw [andI_bit q1 q2, if_neg (by omega)]; simp [gval]
  rw [if_neg e0]
  by_cases e1 : valC gs a = 1
  · rw [if_pos e1]
    refine Stp.same hok hd h2 h3 (by omega) fun bs hb => ?_
    have q1 := evalW_bit hok hb a
    have q2 := evalW_bit hok hb b
    have q3 : at0 (evalW bs gs) a = 1 := by rcases va with h | h; · omega
                                            · rw [h.2 bs, e1]
    rw [andI_bit q1 q2]; split <;> omega
  rw [if_neg e1]
  by_cases f0 : valC gs b = 0
  · rw [if_pos f0]
    refine gGate_stp hok hd (by simp [gateOk, inB]) (by simp) fun bs hb => ?_
    have q1 := evalW_bit hok hb a
    have q2 := evalW_bit hok hb b
    have q3 : at0 (evalW bs gs) b = 0 := by rcases vb with h | h; · omega
                                            · rw [h.2 bs, f0]
    rw [andI_bit q1 q2, if_neg (by omega)]; simp [gval]
  rw [if_neg f0]
  by_cases f1 : valC gs b = 1
  · rw [if_pos f1]
    refine Stp.same hok hd h0 h1 (by omega) fun bs hb => ?_
    have q1 := evalW_bit hok hb a
    have q2 := evalW_bit hok hb b
    have q3 : at0 (evalW bs gs) b = 1 := by rcases vb with h | h; · omega
                                            · rw [h.2 bs, f1]
    rw [andI_bit q1 q2]; split <;> omega
  rw [if_neg f1]
  refine gGate_stp hok hd (by simp [gateOk]; omega) (by simp) fun bs hb => ?_
  have q1 := evalW_bit hok hb a
  have q2 := evalW_bit hok hb b
  have hm : gval bs (evalW bs gs) ⟨4, min a b, max a b⟩ = andI (at0 (evalW bs gs) (min a b)) (at0 (evalW bs gs) (max a b)) := by simp [gval]
  rw [hm]
  by_cases hab : a ≤ b
  · rw [Int.min_eq_left hab, Int.max_eq_right hab]
  · rw [Int.min_eq_right (by omega), Int.max_eq_left (by omega), andI_bit q1 q2, andI_bit q2 q1]
    split <;> split <;> omega

/-- A gate whose wires have been numbered. -/
def reG3 (to : List Int) (g : Gt) : Gt := reG to g
theorem simpS_stp {gs : List Gt} {to : List Int} {g : Gt} {k : Nat} (hok : gtsOk 0 gs = true) (hd : gs.Nodup) (hg : gateOk g.kd g.ga g.gb k = true) (ht : ∀ i : Int, 0 ≤ i → i < k → 0 ≤ at0 to i ∧ at0 to i < gs.length) :
    Stp gs (simpS gs to g) (if g.kd = 4 then 1 else 0) fun bs => gval bs (evalW bs gs) (reG to g) := by
  obtain ⟨kd, ga, gb⟩ := g
  have hc := gate_cases hg
  simp only at hc
  unfold simpS
  by_cases h3 : kd = 3
  · subst h3
    have ha := ht ga (by omega) (by omega)
    have hb := ht gb (by omega) (by omega)
    simp only [if_true]
    have := gXor_stp (n := 0) hok hd ha.1 ha.2 hb.1 hb.2 (by omega)
    exact ⟨this.pre, this.ok, this.nd, this.lo, this.hi, by have := this.cnt; simpa using this, fun bs hb => (this.val bs hb).trans (by simp [gval, reG, usesA, usesB])⟩
  by_cases h4 : kd = 4
  · subst h4
    have ha := ht ga (by omega) (by omega)
    have hb := ht gb (by omega) (by omega)
    simp only [h3, if_false, if_true]
    have := gAnd_stp hok hd ha.1 ha.2 hb.1 hb.2
    exact ⟨this.pre, this.ok, this.nd, this.lo, this.hi, this.cnt, fun bs hb => (this.val bs hb).trans (by simp [gval, reG, usesA, usesB])⟩
  by_cases h5 : kd = 5
  · subst h5
    have ha := ht ga (by omega) (by omega)
    simp only [h3, h4, if_false, if_true]
    have := gNot_stp (n := 0) hok hd ha.1 ha.2 (by omega)
    exact ⟨this.pre, this.ok, this.nd, this.lo, this.hi, this.cnt, fun bs hb => (this.val bs hb).trans (by simp [gval, reG, usesA, usesB])⟩
  simp only [h3, h4, h5, if_false]
  refine gGate_stp hok hd ?_ (by simp [h4]) fun bs hb => ?_
  · show gateOk kd ga gb gs.length = true
    have : (kd = 1 ∧ gb = 0 ∧ 0 ≤ ga ∧ ga ≤ 79) ∨ (kd = 2 ∧ gb = 0 ∧ 0 ≤ ga ∧ ga ≤ 1) := by omega
    rcases this with ⟨rfl, rfl, h⟩ | ⟨rfl, rfl, h⟩ <;> simp [gateOk, inB] <;> omega
  · have ea : usesA ⟨kd, ga, gb⟩ = false := by simp [usesA, h3, h4, h5]
    have eb : usesB ⟨kd, ga, gb⟩ = false := by simp [usesB, h3, h4]
    show gval bs (evalW bs gs) ⟨kd, ga, gb⟩ = gval bs (evalW bs gs) (reG to ⟨kd, ga, gb⟩)
    simp [reG, ea, eb]

structure SimpInv (gs : List Gt) (s : List Gt × List Int) : Prop where
  ok : gtsOk 0 s.1 = true
  nd : s.1.Nodup
  len : s.2.length = gs.length
  le : s.1.length ≤ gs.length
  to : ∀ i : Int, 0 ≤ i → i < gs.length → 0 ≤ at0 s.2 i ∧ at0 s.2 i < s.1.length
  cnt : cntG 4 s.1 ≤ cntG 4 gs
  val : ∀ bs : List Int, allB bs 0 1 = true → ∀ i : Int, 0 ≤ i → i < gs.length → at0 (evalW bs s.1) (at0 s.2 i) = at0 (evalW bs gs) i
theorem simpT_inv (gs : List Gt) : gtsOk 0 gs = true → SimpInv gs (simpT gs) := by
  induction gs using snocRec with
  | h0 => intro _; exact ⟨rfl, List.nodup_nil, rfl, Nat.le_refl _, by intro i h0 h1; simp at h1; omega, Nat.le_refl _, by intro bs hb i h0 h1; simp at h1; omega⟩
  | h1 gs g ih =>
    intro h
    obtain ⟨h1, h2⟩ := gtsOk_last h
    have I := ih h1
    rw [simpT_append]
    have S := simpS_stp I.ok I.nd h2 (fun i a b => I.to i a b)
    generalize simpS (simpT gs).1 (simpT gs).2 g = r at S
    generalize simpT gs = s at I S
    obtain ⟨s1, s2⟩ := s
    obtain ⟨r1, r2⟩ := r
    obtain ⟨⟨t, e, ht⟩, q1, q2, q3, q4, q5, q6⟩ := S
    simp only at e q1 q2 q3 q4 q5 q6
    have hlr : r1.length = s1.length + t.length := by rw [e]; simp
    have Il := I.len
    have Ile := I.le
    simp only at Il Ile
    have at_old : ∀ i : Int, 0 ≤ i → i < gs.length → at0 (s2 ++ [r2]) i = at0 s2 i := fun i a b => at0_append (by omega)
    have at_new : at0 (s2 ++ [r2]) (gs.length : Int) = r2 := by rw [at0_nat, ← Il]; simp [List.getD, List.getElem?_append_right]
    refine ⟨q1, q2, by simp [Il], by simp; omega, ?_, ?_, ?_⟩
    · intro i a b
      simp only
      by_cases hi : i < gs.length
      · rw [at_old i a hi]; have := I.to i a hi; simp only at this; omega
      · have : i = (gs.length : Int) := by simp at b; omega
        subst this
        rw [at_new]; exact ⟨q3, q4⟩
    · simp only
      rw [cntG_append]; have := I.cnt; simp only at this; split at q5 <;> (rename_i hk; first | rw [if_pos hk] | rw [if_neg hk]) <;> omega
    · intro bs hb i a b
      simp only
      by_cases hi : i < gs.length
      · have := I.to i a hi
        simp only at this
        rw [at_old i a hi, e, evalW_pre bs _ _ this.1 this.2, evalW_pre bs _ _ a hi]
        exact I.val bs hb i a hi
      · have : i = (gs.length : Int) := by simp at b; omega
        subst this
        rw [at_new, q6 bs hb, evalW_append]
        have e2 : at0 (evalW bs gs ++ [gval bs (evalW bs gs) g]) (gs.length : Int) = gval bs (evalW bs gs) g := by
          rw [at0_nat]; simp [List.getD, List.getElem?_append_right, evalW_len]
        rw [e2]
        have h3 := refs_lt h2
        refine (gval_same bs (g1 := g) (g2 := reG s2 g) rfl (fun e => by unfold reG; rw [if_neg (by simp [e])]) (fun e => ?_) (fun e => ?_) h2).symm
        · have e' : (reG s2 g).ga = at0 s2 g.ga := by unfold reG; rw [if_pos e]
          rw [e']; exact (I.val bs hb g.ga (h3.1 e).1 (h3.1 e).2).symm
        · have e' : (reG s2 g).gb = at0 s2 g.gb := by unfold reG; rw [if_pos e]
          rw [e']; exact (I.val bs hb g.gb (h3.2 e).2.1 (h3.2 e).2.2).symm
theorem simp_ok {gs : List Gt} {os : List Int} (h : circOk gs os = true) : circOk (simpG gs) (simpO gs os) = true := by
  obtain ⟨h1, h2, h3⟩ := circ_parts h
  have I := simpT_inv gs h1
  have hle : (simpG gs).length ≤ gs.length := I.le
  have h4 : allB (simpO gs os) 0 (((simpG gs).length : Int) - 1) = true := by
    rw [allB_iff]
    intro x hx
    obtain ⟨o, ho, rfl⟩ := List.mem_map.1 hx
    have := allB_iff.1 h2 o ho
    have := I.to o this.1 (by omega)
    unfold simpG; omega
  unfold circOk
  rw [h4, show gtsOk 0 (simpG gs) = true from I.ok]
  have h5 : (simpG gs).length ≤ 6000 := by omega
  simp [h5]
theorem simp_eval {gs : List Gt} {os : List Int} (h : circOk gs os = true) (bs : List Int) : evalOuts (simpG gs) (simpO gs os) bs = evalOuts gs os bs ∧ evalB (simpG gs) (simpO gs os) bs = evalB gs os bs := by
  have e2 : evalB (simpG gs) (simpO gs os) bs = evalB gs os bs := by unfold evalB; rw [simp_ok h, h]
  refine ⟨?_, e2⟩
  unfold evalOuts
  rw [e2]
  obtain ⟨h1, h2, h3⟩ := circ_parts h
  have I := simpT_inv gs h1
  cases hb : evalB gs os bs
  · rfl
  · have hbb : allB bs 0 1 = true := by
      unfold evalB bitsB at hb
      simp only [Bool.and_eq_true] at hb
      exact hb.2.2
    simp only [if_true]
    unfold simpO outsOf
    rw [List.map_map]
    refine List.map_congr_left fun o ho => ?_
    have := allB_iff.1 h2 o ho
    exact I.val bs hbb o this.1 (by omega)
theorem simp_cnt {gs : List Gt} {os : List Int} (h : circOk gs os = true) : cntG 4 (simpG gs) ≤ cntG 4 gs := (simpT_inv gs (circ_parts h).1).cnt
theorem simp_len {gs : List Gt} {os : List Int} (h : circOk gs os = true) : (simpG gs).length ≤ gs.length := (simpT_inv gs (circ_parts h).1).le
end Go.Proofs.Ytfcijloiebnloaa

/- BldF -/
namespace Go.Proofs.Ytfcijloiebnloaa
open Go.RowKit
set_option linter.unusedVariables false
set_option linter.unusedSimpArgs false

/-- The value of a wire. -/
def vw (bs : List Int) (gs : List Gt) (a : Int) : Int := at0 (evalW bs gs) a
/-- h is gs with at most m gates behind it, and valid. -/
structure Bd (gs : List Gt) (m : Nat) (h : List Gt) : Prop where
  pre : ∃ t, h = gs ++ t ∧ t.length ≤ m
  ok : gtsOk 0 h = true
theorem Bd.refl {gs : List Gt} (h : gtsOk 0 gs = true) : Bd gs 0 gs := ⟨⟨[], by simp, by simp⟩, h⟩
theorem Bd.trans {gs h h' : List Gt} {m n : Nat} (a : Bd gs m h) (b : Bd h n h') : Bd gs (m + n) h' := by
  obtain ⟨t, rfl, ht⟩ := a.pre
  obtain ⟨u, rfl, hu⟩ := b.pre
  exact ⟨⟨t ++ u, by simp, by simp; omega⟩, b.ok⟩
theorem Bd.mono {gs h : List Gt} {m n : Nat} (a : Bd gs m h) (hn : m ≤ n) : Bd gs n h := by
  obtain ⟨t, e, ht⟩ := a.pre
  exact ⟨⟨t, e, by omega⟩, a.ok⟩
theorem Bd.len {gs h : List Gt} {m : Nat} (a : Bd gs m h) : gs.length ≤ h.length ∧ h.length ≤ gs.length + m := by
  obtain ⟨t, rfl, ht⟩ := a.pre
  simp; omega
theorem Bd.v {gs h : List Gt} {m : Nat} (b : Bd gs m h) {a : Int} (h0 : 0 ≤ a) (h1 : a < gs.length) (bs : List Int) : vw bs h a = vw bs gs a := by
  obtain ⟨t, rfl, ht⟩ := b.pre
  exact evalW_pre bs gs t h0 h1
theorem Bd.bit {gs h : List Gt} {m : Nat} (b : Bd gs m h) {bs : List Int} (hb : allB bs 0 1 = true) (a : Int) : vw bs h a = 0 ∨ vw bs h a = 1 := by
  have := evalW_bit b.ok hb a
  unfold vw; omega
theorem Bd.put {gs : List Gt} (h : gtsOk 0 gs = true) {g : Gt} (hg : gateOk g.kd g.ga g.gb gs.length = true) : Bd gs 1 (gs ++ [g]) :=
  ⟨⟨[g], rfl, by simp⟩, by rw [gtsOk_append, h]; simp [gtsOk, hg]⟩
theorem vw_put (bs : List Int) (gs : List Gt) (g : Gt) : vw bs (gs ++ [g]) (gs.length : Int) = gval bs (evalW bs gs) g := by
  unfold vw
  rw [evalW_append, at0_nat]
  simp [List.getD, List.getElem?_append_right, evalW_len]
theorem vw_xor (bs : List Int) (gs : List Gt) (a b : Int) : vw bs (gs ++ [⟨3, a, b⟩]) (gs.length : Int) = xorI (vw bs gs a) (vw bs gs b) := by rw [vw_put]; rfl
theorem vw_and (bs : List Int) (gs : List Gt) (a b : Int) : vw bs (gs ++ [⟨4, a, b⟩]) (gs.length : Int) = andI (vw bs gs a) (vw bs gs b) := by rw [vw_put]; rfl
theorem vw_not (bs : List Int) (gs : List Gt) (a b : Int) : vw bs (gs ++ [⟨5, a, b⟩]) (gs.length : Int) = 1 - vw bs gs a := by rw [vw_put]; rfl
theorem vw_const (bs : List Int) (gs : List Gt) (a b : Int) : vw bs (gs ++ [⟨2, a, b⟩]) (gs.length : Int) = a := by rw [vw_put]; rfl
theorem vw_input (bs : List Int) (gs : List Gt) (a b : Int) : vw bs (gs ++ [⟨1, a, b⟩]) (gs.length : Int) = at0 bs a := by rw [vw_put]; rfl
theorem ok_two {n kd : Int} (hk : kd = 3 ∨ kd = 4) {a b : Int} (ha : 0 ≤ a ∧ a < n) (hb : 0 ≤ b ∧ b < n) : gateOk kd a b n = true := by rcases hk with rfl | rfl <;> simp [gateOk] <;> omega
theorem ok_not {n a : Int} (ha : 0 ≤ a ∧ a < n) : gateOk 5 a 0 n = true := by simp [gateOk]; omega
theorem ok_const {n a : Int} (ha : 0 ≤ a ∧ a ≤ 1) : gateOk 2 a 0 n = true := by simp [gateOk, inB]; omega
theorem ok_input {n a : Int} (ha : 0 ≤ a ∧ a ≤ 79) : gateOk 1 a 0 n = true := by simp [gateOk, inB]; omega

/-- Wires of a circuit. -/
def Wrs (gs : List Gt) (n : Nat) (l : List Int) : Prop := l.length = n ∧ ∀ j : Nat, j < n → 0 ≤ at0 l j ∧ at0 l j < gs.length
theorem Wrs.up {gs h : List Gt} {m n : Nat} {l : List Int} (w : Wrs gs n l) (b : Bd gs m h) : Wrs h n l := ⟨w.1, fun j hj => by have := w.2 j hj; have := b.len; omega⟩
theorem at0_last (l : List Int) (x : Int) : at0 (l ++ [x]) (l.length : Int) = x := by rw [at0_nat]; simp [List.getD, List.getElem?_append_right]
theorem at0_old {l : List Int} {x : Int} {j : Nat} (h : j < l.length) : at0 (l ++ [x]) (j : Int) = at0 l j := at0_append (by omega)

/-- Rounds that each append at most m gates. -/
theorem rnds_inv {f : List Gt → Nat → List Gt × Int} {gs : List Gt} {n m : Nat} {v : List Int → Nat → Int} (hok : gtsOk 0 gs = true)
    (hf : ∀ (h : List Gt) (q k : Nat), Bd gs q h → k < n → Bd h m (f h k).1 ∧ 0 ≤ (f h k).2 ∧ (f h k).2 < (f h k).1.length ∧ ∀ bs, allB bs 0 1 = true → vw bs (f h k).1 (f h k).2 = v bs k) :
    ∀ k, k ≤ n → Bd gs (m * k) (rnds f gs k).1 ∧ Wrs (rnds f gs k).1 k (rnds f gs k).2 ∧ ∀ bs, allB bs 0 1 = true → ∀ j : Nat, j < k → vw bs (rnds f gs k).1 (at0 (rnds f gs k).2 j) = v bs j
  | 0, _ => ⟨Bd.refl hok, ⟨rfl, fun j hj => by omega⟩, fun bs hb j hj => by omega⟩
  | k + 1, hk => by
    obtain ⟨b1, w1, v1⟩ := rnds_inv hok hf k (by omega)
    obtain ⟨b2, p0, p1, v2⟩ := hf _ _ k b1 (by omega)
    have hl := rnds_len f gs k
    show Bd gs (m * k + m) (f (rnds f gs k).1 k).1 ∧ Wrs (f (rnds f gs k).1 k).1 (k + 1) ((rnds f gs k).2 ++ [(f (rnds f gs k).1 k).2]) ∧ ∀ bs, allB bs 0 1 = true → ∀ j : Nat, j < k + 1 → vw bs (f (rnds f gs k).1 k).1 (at0 ((rnds f gs k).2 ++ [(f (rnds f gs k).1 k).2]) j) = v bs j
    generalize f (rnds f gs k).1 k = r at *
    generalize rnds f gs k = s at *
    have hbl := b2.len
    refine ⟨b1.trans b2, ⟨by simp [hl], fun j hj => ?_⟩, fun bs hb j hj => ?_⟩
    · by_cases hjk : j < k
      · rw [at0_old (by omega)]; have := w1.2 j hjk; omega
      · obtain rfl : j = s.2.length := by omega
        rw [at0_last]; exact ⟨p0, p1⟩
    · by_cases hjk : j < k
      · rw [at0_old (by omega), b2.v (w1.2 j hjk).1 (w1.2 j hjk).2]; exact v1 bs hb j hjk
      · obtain rfl : j = s.2.length := by omega
        rw [at0_last, v2 bs hb, hl]

theorem notsP_inv {gs : List Gt} {b : List Int} (hok : gtsOk 0 gs = true) (hb : Wrs gs 4 b) : Bd gs 4 (notsP b gs).1 ∧ Wrs (notsP b gs).1 4 (notsP b gs).2 ∧ ∀ bs, allB bs 0 1 = true → ∀ j : Nat, j < 4 → vw bs (notsP b gs).1 (at0 (notsP b gs).2 j) = 1 - vw bs gs (at0 b j) :=
  rnds_inv (m := 1) (v := fun bs k => 1 - vw bs gs (at0 b k)) hok (fun h q k hq hk => by
    have r := hb.2 k hk
    have l := hq.len
    refine ⟨Bd.put hq.ok (ok_not (by simp only; omega)), by simp [put1], by simp [put1]; omega, fun bs hbs => ?_⟩
    show vw bs (h ++ [_]) (h.length : Int) = _
    rw [vw_not, hq.v r.1 r.2]) 4 (Nat.le_refl _)
theorem bitsP_inv {gs : List Gt} {kd : Int} {a b : List Int} (hkd : kd = 3 ∨ kd = 4) (hok : gtsOk 0 gs = true) (ha : Wrs gs 4 a) (hb : Wrs gs 4 b) :
    Bd gs 4 (bitsP kd a b gs).1 ∧ Wrs (bitsP kd a b gs).1 4 (bitsP kd a b gs).2 ∧ ∀ bs, allB bs 0 1 = true → ∀ j : Nat, j < 4 → vw bs (bitsP kd a b gs).1 (at0 (bitsP kd a b gs).2 j) = if kd = 3 then xorI (vw bs gs (at0 a j)) (vw bs gs (at0 b j)) else andI (vw bs gs (at0 a j)) (vw bs gs (at0 b j)) :=
  rnds_inv (m := 1) (v := fun bs j => if kd = 3 then xorI (vw bs gs (at0 a j)) (vw bs gs (at0 b j)) else andI (vw bs gs (at0 a j)) (vw bs gs (at0 b j))) hok (fun h q k hq hk => by
    have r := ha.2 k hk
    have s := hb.2 k hk
    have l := hq.len
    refine ⟨Bd.put hq.ok (ok_two hkd (by simp only; omega) (by simp only; omega)), by simp [put1], by simp [put1]; omega, fun bs hbs => ?_⟩
    show vw bs (h ++ [_]) (h.length : Int) = _
    rcases hkd with rfl | rfl
    · rw [vw_xor, hq.v r.1 r.2, hq.v s.1 s.2]; rfl
    · rw [vw_and, hq.v r.1 r.2, hq.v s.1 s.2]; rfl) 4 (Nat.le_refl _)
theorem rowP_inv {gs : List Gt} {y : Int} {a : List Int} {n : Nat} (hok : gtsOk 0 gs = true) (hy : 0 ≤ y ∧ y < gs.length) (ha : Wrs gs 4 a) (hn : n ≤ 4) :
    Bd gs (1 * n) (rowP y a n gs).1 ∧ Wrs (rowP y a n gs).1 n (rowP y a n gs).2 ∧ ∀ bs, allB bs 0 1 = true → ∀ j : Nat, j < n → vw bs (rowP y a n gs).1 (at0 (rowP y a n gs).2 j) = andI (vw bs gs y) (vw bs gs (at0 a j)) :=
  rnds_inv (m := 1) (v := fun bs j => andI (vw bs gs y) (vw bs gs (at0 a j))) hok (fun h q k hq hk => by
    have r := ha.2 k (by omega)
    have l := hq.len
    refine ⟨Bd.put hq.ok (ok_two (.inr rfl) (by simp only; omega) (by simp only; omega)), by simp [put1], by simp [put1]; omega, fun bs hbs => ?_⟩
    show vw bs (h ++ [_]) (h.length : Int) = _
    rw [vw_and, hq.v r.1 r.2, hq.v hy.1 hy.2]) n (Nat.le_refl _)
theorem constP_inv {gs : List Gt} {n : Int} (hok : gtsOk 0 gs = true) :
    Bd gs 4 (constP n gs).1 ∧ Wrs (constP n gs).1 4 (constP n gs).2 ∧ ∀ bs, allB bs 0 1 = true → ∀ j : Nat, j < 4 → vw bs (constP n gs).1 (at0 (constP n gs).2 j) = (n / 2 ^ j) % 2 :=
  rnds_inv (m := 1) (v := fun bs j => (n / 2 ^ j) % 2) hok (fun h q k hq hk => by
    refine ⟨Bd.put hq.ok (ok_const (by simp only; omega)), by simp [put1], by simp [put1]; omega, fun bs hbs => ?_⟩
    show vw bs (h ++ [_]) (h.length : Int) = _
    rw [vw_const]) 4 (Nat.le_refl _)
theorem inputP_inv {gs : List Gt} {m : Int} (hok : gtsOk 0 gs = true) (h0 : 0 ≤ m) (h1 : m ≤ 19) :
    Bd gs 4 (inputP m gs).1 ∧ Wrs (inputP m gs).1 4 (inputP m gs).2 ∧ ∀ bs, allB bs 0 1 = true → ∀ j : Nat, j < 4 → vw bs (inputP m gs).1 (at0 (inputP m gs).2 j) = at0 bs (m * 4 + j) :=
  rnds_inv (m := 1) (v := fun bs j => at0 bs (m * 4 + j)) hok (fun h q k hq hk => by
    refine ⟨Bd.put hq.ok (ok_input (by simp only; omega)), by simp [put1], by simp [put1]; omega, fun bs hbs => ?_⟩
    show vw bs (h ++ [_]) (h.length : Int) = _
    rw [vw_input]) 4 (Nat.le_refl _)
theorem two_puts {h : List Gt} (hok : gtsOk 0 h = true) {g1 g2 : Gt} (h1 : gateOk g1.kd g1.ga g1.gb h.length = true) (h2 : gateOk g2.kd g2.ga g2.gb ((h.length : Int) + 1) = true) : Bd h 1 (h ++ [g1]) ∧ Bd h 2 (h ++ [g1, g2]) ∧ Bd (h ++ [g1]) 1 (h ++ [g1, g2]) := by
  have b1 := Bd.put hok h1
  have b2 := Bd.put (g := g2) b1.ok (by simpa using h2)
  have e : h ++ [g1] ++ [g2] = h ++ [g1, g2] := by simp
  rw [e] at b2
  exact ⟨b1, b1.trans b2, b2⟩
theorem eqsP_inv {gs : List Gt} {a b : List Int} (hok : gtsOk 0 gs = true) (ha : Wrs gs 4 a) (hb : Wrs gs 4 b) :
    Bd gs 8 (eqsP a b gs).1 ∧ Wrs (eqsP a b gs).1 4 (eqsP a b gs).2 ∧ ∀ bs, allB bs 0 1 = true → ∀ j : Nat, j < 4 → vw bs (eqsP a b gs).1 (at0 (eqsP a b gs).2 j) = 1 - xorI (vw bs gs (at0 a j)) (vw bs gs (at0 b j)) :=
  rnds_inv (m := 2) (v := fun bs j => 1 - xorI (vw bs gs (at0 a j)) (vw bs gs (at0 b j))) hok (fun h q k hq hk => by
    have r := ha.2 k hk
    have s := hb.2 k hk
    have l := hq.len
    obtain ⟨b1, b2, b3⟩ := two_puts (g1 := ⟨3, at0 a k, at0 b k⟩) (g2 := ⟨5, h.length, 0⟩) hq.ok (ok_two (.inl rfl) (by (try simp only); omega) (by (try simp only); omega)) (ok_not (by (try simp only); omega))
    refine ⟨b2, by simp only; omega, by simp, fun bs hbs => ?_⟩
    have e : h ++ [(⟨3, at0 a k, at0 b k⟩ : Gt), ⟨5, h.length, 0⟩] = (h ++ [⟨3, at0 a k, at0 b k⟩]) ++ [⟨5, h.length, 0⟩] := by simp
    have e2 : (h.length : Int) + 1 = ((h ++ [(⟨3, at0 a k, at0 b k⟩ : Gt)]).length : Int) := by simp
    simp only
    rw [e, e2, vw_not, vw_xor, hq.v r.1 r.2, hq.v s.1 s.2]) 4 (Nat.le_refl _)
theorem muxP_inv {gs : List Gt} {s0 : Int} {a b : List Int} (hok : gtsOk 0 gs = true) (hs : 0 ≤ s0 ∧ s0 < gs.length) (ha : Wrs gs 4 a) (hb : Wrs gs 4 b) :
    Bd gs 12 (muxP s0 a b gs).1 ∧ Wrs (muxP s0 a b gs).1 4 (muxP s0 a b gs).2 ∧ ∀ bs, allB bs 0 1 = true → ∀ j : Nat, j < 4 → vw bs (muxP s0 a b gs).1 (at0 (muxP s0 a b gs).2 j) = xorI (andI (vw bs gs s0) (xorI (vw bs gs (at0 a j)) (vw bs gs (at0 b j)))) (vw bs gs (at0 b j)) :=
  rnds_inv (m := 3) (v := fun bs j => xorI (andI (vw bs gs s0) (xorI (vw bs gs (at0 a j)) (vw bs gs (at0 b j)))) (vw bs gs (at0 b j))) hok (fun h q k hq hk => by
    have r := ha.2 k hk
    have s := hb.2 k hk
    have l := hq.len
    obtain ⟨b1, b2, b3⟩ := two_puts (g1 := ⟨3, at0 a k, at0 b k⟩) (g2 := ⟨4, s0, h.length⟩) hq.ok (ok_two (.inl rfl) (by (try simp only); omega) (by (try simp only); omega)) (ok_two (.inr rfl) (by (try simp only); omega) (by (try simp only); omega))
    have b4 := Bd.put (g := ⟨3, (h.length : Int) + 1, at0 b k⟩) b2.ok (ok_two (.inl rfl) (by simp only [List.length_append, List.length_cons, List.length_nil]; omega) (by simp only [List.length_append, List.length_cons, List.length_nil]; omega))
    have e0 : h ++ [(⟨3, at0 a k, at0 b k⟩ : Gt), ⟨4, s0, h.length⟩, ⟨3, (h.length : Int) + 1, at0 b k⟩] = (h ++ [⟨3, at0 a k, at0 b k⟩, ⟨4, s0, h.length⟩]) ++ [⟨3, (h.length : Int) + 1, at0 b k⟩] := by simp
    have e : h ++ [(⟨3, at0 a k, at0 b k⟩ : Gt), ⟨4, s0, h.length⟩] = (h ++ [⟨3, at0 a k, at0 b k⟩]) ++ [⟨4, s0, h.length⟩] := by simp
    have e1 : (h.length : Int) + 2 = ((h ++ [(⟨3, at0 a k, at0 b k⟩ : Gt), ⟨4, s0, h.length⟩]).length : Int) := by simp
    have e2 : (h.length : Int) + 1 = ((h ++ [(⟨3, at0 a k, at0 b k⟩ : Gt)]).length : Int) := by simp
    have l1 := b1.len
    refine ⟨by simp only; rw [e0]; exact b2.trans b4, by simp only; omega, by simp, fun bs hbs => ?_⟩
    simp only
    rw [e0, e1, vw_xor, b2.v (a := at0 b k) (by omega) (by omega), hq.v s.1 s.2, e2, e, vw_and, vw_xor, b1.v (a := s0) (by omega) (by omega), hq.v hs.1 hs.2, hq.v r.1 r.2, hq.v s.1 s.2]) 4 (Nat.le_refl _)
theorem andsP_inv {l : List Int} {gs : List Gt} {n : Nat} (hok : gtsOk 0 gs = true) (hl : Wrs gs n l) : ∀ k, k + 1 ≤ n → Bd gs k (andsP l gs k).1 ∧ 0 ≤ (andsP l gs k).2 ∧ (andsP l gs k).2 < (andsP l gs k).1.length ∧
    ∀ bs, allB bs 0 1 = true → (vw bs (andsP l gs k).1 (andsP l gs k).2 = 1 ↔ ∀ j : Nat, j < k + 1 → vw bs gs (at0 l j) = 1)
  | 0, hk => by
    have := hl.2 0 (by omega)
    refine ⟨Bd.refl hok, this.1, this.2, fun bs hb => ⟨fun h j hj => ?_, fun h => h 0 (by omega)⟩⟩
    obtain rfl : j = 0 := by omega
    exact h
  | k + 1, hk => by
    obtain ⟨b1, p0, p1, v1⟩ := andsP_inv hok hl k (by omega)
    have r := hl.2 (k + 1) (by omega)
    have hbl := b1.len
    have b2 := Bd.put (g := ⟨4, (andsP l gs k).2, at0 l (k + 1 : Nat)⟩) b1.ok (ok_two (.inr rfl) ⟨p0, p1⟩ (by simp only; omega))
    refine ⟨b1.trans b2, by simp [andsP], by simp [andsP]; omega, fun bs hb => ?_⟩
    show vw bs ((andsP l gs k).1 ++ [_]) ((andsP l gs k).1.length : Int) = 1 ↔ _
    rw [vw_and, b1.v r.1 r.2]
    have q1 := evalW_bit b1.ok hb (andsP l gs k).2
    have q2 := evalW_bit hok hb (at0 l (k + 1 : Nat))
    have e := andI_bit q1 q2
    show andI (vw bs _ _) (vw bs _ _) = 1 ↔ _
    unfold vw at e ⊢
    rw [e]
    have hv := v1 bs hb
    unfold vw at hv
    constructor
    · intro h
      have h2 : at0 (evalW bs (andsP l gs k).1) (andsP l gs k).2 = 1 ∧ at0 (evalW bs gs) (at0 l ((k + 1 : Nat) : Int)) = 1 := by
        by_cases hc : at0 (evalW bs (andsP l gs k).1) (andsP l gs k).2 = 1 ∧ at0 (evalW bs gs) (at0 l ((k + 1 : Nat) : Int)) = 1
        · exact hc
        · rw [if_neg hc] at h; omega
      intro j hj
      by_cases hjk : j < k + 1
      · exact (hv.1 h2.1) j hjk
      · obtain rfl : j = k + 1 := by omega
        exact h2.2
    · intro h
      rw [if_pos ⟨hv.2 fun j hj => h j (by omega), h (k + 1) (by omega)⟩]
theorem fullG_inv {gs : List Gt} {a b c : Int} (hok : gtsOk 0 gs = true) (ha : 0 ≤ a ∧ a < gs.length) (hb : 0 ≤ b ∧ b < gs.length) (hc : 0 ≤ c ∧ c < gs.length) :
    Bd gs 5 (fullG gs a b c) ∧ (fullG gs a b c).length = gs.length + 5 ∧ ∀ bs, allB bs 0 1 = true → vw bs gs a + vw bs gs b + vw bs gs c = vw bs (fullG gs a b c) ((gs.length : Int) + 2) + 2 * vw bs (fullG gs a b c) ((gs.length : Int) + 4) := by
  obtain ⟨n, hn⟩ : ∃ n : Int, n = gs.length := ⟨_, rfl⟩
  obtain ⟨g1, h1⟩ : ∃ g, g = gs ++ [⟨3, a, c⟩] := ⟨_, rfl⟩
  obtain ⟨g2, h2⟩ : ∃ g, g = g1 ++ [⟨3, b, c⟩] := ⟨_, rfl⟩
  obtain ⟨g3, h3⟩ : ∃ g, g = g2 ++ [⟨3, a, n + 1⟩] := ⟨_, rfl⟩
  obtain ⟨g4, h4⟩ : ∃ g, g = g3 ++ [⟨4, n, n + 1⟩] := ⟨_, rfl⟩
  obtain ⟨g5, h5⟩ : ∃ g, g = g4 ++ [⟨3, n + 3, c⟩] := ⟨_, rfl⟩
  have l1 : (g1.length : Int) = n + 1 := by rw [h1, hn]; simp
  have l2 : (g2.length : Int) = n + 2 := by rw [h2]; simp; omega
  have l3 : (g3.length : Int) = n + 3 := by rw [h3]; simp; omega
  have l4 : (g4.length : Int) = n + 4 := by rw [h4]; simp; omega
  have l5 : (g5.length : Int) = n + 5 := by rw [h5]; simp; omega
  rw [← hn] at ha hb hc
  have b1 : Bd gs 1 g1 := by rw [h1]; exact Bd.put hok (ok_two (.inl rfl) (by rw [← hn]; exact ha) (by rw [← hn]; exact hc))
  have b2 : Bd g1 1 g2 := by rw [h2]; exact Bd.put b1.ok (ok_two (.inl rfl) (by rw [l1]; simp only; omega) (by rw [l1]; simp only; omega))
  have b3 : Bd g2 1 g3 := by rw [h3]; exact Bd.put b2.ok (ok_two (.inl rfl) (by rw [l2]; simp only; omega) (by rw [l2]; simp only; omega))
  have b4 : Bd g3 1 g4 := by rw [h4]; exact Bd.put b3.ok (ok_two (.inr rfl) (by rw [l3]; simp only; omega) (by rw [l3]; simp only; omega))
  have b5 : Bd g4 1 g5 := by rw [h5]; exact Bd.put b4.ok (ok_two (.inl rfl) (by rw [l4]; simp only; omega) (by rw [l4]; simp only; omega))
  have e : fullG gs a b c = g5 := by rw [h5, h4, h3, h2, h1, hn]; simp [fullG]
  rw [e]
  refine ⟨(((b1.trans b2).trans b3).trans b4).trans b5, by omega, fun bs hbs => ?_⟩
  rw [← hn]
  have x1 : vw bs g1 n = xorI (vw bs gs a) (vw bs gs c) := by rw [h1, hn]; exact vw_xor bs gs a c
  have x2 : vw bs g2 (n + 1) = xorI (vw bs gs b) (vw bs gs c) := by
    rw [h2, ← l1, vw_xor, b1.v (by omega) (by omega), b1.v (by omega) (by omega)]
  have b12 := b1.trans b2
  have x3 : vw bs g3 (n + 2) = xorI (vw bs gs a) (vw bs g2 (n + 1)) := by
    rw [h3, ← l2, vw_xor, b12.v (by omega) (by omega)]
  have x4 : vw bs g4 (n + 3) = andI (vw bs g1 n) (vw bs g2 (n + 1)) := by
    rw [h4, ← l3, vw_and, b3.v (by omega) (by omega), b3.v (by omega) (by omega), b2.v (by omega) (by omega)]
  have x5 : vw bs g5 (n + 4) = xorI (vw bs g4 (n + 3)) (vw bs gs c) := by
    rw [h5, ← l4, vw_xor, ((b12.trans b3).trans b4).v hc.1 (by omega)]
  have x3' : vw bs g5 (n + 2) = vw bs g3 (n + 2) := (b4.trans b5).v (by omega) (by omega) bs
  rw [x3', x3, x5, x4, x1, x2]
  have q : ∀ z, vw bs gs z = 0 ∨ vw bs gs z = 1 := fun z => (Bd.refl hok).bit hbs z
  rcases q a with ea | ea <;> rcases q b with eb | eb <;> rcases q c with ec | ec <;> rw [ea, eb, ec] <;> decide
theorem fullsP_inv {gs : List Gt} {a b : List Int} {c : Int} {n : Nat} (hok : gtsOk 0 gs = true) (ha : Wrs gs n a) (hb : Wrs gs n b) (hc : 0 ≤ c ∧ c < gs.length) : ∀ k, k ≤ n →
    Bd gs (5 * k) (fullsP a b c gs k).1 ∧ (0 ≤ (fullsP a b c gs k).2.1 ∧ (fullsP a b c gs k).2.1 < (fullsP a b c gs k).1.length) ∧ Wrs (fullsP a b c gs k).1 k (fullsP a b c gs k).2.2
  | 0, _ => ⟨Bd.refl hok, hc, rfl, fun j hj => by omega⟩
  | k + 1, hk => by
    obtain ⟨b1, hc1, w1⟩ := fullsP_inv hok ha hb hc k (by omega)
    have ra := (ha.up b1).2 k (by omega)
    have rb := (hb.up b1).2 k (by omega)
    obtain ⟨b2, l2, _⟩ := fullG_inv b1.ok ra rb hc1
    show Bd gs (5 * k + 5) (fullG (fullsP a b c gs k).1 (at0 a k) (at0 b k) (fullsP a b c gs k).2.1) ∧ (0 ≤ ((fullsP a b c gs k).1.length : Int) + 4 ∧ ((fullsP a b c gs k).1.length : Int) + 4 < (fullG (fullsP a b c gs k).1 (at0 a k) (at0 b k) (fullsP a b c gs k).2.1).length) ∧
      Wrs (fullG (fullsP a b c gs k).1 (at0 a k) (at0 b k) (fullsP a b c gs k).2.1) (k + 1) ((fullsP a b c gs k).2.2 ++ [((fullsP a b c gs k).1.length : Int) + 2])
    refine ⟨b1.trans b2, by omega, by simp [w1.1], fun j hj => ?_⟩
    by_cases hjk : j < k
    · rw [at0_old (by rw [w1.1]; exact hjk)]; have := w1.2 j hjk; omega
    · obtain rfl : j = (fullsP a b c gs k).2.2.length := by rw [w1.1]; omega
      rw [at0_last]; omega
/-- The carry of each place. -/
def carV (bs : List Int) (a b : List Int) (c : Int) (gs : List Gt) (k : Nat) : Int := vw bs (fullsP a b c gs k).1 (fullsP a b c gs k).2.1
theorem fullsP_val {gs : List Gt} {a b : List Int} {c : Int} {n : Nat} (hok : gtsOk 0 gs = true) (ha : Wrs gs n a) (hb : Wrs gs n b) (hc : 0 ≤ c ∧ c < gs.length) {bs : List Int} (hbs : allB bs 0 1 = true) : ∀ k, k ≤ n → ∀ j : Nat, j < k →
    vw bs gs (at0 a j) + vw bs gs (at0 b j) + carV bs a b c gs j = vw bs (fullsP a b c gs k).1 (at0 (fullsP a b c gs k).2.2 j) + 2 * carV bs a b c gs (j + 1)
  | 0, _, j, hj => by omega
  | k + 1, hk, j, hj => by
    obtain ⟨b1, hc1, w1⟩ := fullsP_inv hok ha hb hc k (by omega)
    have ra := ha.2 k (by omega)
    have rb := hb.2 k (by omega)
    have hbl := b1.len
    obtain ⟨b2, l2, hv⟩ := fullG_inv (a := at0 a k) (b := at0 b k) b1.ok (by omega) (by omega) hc1
    show _ = vw bs (fullG (fullsP a b c gs k).1 (at0 a k) (at0 b k) (fullsP a b c gs k).2.1) (at0 ((fullsP a b c gs k).2.2 ++ [((fullsP a b c gs k).1.length : Int) + 2]) j) + _
    by_cases hjk : j < k
    · have hw := w1.2 j hjk
      rw [at0_old (by rw [w1.1]; exact hjk), b2.v hw.1 hw.2]
      exact fullsP_val hok ha hb hc hbs k (by omega) j hjk
    · obtain rfl : j = k := by omega
      have e : at0 ((fullsP a b c gs j).2.2 ++ [((fullsP a b c gs j).1.length : Int) + 2]) (j : Int) = ((fullsP a b c gs j).1.length : Int) + 2 := by
        have := at0_last (fullsP a b c gs j).2.2 (((fullsP a b c gs j).1.length : Int) + 2)
        rwa [w1.1] at this
      rw [e]
      have := hv bs hbs
      rw [b1.v ra.1 ra.2, b1.v rb.1 rb.2] at this
      exact this
theorem carV_bit {gs : List Gt} {a b : List Int} {c : Int} {n : Nat} (hok : gtsOk 0 gs = true) (ha : Wrs gs n a) (hb : Wrs gs n b) (hc : 0 ≤ c ∧ c < gs.length) {bs : List Int} (hbs : allB bs 0 1 = true) (k : Nat) (hk : k ≤ n) : carV bs a b c gs k = 0 ∨ carV bs a b c gs k = 1 :=
  (fullsP_inv hok ha hb hc k hk).1.bit hbs _
end Go.Proofs.Ytfcijloiebnloaa

/- BldS -/
namespace Go.Proofs.Ytfcijloiebnloaa
open Go.RowKit
set_option linter.unusedVariables false
set_option linter.unusedSimpArgs false

theorem Wrs.sub {gs : List Gt} {n m : Nat} {l : List Int} (w : Wrs gs n l) (f : List Int) (hf : f.length = m) (h : ∀ j : Nat, j < m → ∃ i : Nat, i < n ∧ at0 f j = at0 l i) : Wrs gs m f := ⟨hf, fun j hj => by
  obtain ⟨i, hi, e⟩ := h j hj
  rw [e]; exact w.2 i hi⟩
theorem at0_take {l : List Int} {k j : Nat} (h : j < k) : at0 (l.take k) (j : Int) = at0 l j := by
  rw [at0_nat, at0_nat]; simp [List.getD, List.getElem?_take, h]
theorem at0_drop (l : List Int) (k j : Nat) : at0 (l.drop k) (j : Int) = at0 l ((k + j : Nat) : Int) := by
  rw [at0_nat, at0_nat]; simp [List.getD, List.getElem?_drop]
theorem at0_right {l r : List Int} {n j : Nat} (h : l.length = n) : at0 (l ++ r) ((n + j : Nat) : Int) = at0 r j := by
  rw [at0_nat, at0_nat]; simp [List.getD, List.getElem?_append_right, h]
theorem at0_left {l r : List Int} {j : Nat} (h : j < l.length) : at0 (l ++ r) (j : Int) = at0 l j := at0_append (by omega)

theorem sumP_inv {gs : List Gt} {a b : List Int} {first : Int} {n : Nat} (hok : gtsOk 0 gs = true) (ha : Wrs gs (n + 1) a) (hb : Wrs gs (n + 1) b) (hf : 0 ≤ first ∧ first ≤ 1) :
    Bd gs (5 * n + 3) (sumP a b first n gs).1 ∧ Wrs (sumP a b first n gs).1 (n + 1) (sumP a b first n gs).2 ∧ ∀ bs, allB bs 0 1 = true → ∃ car : Nat → Int, car 0 = first ∧ (∀ k, k ≤ n + 1 → car k = 0 ∨ car k = 1) ∧
      ∀ j : Nat, j ≤ n → vw bs gs (at0 a j) + vw bs gs (at0 b j) + car j = vw bs (sumP a b first n gs).1 (at0 (sumP a b first n gs).2 j) + 2 * car (j + 1) := by
  have b0 : Bd gs 1 (gs ++ [⟨2, first, 0⟩]) := Bd.put hok (ok_const hf)
  have hl0 : ((gs ++ [(⟨2, first, 0⟩ : Gt)]).length : Int) = gs.length + 1 := by simp
  have ha' := ha.up b0
  have hb' := hb.up b0
  have hc : 0 ≤ (gs.length : Int) ∧ (gs.length : Int) < ((gs ++ [(⟨2, first, 0⟩ : Gt)]).length : Int) := by omega
  have han : Wrs (gs ++ [⟨2, first, 0⟩]) n (a.take n) := ha'.sub _ (by rw [List.length_take, ha.1]; omega) fun j hj => ⟨j, by omega, at0_take hj⟩
  have key : ∀ k, k ≤ n → fullsP a b gs.length (gs ++ [⟨2, first, 0⟩]) k = fullsP (a.take n) (b.take n) gs.length (gs ++ [⟨2, first, 0⟩]) k := by
    intro k
    induction k with
    | zero => intro _; rfl
    | succ k ih =>
      intro hk
      unfold fullsP
      rw [ih (by omega), at0_take (show k < n by omega), at0_take (show k < n by omega)]
  have hbn : Wrs (gs ++ [⟨2, first, 0⟩]) n (b.take n) := hb'.sub _ (by rw [List.length_take, hb.1]; omega) fun j hj => ⟨j, by omega, at0_take hj⟩
  obtain ⟨b1, hc1, w1⟩ := fullsP_inv b0.ok han hbn hc n (Nat.le_refl _)
  have hval := fun bs hbs => fullsP_val b0.ok han hbn hc (bs := bs) hbs n (Nat.le_refl _)
  have hcar := fun bs hbs => carV_bit b0.ok han hbn hc (bs := bs) hbs
  have hc0 : ∀ bs, carV bs (a.take n) (b.take n) gs.length (gs ++ [⟨2, first, 0⟩]) 0 = first := fun bs => vw_const bs gs first 0
  have hcn : ∀ bs, carV bs (a.take n) (b.take n) gs.length (gs ++ [⟨2, first, 0⟩]) n = vw bs (fullsP (a.take n) (b.take n) gs.length (gs ++ [⟨2, first, 0⟩]) n).1 (fullsP (a.take n) (b.take n) gs.length (gs ++ [⟨2, first, 0⟩]) n).2.1 := fun bs => rfl
  unfold sumP
  rw [key n (Nat.le_refl _)]
  generalize hgcar : (fun bs => carV bs (a.take n) (b.take n) gs.length (gs ++ [⟨2, first, 0⟩])) = car0
  have hgc : ∀ bs k, carV bs (a.take n) (b.take n) gs.length (gs ++ [⟨2, first, 0⟩]) k = car0 bs k := fun bs k => by rw [← hgcar]
  simp only [hgc] at hval hcar hc0 hcn
  generalize fullsP (a.take n) (b.take n) gs.length (gs ++ [⟨2, first, 0⟩]) n = F at *
  obtain ⟨h, c, out⟩ := F
  simp only at *
  have bh := b0.trans b1
  have hbl := bh.len
  have ran := (ha.up bh).2 n (by omega)
  have rbn := (hb.up bh).2 n (by omega)
  obtain ⟨b2, b3, b4⟩ := two_puts (g1 := ⟨3, at0 a n, at0 b n⟩) (g2 := ⟨3, h.length, c⟩) b1.ok (ok_two (.inl rfl) ran rbn) (ok_two (.inl rfl) (by (try simp only); omega) (by (try simp only); omega))
  have hl3 : ((h ++ [(⟨3, at0 a n, at0 b n⟩ : Gt), ⟨3, h.length, c⟩]).length : Int) = h.length + 2 := by simp
  refine ⟨(bh.trans b3).mono (by omega), ⟨by simp [w1.1], fun j hj => ?_⟩, fun bs hbs => ?_⟩
  · by_cases hjn : j < n
    · rw [at0_old (by rw [w1.1]; exact hjn)]; have := w1.2 j hjn; omega
    · obtain rfl : j = n := by omega
      have e := at0_last out ((h.length : Int) + 1)
      rw [w1.1] at e
      rw [e]; omega
  · refine ⟨fun k => if k ≤ n then car0 bs k else (vw bs gs (at0 a n) + vw bs gs (at0 b n) + car0 bs n) / 2, by simp [hc0], fun k hk => ?_, fun j hj => ?_⟩
    · by_cases hkn : k ≤ n
      · simp only [if_pos hkn]; exact hcar bs hbs k hkn
      · simp only [if_neg hkn]
        have q1 := (Bd.refl hok).bit hbs (at0 a n)
        have q2 := (Bd.refl hok).bit hbs (at0 b n)
        have q3 := hcar bs hbs n (Nat.le_refl _)
        omega
    · simp only [if_pos hj]
      by_cases hjn : j < n
      · rw [at0_old (by rw [w1.1]; exact hjn), if_pos (by omega), b3.v (w1.2 j hjn).1 (w1.2 j hjn).2]
        have := hval bs hbs j hjn
        rw [at0_take hjn, at0_take hjn, b0.v (ha.2 j (by omega)).1 (ha.2 j (by omega)).2, b0.v (hb.2 j (by omega)).1 (hb.2 j (by omega)).2] at this
        exact this
      · obtain rfl : j = n := by omega
        have e := at0_last out ((h.length : Int) + 1)
        rw [w1.1] at e
        rw [e, if_neg (by omega)]
        have e3 : h ++ [(⟨3, at0 a j, at0 b j⟩ : Gt), ⟨3, h.length, c⟩] = (h ++ [⟨3, at0 a j, at0 b j⟩]) ++ [⟨3, h.length, c⟩] := by simp
        have e4 : (h.length : Int) + 1 = ((h ++ [(⟨3, at0 a j, at0 b j⟩ : Gt)]).length : Int) := by simp
        have ha2 := ha.2 j (by omega)
        have hb2 := hb.2 j (by omega)
        rw [e3, e4, vw_xor, vw_xor, b2.v hc1.1 hc1.2, bh.v ha2.1 ha2.2, bh.v hb2.1 hb2.2, ← hcn bs]
        have q1 := (Bd.refl hok).bit hbs (at0 a j)
        have q2 := (Bd.refl hok).bit hbs (at0 b j)
        have q3 := hcar bs hbs j (Nat.le_refl _)
        rcases q1 with q1 | q1 <;> rcases q2 with q2 | q2 <;> rcases q3 with q3 | q3 <;> rw [q1, q2, q3] <;> decide

/-- The number that a word stands for. -/
def wordV (bs : List Int) (gs : List Gt) (l : List Int) : Int := vw bs gs (at0 l (0 : Nat)) + 2 * vw bs gs (at0 l (1 : Nat)) + 4 * vw bs gs (at0 l (2 : Nat)) + 8 * vw bs gs (at0 l (3 : Nat))
theorem wordV_up {gs h : List Gt} {m : Nat} (b : Bd gs m h) {l : List Int} (w : Wrs gs 4 l) (bs : List Int) : wordV bs h l = wordV bs gs l := by
  unfold wordV
  rw [b.v (w.2 0 (by omega)).1 (w.2 0 (by omega)).2, b.v (w.2 1 (by omega)).1 (w.2 1 (by omega)).2, b.v (w.2 2 (by omega)).1 (w.2 2 (by omega)).2, b.v (w.2 3 (by omega)).1 (w.2 3 (by omega)).2]
theorem wordV_b {gs : List Gt} (hok : gtsOk 0 gs = true) {bs : List Int} (hbs : allB bs 0 1 = true) (l : List Int) : 0 ≤ wordV bs gs l ∧ wordV bs gs l ≤ 15 := by
  have q := fun a => (Bd.refl hok).bit hbs a
  have q0 := q (at0 l (0 : Nat)); have q1 := q (at0 l (1 : Nat)); have q2 := q (at0 l (2 : Nat)); have q3 := q (at0 l (3 : Nat))
  unfold wordV; omega

theorem add_val {gs : List Gt} {a b : List Int} {first : Int} (hok : gtsOk 0 gs = true) (ha : Wrs gs 4 a) (hb : Wrs gs 4 b) (hf : 0 ≤ first ∧ first ≤ 1) {bs : List Int} (hbs : allB bs 0 1 = true) :
    wordV bs (sumP a b first 3 gs).1 (sumP a b first 3 gs).2 = (wordV bs gs a + wordV bs gs b + first) % 16 := by
  obtain ⟨b1, w1, hv⟩ := sumP_inv hok ha hb hf
  obtain ⟨car, c0, cb, h⟩ := hv bs hbs
  have h0 := h 0 (by omega); have h1 := h 1 (by omega); have h2 := h 2 (by omega); have h3 := h 3 (by omega)
  have d4 := cb 4 (by omega)
  have hw := wordV_b b1.ok hbs (sumP a b first 3 gs).2
  unfold wordV at hw ⊢
  generalize sumP a b first 3 gs = r at *
  simp only [Nat.zero_add, Nat.reduceAdd] at h0 h1 h2 h3
  omega
theorem sub_val {gs : List Gt} {a b : List Int} (hok : gtsOk 0 gs = true) (ha : Wrs gs 4 a) (hb : Wrs gs 4 b) :
    Bd gs 22 (subP a b gs).1 ∧ Wrs (subP a b gs).1 4 (subP a b gs).2 ∧ ∀ bs, allB bs 0 1 = true → wordV bs (subP a b gs).1 (subP a b gs).2 = (wordV bs gs a - wordV bs gs b + 16) % 16 := by
  obtain ⟨b1, w1, v1⟩ := notsP_inv hok hb
  obtain ⟨b2, w2, _⟩ := sumP_inv b1.ok (ha.up b1) w1 (first := 1) (n := 3) (by omega)
  refine ⟨b1.trans b2, w2, fun bs hbs => ?_⟩
  unfold subP
  rw [add_val b1.ok (ha.up b1) w1 (by omega) hbs, wordV_up b1 ha]
  have h0 := v1 bs hbs 0 (by omega); have h1 := v1 bs hbs 1 (by omega); have h2 := v1 bs hbs 2 (by omega); have h3 := v1 bs hbs 3 (by omega)
  have : wordV bs (notsP b gs).1 (notsP b gs).2 = 15 - wordV bs gs b := by unfold wordV; rw [h0, h1, h2, h3]; omega
  rw [this]; omega
theorem less_val {gs : List Gt} {a b : List Int} (hok : gtsOk 0 gs = true) (ha : Wrs gs 4 a) (hb : Wrs gs 4 b) :
    Bd gs 26 (lessP a b gs).1 ∧ (0 ≤ (lessP a b gs).2 ∧ (lessP a b gs).2 < (lessP a b gs).1.length) ∧ ∀ bs, allB bs 0 1 = true → vw bs (lessP a b gs).1 (lessP a b gs).2 = if wordV bs gs a < wordV bs gs b then 1 else 0 := by
  obtain ⟨b1, w1, v1⟩ := notsP_inv hok hb
  have b2 : Bd (notsP b gs).1 1 ((notsP b gs).1 ++ [⟨2, 1, 0⟩]) := Bd.put b1.ok (ok_const (by simp))
  have b12 := b1.trans b2
  have hl2 : (((notsP b gs).1 ++ [(⟨2, 1, 0⟩ : Gt)]).length : Int) = (notsP b gs).1.length + 1 := by simp
  have hc : 0 ≤ ((notsP b gs).1.length : Int) ∧ ((notsP b gs).1.length : Int) < (((notsP b gs).1 ++ [(⟨2, 1, 0⟩ : Gt)]).length : Int) := by omega
  obtain ⟨b3, c3, w3⟩ := fullsP_inv b2.ok (ha.up b12) (w1.up b2) hc 4 (Nat.le_refl _)
  have hval := fun bs hbs => fullsP_val b2.ok (ha.up b12) (w1.up b2) hc (bs := bs) hbs 4 (Nat.le_refl _)
  have hcar := fun bs hbs => carV_bit b2.ok (ha.up b12) (w1.up b2) hc (bs := bs) hbs
  have hc0 : ∀ bs, carV bs a (notsP b gs).2 (notsP b gs).1.length ((notsP b gs).1 ++ [⟨2, 1, 0⟩]) 0 = 1 := fun bs => vw_const bs (notsP b gs).1 1 0
  have hc4 : ∀ bs, carV bs a (notsP b gs).2 (notsP b gs).1.length ((notsP b gs).1 ++ [⟨2, 1, 0⟩]) 4 = vw bs (fullsP a (notsP b gs).2 (notsP b gs).1.length ((notsP b gs).1 ++ [⟨2, 1, 0⟩]) 4).1 (fullsP a (notsP b gs).2 (notsP b gs).1.length ((notsP b gs).1 ++ [⟨2, 1, 0⟩]) 4).2.1 := fun bs => rfl
  unfold lessP
  have hup : ∀ bs, ∀ j : Nat, j < 4 → vw bs ((notsP b gs).1 ++ [⟨2, 1, 0⟩]) (at0 a j) = vw bs gs (at0 a j) := fun bs j hj => b12.v (ha.2 j hj).1 (ha.2 j hj).2 bs
  have hup2 : ∀ bs, ∀ j : Nat, j < 4 → vw bs ((notsP b gs).1 ++ [⟨2, 1, 0⟩]) (at0 (notsP b gs).2 j) = vw bs (notsP b gs).1 (at0 (notsP b gs).2 j) := fun bs j hj => b2.v (w1.2 j hj).1 (w1.2 j hj).2 bs
  generalize fullsP a (notsP b gs).2 (notsP b gs).1.length ((notsP b gs).1 ++ [⟨2, 1, 0⟩]) 4 = F at *
  obtain ⟨h, c, out⟩ := F
  simp only at *
  have b4 : Bd h 1 (h ++ [⟨5, c, 0⟩]) := Bd.put b3.ok (ok_not c3)
  refine ⟨(b12.trans b3).trans b4, by simp; omega, fun bs hbs => ?_⟩
  rw [vw_not, ← hc4 bs]
  have x0 := hval bs hbs 0 (by omega); have x1 := hval bs hbs 1 (by omega); have x2 := hval bs hbs 2 (by omega); have x3 := hval bs hbs 3 (by omega)
  rw [hup bs _ (by omega), hup2 bs _ (by omega), v1 bs hbs _ (by omega)] at x0 x1 x2 x3
  rw [hc0 bs] at x0
  have y0 := (b3.bit hbs (at0 out (0 : Nat))); have y1 := (b3.bit hbs (at0 out (1 : Nat))); have y2 := (b3.bit hbs (at0 out (2 : Nat))); have y3 := (b3.bit hbs (at0 out (3 : Nat)))
  have d4 := hcar bs hbs 4 (Nat.le_refl _)
  simp only [Nat.zero_add, Nat.reduceAdd] at x0 x1 x2 x3
  have ea : wordV bs gs a = vw bs gs (at0 a (0 : Nat)) + 2 * vw bs gs (at0 a (1 : Nat)) + 4 * vw bs gs (at0 a (2 : Nat)) + 8 * vw bs gs (at0 a (3 : Nat)) := rfl
  have eb : wordV bs gs b = vw bs gs (at0 b (0 : Nat)) + 2 * vw bs gs (at0 b (1 : Nat)) + 4 * vw bs gs (at0 b (2 : Nat)) + 8 * vw bs gs (at0 b (3 : Nat)) := rfl
  split <;> omega
theorem xorI_eq {a b : Int} (ha : a = 0 ∨ a = 1) (hb : b = 0 ∨ b = 1) : xorI a b = 0 ↔ a = b := by
  rcases ha with rfl | rfl <;> rcases hb with rfl | rfl <;> decide
theorem equal_val {gs : List Gt} {a b : List Int} (hok : gtsOk 0 gs = true) (ha : Wrs gs 4 a) (hb : Wrs gs 4 b) :
    Bd gs 11 (equalP a b gs).1 ∧ (0 ≤ (equalP a b gs).2 ∧ (equalP a b gs).2 < (equalP a b gs).1.length) ∧ ∀ bs, allB bs 0 1 = true → vw bs (equalP a b gs).1 (equalP a b gs).2 = if wordV bs gs a = wordV bs gs b then 1 else 0 := by
  obtain ⟨b1, w1, v1⟩ := eqsP_inv hok ha hb
  obtain ⟨b2, p0, p1, v2⟩ := andsP_inv b1.ok w1 3 (by omega)
  refine ⟨b1.trans b2, ⟨p0, p1⟩, fun bs hbs => ?_⟩
  unfold equalP
  have hbit := b2.bit hbs (andsP (eqsP a b gs).2 (eqsP a b gs).1 3).2
  have hiff := v2 bs hbs
  have q := fun z => (Bd.refl hok).bit hbs z
  have hj : ∀ j : Nat, j < 4 → (vw bs (eqsP a b gs).1 (at0 (eqsP a b gs).2 j) = 1 ↔ vw bs gs (at0 a j) = vw bs gs (at0 b j)) := fun j hj => by
    rw [v1 bs hbs j hj, ← xorI_eq (q _) (q _)]; omega
  have hw : wordV bs gs a = wordV bs gs b ↔ ∀ j : Nat, j < 4 → vw bs gs (at0 a j) = vw bs gs (at0 b j) := by
    have a0 := q (at0 a (0 : Nat)); have a1 := q (at0 a (1 : Nat)); have a2 := q (at0 a (2 : Nat)); have a3 := q (at0 a (3 : Nat))
    have b0 := q (at0 b (0 : Nat)); have b1 := q (at0 b (1 : Nat)); have b2 := q (at0 b (2 : Nat)); have b3 := q (at0 b (3 : Nat))
    constructor
    · intro h j hj
      unfold wordV at h
      have hj' : j = 0 ∨ j = 1 ∨ j = 2 ∨ j = 3 := by omega
      rcases hj' with rfl | rfl | rfl | rfl <;> omega
    · intro h
      unfold wordV; rw [h 0 (by omega), h 1 (by omega), h 2 (by omega), h 3 (by omega)]
  by_cases he : wordV bs gs a = wordV bs gs b
  · rw [if_pos he]
    exact hiff.2 fun j hj' => (hj j hj').2 (hw.1 he j hj')
  · rw [if_neg he]
    rcases hbit with h | h
    · exact h
    · exact absurd (hw.2 fun j hj' => (hj j hj').1 (hiff.1 h j hj')) he
theorem mux_val {gs : List Gt} {s0 : Int} {a b : List Int} (hok : gtsOk 0 gs = true) (hs : 0 ≤ s0 ∧ s0 < gs.length) (ha : Wrs gs 4 a) (hb : Wrs gs 4 b) {bs : List Int} (hbs : allB bs 0 1 = true) :
    wordV bs (muxP s0 a b gs).1 (muxP s0 a b gs).2 = if vw bs gs s0 = 1 then wordV bs gs a else wordV bs gs b := by
  obtain ⟨b1, w1, v1⟩ := muxP_inv hok hs ha hb
  have q := fun z => (Bd.refl hok).bit hbs z
  have hj : ∀ j : Nat, j < 4 → vw bs (muxP s0 a b gs).1 (at0 (muxP s0 a b gs).2 j) = if vw bs gs s0 = 1 then vw bs gs (at0 a j) else vw bs gs (at0 b j) := fun j hj => by
    rw [v1 bs hbs j hj]
    rcases q s0 with e0 | e0 <;> rcases q (at0 a j) with e1 | e1 <;> rcases q (at0 b j) with e2 | e2 <;> rw [e0, e1, e2] <;> decide
  unfold wordV
  rw [hj 0 (by omega), hj 1 (by omega), hj 2 (by omega), hj 3 (by omega)]
  split <;> rfl
theorem mul_val {gs : List Gt} {a b : List Int} (hok : gtsOk 0 gs = true) (ha : Wrs gs 4 a) (hb : Wrs gs 4 b) :
    Bd gs 34 (mulP a b gs).1 ∧ Wrs (mulP a b gs).1 4 (mulP a b gs).2 ∧ ∀ bs, allB bs 0 1 = true → wordV bs (mulP a b gs).1 (mulP a b gs).2 = (wordV bs gs a * wordV bs gs b) % 16 := by
  have step : ∀ i m : Nat, i < 3 → Bd gs m (mulR a b gs i).1 → Wrs (mulR a b gs i).1 4 (mulR a b gs i).2 → Bd gs (m + (3 - i) + (5 * (2 - i) + 3)) (mulR a b gs (i + 1)).1 ∧ Wrs (mulR a b gs (i + 1)).1 4 (mulR a b gs (i + 1)).2 ∧
      ∀ bs, allB bs 0 1 = true → ∃ car : Nat → Int, car 0 = 0 ∧ (∀ k, k ≤ 3 - i → car k = 0 ∨ car k = 1) ∧
        (∀ j : Nat, j < i + 1 → vw bs (mulR a b gs (i + 1)).1 (at0 (mulR a b gs (i + 1)).2 j) = vw bs (mulR a b gs i).1 (at0 (mulR a b gs i).2 j)) ∧
        ∀ j : Nat, j < 3 - i → vw bs (mulR a b gs i).1 (at0 (mulR a b gs i).2 ((i + 1 + j : Nat) : Int)) + andI (vw bs gs (at0 b (i + 1 : Nat))) (vw bs gs (at0 a j)) + car j = vw bs (mulR a b gs (i + 1)).1 (at0 (mulR a b gs (i + 1)).2 ((i + 1 + j : Nat) : Int)) + 2 * car (j + 1) := by
    intro i m hi b1 w1
    have rb := (hb.up b1).2 (i + 1) (by omega)
    have rb0 := hb.2 (i + 1) (by omega)
    obtain ⟨b2, w2, v2⟩ := rowP_inv (n := 3 - i) b1.ok rb (ha.up b1) (by omega)
    have wd : Wrs (mulR a b gs i).1 (3 - i) ((mulR a b gs i).2.drop (i + 1)) := w1.sub _ (by rw [List.length_drop, w1.1]; omega) fun j hj => ⟨i + 1 + j, by omega, at0_drop _ _ _⟩
    have e3 : 3 - i = (2 - i) + 1 := by omega
    rw [e3] at w2 wd
    have w2' : Wrs (rowP (at0 b (i + 1 : Nat)) a (3 - i) (mulR a b gs i).1).1 (2 - i + 1) (rowP (at0 b (i + 1 : Nat)) a (3 - i) (mulR a b gs i).1).2 := by rw [e3]; exact w2
    obtain ⟨b3, w3, v3⟩ := sumP_inv (n := 2 - i) b2.ok (wd.up b2) w2' (first := 0) (by omega)
    show Bd gs _ (sumP ((mulR a b gs i).2.drop (i + 1)) (rowP (at0 b (i + 1 : Nat)) a (3 - i) (mulR a b gs i).1).2 0 (2 - i) (rowP (at0 b (i + 1 : Nat)) a (3 - i) (mulR a b gs i).1).1).1 ∧
      Wrs (sumP ((mulR a b gs i).2.drop (i + 1)) (rowP (at0 b (i + 1 : Nat)) a (3 - i) (mulR a b gs i).1).2 0 (2 - i) (rowP (at0 b (i + 1 : Nat)) a (3 - i) (mulR a b gs i).1).1).1 4 ((mulR a b gs i).2.take (i + 1) ++ (sumP ((mulR a b gs i).2.drop (i + 1)) (rowP (at0 b (i + 1 : Nat)) a (3 - i) (mulR a b gs i).1).2 0 (2 - i) (rowP (at0 b (i + 1 : Nat)) a (3 - i) (mulR a b gs i).1).1).2) ∧
      ∀ bs, allB bs 0 1 = true → ∃ car : Nat → Int, car 0 = 0 ∧ (∀ k, k ≤ 3 - i → car k = 0 ∨ car k = 1) ∧
        (∀ j : Nat, j < i + 1 → vw bs (sumP ((mulR a b gs i).2.drop (i + 1)) (rowP (at0 b (i + 1 : Nat)) a (3 - i) (mulR a b gs i).1).2 0 (2 - i) (rowP (at0 b (i + 1 : Nat)) a (3 - i) (mulR a b gs i).1).1).1 (at0 ((mulR a b gs i).2.take (i + 1) ++ (sumP ((mulR a b gs i).2.drop (i + 1)) (rowP (at0 b (i + 1 : Nat)) a (3 - i) (mulR a b gs i).1).2 0 (2 - i) (rowP (at0 b (i + 1 : Nat)) a (3 - i) (mulR a b gs i).1).1).2) j) = vw bs (mulR a b gs i).1 (at0 (mulR a b gs i).2 j)) ∧
        ∀ j : Nat, j < 3 - i → vw bs (mulR a b gs i).1 (at0 (mulR a b gs i).2 ((i + 1 + j : Nat) : Int)) + andI (vw bs gs (at0 b (i + 1 : Nat))) (vw bs gs (at0 a j)) + car j = vw bs (sumP ((mulR a b gs i).2.drop (i + 1)) (rowP (at0 b (i + 1 : Nat)) a (3 - i) (mulR a b gs i).1).2 0 (2 - i) (rowP (at0 b (i + 1 : Nat)) a (3 - i) (mulR a b gs i).1).1).1 (at0 ((mulR a b gs i).2.take (i + 1) ++ (sumP ((mulR a b gs i).2.drop (i + 1)) (rowP (at0 b (i + 1 : Nat)) a (3 - i) (mulR a b gs i).1).2 0 (2 - i) (rowP (at0 b (i + 1 : Nat)) a (3 - i) (mulR a b gs i).1).1).2) ((i + 1 + j : Nat) : Int)) + 2 * car (j + 1)
    have htl : ((mulR a b gs i).2.take (i + 1)).length = i + 1 := by rw [List.length_take, w1.1]; omega
    have vd : ∀ (bs : List Int) (j : Nat), j < 3 - i → vw bs (rowP (at0 b (i + 1 : Nat)) a (3 - i) (mulR a b gs i).1).1 (at0 ((mulR a b gs i).2.drop (i + 1)) j) = vw bs (mulR a b gs i).1 (at0 (mulR a b gs i).2 ((i + 1 + j : Nat) : Int)) := fun bs j hj => by
      rw [at0_drop, b2.v (w1.2 (i + 1 + j) (by omega)).1 (w1.2 (i + 1 + j) (by omega)).2]
    generalize rowP (at0 b (i + 1 : Nat)) a (3 - i) (mulR a b gs i).1 = R at *
    generalize sumP ((mulR a b gs i).2.drop (i + 1)) R.2 0 (2 - i) R.1 = S at *
    generalize mulR a b gs i = M at *
    have hb23 := b2.trans b3
    refine ⟨((b1.trans b2).trans b3).mono (by omega), ⟨by rw [List.length_append, htl, w3.1]; omega, fun j hj => ?_⟩, fun bs hbs => ?_⟩
    · by_cases hji : j < i + 1
      · rw [at0_left (by rw [htl]; exact hji), at0_take hji]; exact (w1.up hb23).2 j (by omega)
      · obtain ⟨q, rfl⟩ : ∃ q, j = i + 1 + q := ⟨j - (i + 1), by omega⟩
        rw [at0_right htl]; exact w3.2 q (by omega)
    · obtain ⟨car, c0, cb, cv⟩ := v3 bs hbs
      refine ⟨car, c0, fun k hk => cb k (by omega), fun j hj => ?_, fun j hj => ?_⟩
      · rw [at0_left (by rw [htl]; exact hj), at0_take hj, hb23.v (w1.2 j (by omega)).1 (w1.2 j (by omega)).2]
      · rw [at0_right htl]
        have := cv j (by omega)
        rw [vd bs j hj, v2 bs hbs j hj, b1.v rb0.1 rb0.2, b1.v (ha.2 j (by omega)).1 (ha.2 j (by omega)).2] at this
        exact this
  obtain ⟨b0, w0, v0⟩ := rowP_inv (n := 4) (y := at0 b (0 : Nat)) hok (hb.2 0 (by omega)) ha (by omega)
  have b0' : Bd gs 4 (mulR a b gs 0).1 := b0
  have w0' : Wrs (mulR a b gs 0).1 4 (mulR a b gs 0).2 := w0
  have v0' : ∀ bs, allB bs 0 1 = true → ∀ j : Nat, j < 4 → vw bs (mulR a b gs 0).1 (at0 (mulR a b gs 0).2 j) = andI (vw bs gs (at0 b (0 : Nat))) (vw bs gs (at0 a j)) := v0
  obtain ⟨b1, w1, v1⟩ := step 0 _ (by omega) b0' w0'
  obtain ⟨b2, w2, v2⟩ := step 1 _ (by omega) b1 w1
  obtain ⟨b3, w3, v3⟩ := step 2 _ (by omega) b2 w2
  refine ⟨b3.mono (by omega), w3, fun bs hbs => ?_⟩
  obtain ⟨e1, f0, fb, fl, fh⟩ := v1 bs hbs
  obtain ⟨e2, g0, gb, gl, gh⟩ := v2 bs hbs
  obtain ⟨e3, h0, hb', hl, hh⟩ := v3 bs hbs
  have z0 := v0' bs hbs 0 (by omega); have z1 := v0' bs hbs 1 (by omega); have z2 := v0' bs hbs 2 (by omega); have z3 := v0' bs hbs 3 (by omega)
  have p0 := fl 0 (by omega); have p1 := fh 0 (by omega); have p2 := fh 1 (by omega); have p3 := fh 2 (by omega)
  have q0 := gl 0 (by omega); have q1 := gl 1 (by omega); have q2 := gh 0 (by omega); have q3 := gh 1 (by omega)
  have r0 := hl 0 (by omega); have r1 := hl 1 (by omega); have r2 := hl 2 (by omega); have r3 := hh 0 (by omega)
  have wb := wordV_b (gs := (mulR a b gs 3).1) b3.ok hbs (mulR a b gs 3).2
  simp only [Nat.zero_add, Nat.add_zero, Nat.reduceAdd] at p0 p1 p2 p3 q0 q1 q2 q3 r0 r1 r2 r3
  have q := fun z => (Bd.refl hok).bit hbs z
  have and_mul : ∀ x y : Int, (x = 0 ∨ x = 1) → (y = 0 ∨ y = 1) → andI x y = if x = 1 then y else 0 := by
    intro x y hx hy
    rcases hx with rfl | rfl <;> rcases hy with rfl | rfl <;> decide
  have k0 := q (at0 b (0 : Nat)); have k1 := q (at0 b (1 : Nat)); have k2 := q (at0 b (2 : Nat)); have k3 := q (at0 b (3 : Nat))
  have a0 := q (at0 a (0 : Nat)); have a1 := q (at0 a (1 : Nat)); have a2 := q (at0 a (2 : Nat)); have a3 := q (at0 a (3 : Nat))
  rw [and_mul _ _ k0 a0] at z0; rw [and_mul _ _ k0 a1] at z1; rw [and_mul _ _ k0 a2] at z2; rw [and_mul _ _ k0 a3] at z3
  rw [and_mul _ _ k1 a0] at p1; rw [and_mul _ _ k1 a1] at p2; rw [and_mul _ _ k1 a2] at p3
  rw [and_mul _ _ k2 a0] at q2; rw [and_mul _ _ k2 a1] at q3
  rw [and_mul _ _ k3 a0] at r3
  unfold mulP
  unfold wordV at wb ⊢
  clear step v0 v0' v1 v2 v3 fl fh gl gh hl hh b0 b0' b1 b2 b3 w0 w0' w1 w2 w3 ha hb fb gb hb' and_mul q
  generalize vw bs gs (at0 b (0 : Nat)) = y0 at *
  generalize vw bs gs (at0 b (1 : Nat)) = y1 at *
  generalize vw bs gs (at0 b (2 : Nat)) = y2 at *
  generalize vw bs gs (at0 b (3 : Nat)) = y3 at *
  generalize vw bs gs (at0 a (0 : Nat)) = x0 at *
  generalize vw bs gs (at0 a (1 : Nat)) = x1 at *
  generalize vw bs gs (at0 a (2 : Nat)) = x2 at *
  generalize vw bs gs (at0 a (3 : Nat)) = x3 at *
  generalize vw bs (mulR a b gs 3).1 (at0 (mulR a b gs 3).2 (0 : Nat)) = s0 at *
  generalize vw bs (mulR a b gs 3).1 (at0 (mulR a b gs 3).2 (1 : Nat)) = s1 at *
  generalize vw bs (mulR a b gs 3).1 (at0 (mulR a b gs 3).2 (2 : Nat)) = s2 at *
  generalize vw bs (mulR a b gs 3).1 (at0 (mulR a b gs 3).2 (3 : Nat)) = s3 at *
  generalize vw bs (mulR a b gs 2).1 (at0 (mulR a b gs 2).2 (0 : Nat)) = t0 at *
  generalize vw bs (mulR a b gs 2).1 (at0 (mulR a b gs 2).2 (1 : Nat)) = t1 at *
  generalize vw bs (mulR a b gs 2).1 (at0 (mulR a b gs 2).2 (2 : Nat)) = t2 at *
  generalize vw bs (mulR a b gs 2).1 (at0 (mulR a b gs 2).2 (3 : Nat)) = t3 at *
  generalize vw bs (mulR a b gs 1).1 (at0 (mulR a b gs 1).2 (0 : Nat)) = u0 at *
  generalize vw bs (mulR a b gs 1).1 (at0 (mulR a b gs 1).2 (1 : Nat)) = u1 at *
  generalize vw bs (mulR a b gs 1).1 (at0 (mulR a b gs 1).2 (2 : Nat)) = u2 at *
  generalize vw bs (mulR a b gs 1).1 (at0 (mulR a b gs 1).2 (3 : Nat)) = u3 at *
  generalize vw bs (mulR a b gs 0).1 (at0 (mulR a b gs 0).2 (0 : Nat)) = v0 at *
  generalize vw bs (mulR a b gs 0).1 (at0 (mulR a b gs 0).2 (1 : Nat)) = v1 at *
  generalize vw bs (mulR a b gs 0).1 (at0 (mulR a b gs 0).2 (2 : Nat)) = v2 at *
  generalize vw bs (mulR a b gs 0).1 (at0 (mulR a b gs 0).2 (3 : Nat)) = v3 at *
  rcases k0 with rfl | rfl <;> rcases k1 with rfl | rfl <;> rcases k2 with rfl | rfl <;> rcases k3 with rfl | rfl <;> simp only [if_true, if_false, Int.reduceEq] at z0 z1 z2 z3 p1 p2 p3 q2 q3 r3 <;> omega
end Go.Proofs.Ytfcijloiebnloaa

/- StmtA -/
namespace Go.Proofs.Ytfcijloiebnloaa
open Go.RowKit
set_option linter.unusedSimpArgs false

set_option maxHeartbeats 2000000 in
theorem iStmtOk_const (dst a b c n : Int) (w : World) :
    Calls Try.prog 114 #[stV ⟨1, dst, a, b, c, n⟩] w fun e w' => e = .returned (.bool (stOk ⟨1, dst, a, b, c, n⟩)) ∧ Below w.heap.size w w' := by
  have HS : ∀ v, v = stOk ⟨1, dst, a, b, c, n⟩ → Hid (stOk ⟨1, dst, a, b, c, n⟩ = v) := fun v h => h.symm
  by_cases hz : a = 0 ∧ b = 0 ∧ c = 0
  · obtain ⟨rfl, rfl, rfl⟩ := hz
    have HV : Hid (stOk ⟨1, dst, 0, 0, 0, n⟩ = (allB [dst] 0 7 && inB n 0 15)) := by show _ = _; simp [stOk, allB1, Bool.and_assoc]; try (cases inB dst 0 7 <;> rfl)
    cases t0 : allB [dst] 0 7 <;> cases t1 : inB n 0 15
    all_goals
      unfold stV
      go_enter Try.func114, Try.ntmps114
      go_wp2_with (first | (go_at_call 65; refine (within_any _ _ _ _).mono ?_; rintro e w' ⟨rfl, rfl⟩; simp only [t0, t1]) | (go_at_call 125; refine (isRegL [dst] _ _ 1 _ rfl (by decide) (rd1 _ dst (by simp))).mono ?_; rintro e w' ⟨rfl, rfl⟩; rw [t0]))
      all_goals go_ret
      all_goals exact ⟨ret_bool (by simp [HV.out, t0, t1]), (by first | exact (Below.refl _ _).alloc (Nat.le_refl _) _ | exact ((Below.refl _ _).alloc (Nat.le_refl _) _).alloc (by simp) _)⟩
  · unfold stV
    go_enter Try.func114, Try.ntmps114
    go_wp2_with fail
    all_goals go_ret
    all_goals exact ⟨ret_bool (by simp [stOk, *]), (by first | exact (Below.refl _ _).alloc (Nat.le_refl _) _ | exact ((Below.refl _ _).alloc (Nat.le_refl _) _).alloc (by simp) _)⟩
set_option maxHeartbeats 2000000 in
theorem iStmtOk_input (dst a b c n : Int) (w : World) :
    Calls Try.prog 114 #[stV ⟨2, dst, a, b, c, n⟩] w fun e w' => e = .returned (.bool (stOk ⟨2, dst, a, b, c, n⟩)) ∧ Below w.heap.size w w' := by
  have HS : ∀ v, v = stOk ⟨2, dst, a, b, c, n⟩ → Hid (stOk ⟨2, dst, a, b, c, n⟩ = v) := fun v h => h.symm
  by_cases hz : b = 0 ∧ c = 0
  · obtain ⟨rfl, rfl⟩ := hz
    have HV : Hid (stOk ⟨2, dst, a, 0, 0, n⟩ = (allB [dst] 0 7 && inB a 0 4 && inB n 0 3)) := by show _ = _; simp [stOk, allB1, Bool.and_assoc]; try (cases inB dst 0 7 <;> rfl)
    cases t0 : allB [dst] 0 7 <;> cases t1 : inB a 0 4 <;> cases t2 : inB n 0 3
    all_goals
      unfold stV
      go_enter Try.func114, Try.ntmps114
      go_wp2_with (first | (go_at_call 65; refine (within_any _ _ _ _).mono ?_; rintro e w' ⟨rfl, rfl⟩; simp only [t0, t1, t2]) | (go_at_call 125; refine (isRegL [dst] _ _ 1 _ rfl (by decide) (rd1 _ dst (by simp))).mono ?_; rintro e w' ⟨rfl, rfl⟩; rw [t0]))
      all_goals go_ret
      all_goals exact ⟨ret_bool (by simp [HV.out, t0, t1, t2]), (by first | exact (Below.refl _ _).alloc (Nat.le_refl _) _ | exact ((Below.refl _ _).alloc (Nat.le_refl _) _).alloc (by simp) _)⟩
  · unfold stV
    go_enter Try.func114, Try.ntmps114
    go_wp2_with fail
    all_goals go_ret
    all_goals exact ⟨ret_bool (by simp [stOk, *]), (by first | exact (Below.refl _ _).alloc (Nat.le_refl _) _ | exact ((Below.refl _ _).alloc (Nat.le_refl _) _).alloc (by simp) _)⟩
set_option maxHeartbeats 2000000 in
theorem iStmtOk_loop (dst a b c n : Int) (w : World) :
    Calls Try.prog 114 #[stV ⟨12, dst, a, b, c, n⟩] w fun e w' => e = .returned (.bool (stOk ⟨12, dst, a, b, c, n⟩)) ∧ Below w.heap.size w w' := by
  have HS : ∀ v, v = stOk ⟨12, dst, a, b, c, n⟩ → Hid (stOk ⟨12, dst, a, b, c, n⟩ = v) := fun v h => h.symm
  have HB : Hid (inB 12 3 9 = false) := (by decide : inB 12 3 9 = false)
  by_cases hz : dst = 0 ∧ a = 0 ∧ b = 0 ∧ c = 0
  · obtain ⟨rfl, rfl, rfl, rfl⟩ := hz
    have HV : Hid (stOk ⟨12, 0, 0, 0, 0, n⟩ = (inB n 1 8)) := by show _ = _; simp [stOk, HB.out, Bool.and_assoc]; try (cases inB dst 0 7 <;> rfl)
    cases t0 : inB n 1 8
    all_goals
      unfold stV
      go_enter Try.func114, Try.ntmps114
      go_wp2_with (first | (go_at_call 65; refine (within_any _ _ _ _).mono ?_; rintro e w' ⟨rfl, rfl⟩; simp only [t0]) | (go_at_call 126; refine (isBinary_any _ _).mono ?_; rintro e w' ⟨rfl, rfl⟩; rw [HB.out]))
      all_goals go_ret
      all_goals exact ⟨ret_bool (by simp [HV.out, t0]), (by first | exact (Below.refl _ _).alloc (Nat.le_refl _) _ | exact ((Below.refl _ _).alloc (Nat.le_refl _) _).alloc (by simp) _)⟩
  · unfold stV
    go_enter Try.func114, Try.ntmps114
    go_wp2_with (go_at_call 126; refine (isBinary_any _ _).mono ?_; rintro e w' ⟨rfl, rfl⟩; rw [HB.out])
    all_goals go_ret
    all_goals exact ⟨ret_bool (by simp [stOk, HB.out, *]), (by first | exact (Below.refl _ _).alloc (Nat.le_refl _) _ | exact ((Below.refl _ _).alloc (Nat.le_refl _) _).alloc (by simp) _)⟩
end Go.Proofs.Ytfcijloiebnloaa

/- StmtB -/
namespace Go.Proofs.Ytfcijloiebnloaa
open Go.RowKit
set_option linter.unusedSimpArgs false

set_option maxHeartbeats 2000000 in
theorem iStmtOk_mux (dst a b c n : Int) (w : World) :
    Calls Try.prog 114 #[stV ⟨10, dst, a, b, c, n⟩] w fun e w' => e = .returned (.bool (stOk ⟨10, dst, a, b, c, n⟩)) ∧ Below w.heap.size w w' := by
  have HS : ∀ v, v = stOk ⟨10, dst, a, b, c, n⟩ → Hid (stOk ⟨10, dst, a, b, c, n⟩ = v) := fun v h => h.symm
  have HB : Hid (inB 10 3 9 = false) := (by decide : inB 10 3 9 = false)
  by_cases hz : n = 0
  · subst hz
    have HV : Hid (stOk ⟨10, dst, a, b, c, 0⟩ = (allB [dst, a, b, c] 0 7)) := by show _ = _; simp [stOk, allB4, HB.out, Bool.and_assoc]; try (cases inB dst 0 7 <;> rfl)
    cases t0 : allB [dst, a, b, c] 0 7
    all_goals
      unfold stV
      go_enter Try.func114, Try.ntmps114
      go_wp2_with (first | (go_at_call 65; refine (within_any _ _ _ _).mono ?_; rintro e w' ⟨rfl, rfl⟩; simp only [t0]) | (go_at_call 125; refine (isRegL [dst, a, b, c] _ _ 4 _ rfl (by decide) (rd4 _ dst a b c (by simp))).mono ?_; rintro e w' ⟨rfl, rfl⟩; rw [t0]) | (go_at_call 126; refine (isBinary_any _ _).mono ?_; rintro e w' ⟨rfl, rfl⟩; rw [HB.out]))
      all_goals go_ret
      all_goals exact ⟨ret_bool (by simp [HV.out, t0]), (by first | exact (Below.refl _ _).alloc (Nat.le_refl _) _ | exact ((Below.refl _ _).alloc (Nat.le_refl _) _).alloc (by simp) _)⟩
  · unfold stV
    go_enter Try.func114, Try.ntmps114
    go_wp2_with (go_at_call 126; refine (isBinary_any _ _).mono ?_; rintro e w' ⟨rfl, rfl⟩; rw [HB.out])
    all_goals go_ret
    all_goals exact ⟨ret_bool (by simp [stOk, HB.out, *]), (by first | exact (Below.refl _ _).alloc (Nat.le_refl _) _ | exact ((Below.refl _ _).alloc (Nat.le_refl _) _).alloc (by simp) _)⟩
set_option maxHeartbeats 2000000 in
theorem iStmtOk_out (dst a b c n : Int) (w : World) :
    Calls Try.prog 114 #[stV ⟨11, dst, a, b, c, n⟩] w fun e w' => e = .returned (.bool (stOk ⟨11, dst, a, b, c, n⟩)) ∧ Below w.heap.size w w' := by
  have HS : ∀ v, v = stOk ⟨11, dst, a, b, c, n⟩ → Hid (stOk ⟨11, dst, a, b, c, n⟩ = v) := fun v h => h.symm
  have HB : Hid (inB 11 3 9 = false) := (by decide : inB 11 3 9 = false)
  by_cases hz : dst = 0 ∧ b = 0 ∧ c = 0 ∧ n = 0
  · obtain ⟨rfl, rfl, rfl, rfl⟩ := hz
    have HV : Hid (stOk ⟨11, 0, a, 0, 0, 0⟩ = (allB [a] 0 7)) := by show _ = _; simp [stOk, allB1, HB.out, Bool.and_assoc]; try (cases inB dst 0 7 <;> rfl)
    cases t0 : allB [a] 0 7
    all_goals
      unfold stV
      go_enter Try.func114, Try.ntmps114
      go_wp2_with (first | (go_at_call 65; refine (within_any _ _ _ _).mono ?_; rintro e w' ⟨rfl, rfl⟩; simp only [t0]) | (go_at_call 125; refine (isRegL [a] _ _ 1 _ rfl (by decide) (rd1 _ a (by simp))).mono ?_; rintro e w' ⟨rfl, rfl⟩; rw [t0]) | (go_at_call 126; refine (isBinary_any _ _).mono ?_; rintro e w' ⟨rfl, rfl⟩; rw [HB.out]))
      all_goals go_ret
      all_goals exact ⟨ret_bool (by simp [HV.out, t0]), (by first | exact (Below.refl _ _).alloc (Nat.le_refl _) _ | exact ((Below.refl _ _).alloc (Nat.le_refl _) _).alloc (by simp) _)⟩
  · unfold stV
    go_enter Try.func114, Try.ntmps114
    go_wp2_with (go_at_call 126; refine (isBinary_any _ _).mono ?_; rintro e w' ⟨rfl, rfl⟩; rw [HB.out])
    all_goals go_ret
    all_goals exact ⟨ret_bool (by simp [stOk, HB.out, *]), (by first | exact (Below.refl _ _).alloc (Nat.le_refl _) _ | exact ((Below.refl _ _).alloc (Nat.le_refl _) _).alloc (by simp) _)⟩
end Go.Proofs.Ytfcijloiebnloaa

/- StmtC -/
namespace Go.Proofs.Ytfcijloiebnloaa
open Go.RowKit
set_option linter.unusedSimpArgs false

set_option maxHeartbeats 2000000 in
theorem iStmtOk_bin (op dst a b c n : Int) (hop : inB op 3 9 = true) (w : World) :
    Calls Try.prog 114 #[stV ⟨op, dst, a, b, c, n⟩] w fun e w' => e = .returned (.bool (stOk ⟨op, dst, a, b, c, n⟩)) ∧ Below w.heap.size w w' := by
  have hh := inB_iff.1 hop
  have q1 : (op == 1) = false := by simp; omega
  have q2 : (op == 2) = false := by simp; omega
  have p1 : ¬ op = 1 := by omega
  have p2 : ¬ op = 2 := by omega
  have HB := Lib.hid hop
  clear hop hh
  by_cases hz : c = 0 ∧ n = 0
  · obtain ⟨rfl, rfl⟩ := hz
    have HV : Hid (stOk ⟨op, dst, a, b, 0, 0⟩ = (allB [dst, a, b] 0 7)) := by show _ = _; simp [stOk, allB3, HB.out, p1, p2, Bool.and_assoc]
    clear p1 p2
    cases t0 : allB [dst, a, b] 0 7
    all_goals
      unfold stV
      go_enter Try.func114, Try.ntmps114
      go_wp2_with (first | (go_at_call 125; refine (isRegL [dst, a, b] _ _ 3 _ rfl (by decide) (rd3 _ dst a b (by simp))).mono ?_; rintro e w' ⟨rfl, rfl⟩; rw [t0]) | (go_at_call 126; refine (isBinary_any _ _).mono ?_; rintro e w' ⟨rfl, rfl⟩; rw [HB.out]))
      all_goals go_ret
      all_goals exact ⟨ret_bool (by simp [HV.out, t0]), (by first | exact (Below.refl _ _).alloc (Nat.le_refl _) _ | exact ((Below.refl _ _).alloc (Nat.le_refl _) _).alloc (by simp) _)⟩
  · have HV : Hid (stOk ⟨op, dst, a, b, c, n⟩ = false) := by show _ = _; simp [stOk, HB.out, p1, p2]; intro h0 h1; exact absurd ⟨h0, h1⟩ hz
    clear p1 p2
    unfold stV
    go_enter Try.func114, Try.ntmps114
    go_wp2_with (go_at_call 126; refine (isBinary_any _ _).mono ?_; rintro e w' ⟨rfl, rfl⟩; rw [HB.out])
    all_goals go_ret
    all_goals exact ⟨ret_bool (by rw [HV.out]; try simp [*]), (by first | exact (Below.refl _ _).alloc (Nat.le_refl _) _ | exact ((Below.refl _ _).alloc (Nat.le_refl _) _).alloc (by simp) _)⟩
set_option maxHeartbeats 2000000 in
theorem iStmtOk_else (op dst a b c n : Int) (hop : inB op 3 9 = false) (p1 : ¬ op = 1) (p2 : ¬ op = 2) (p10 : ¬ op = 10) (p11 : ¬ op = 11) (p12 : ¬ op = 12) (w : World) :
    Calls Try.prog 114 #[stV ⟨op, dst, a, b, c, n⟩] w fun e w' => e = .returned (.bool (stOk ⟨op, dst, a, b, c, n⟩)) ∧ Below w.heap.size w w' := by
  have HB := Lib.hid hop
  have HV : Hid (stOk ⟨op, dst, a, b, c, n⟩ = ((op == 13) && (dst == 0) && (a == 0) && (b == 0) && (c == 0) && (n == 0))) := by show _ = _; simp [stOk, HB.out, p1, p2, p10, p11, p12, Bool.and_assoc]
  have q1 : (op == 1) = false := by simp; omega
  have q2 : (op == 2) = false := by simp; omega
  have q10 : (op == 10) = false := by simp; omega
  have q11 : (op == 11) = false := by simp; omega
  have q12 : (op == 12) = false := by simp; omega
  clear hop p1 p2 p10 p11 p12
  unfold stV
  go_enter Try.func114, Try.ntmps114
  go_wp2_with (go_at_call 126; refine (isBinary_any _ _).mono ?_; rintro e w' ⟨rfl, rfl⟩; rw [HB.out])
  all_goals go_ret
  all_goals exact ⟨ret_bool (by rw [HV.out]; try simp [*]), (by first | exact (Below.refl _ _).alloc (Nat.le_refl _) _ | exact ((Below.refl _ _).alloc (Nat.le_refl _) _).alloc (by simp) _)⟩
theorem iStmtOk_any (s : St) (w : World) :
    Calls Try.prog 114 #[stV s] w fun e w' => e = .returned (.bool (stOk s)) ∧ Below w.heap.size w w' := by
  obtain ⟨op, dst, a, b, c, n⟩ := s
  by_cases p1 : op = 1
  · subst p1; exact iStmtOk_const dst a b c n w
  by_cases p2 : op = 2
  · subst p2; exact iStmtOk_input dst a b c n w
  cases hop : inB op 3 9
  case true => exact iStmtOk_bin op dst a b c n hop w
  by_cases p10 : op = 10
  · subst p10; exact iStmtOk_mux dst a b c n w
  by_cases p11 : op = 11
  · subst p11; exact iStmtOk_out dst a b c n w
  by_cases p12 : op = 12
  · subst p12; exact iStmtOk_loop dst a b c n w
  exact iStmtOk_else op dst a b c n hop p1 p2 p10 p11 p12 w
end Go.Proofs.Ytfcijloiebnloaa

/- SStmt -/
namespace Go.Proofs.Ytfcijloiebnloaa
open Go.RowKit
set_option linter.unusedSimpArgs false

def plainS (s : St) : St :=
  if s.op = 1 then ⟨s.op, s.dst, 0, 0, 0, s.n⟩
  else if s.op = 2 then ⟨s.op, s.dst, s.a, 0, 0, s.n⟩
  else if inB s.op 3 9 then ⟨s.op, s.dst, s.a, s.b, 0, 0⟩
  else if s.op = 10 then ⟨s.op, s.dst, s.a, s.b, s.c, 0⟩
  else if s.op = 11 then ⟨s.op, 0, s.a, 0, 0, 0⟩
  else if s.op = 12 then ⟨s.op, 0, 0, 0, 0, s.n⟩
  else ⟨s.op, 0, 0, 0, 0, 0⟩

theorem l08Reg_any (a : Int) (w : World) :
    Calls Try.prog 123 #[.int .i64 a] w fun e w' => e = .returned (.bool (inB a 0 7)) ∧ w = w' := by
  go_enter Try.func123, Try.ntmps123
  go_wp2_with (go_at_call 53; refine (l01In_any _ _ _ _).mono ?_; rintro e w' ⟨rfl, rfl⟩)
  go_ret
  exact ⟨rfl, rfl⟩

theorem stV_eq (s : St) : stV s = .agg #[.int .i64 s.op, .int .i64 s.dst, .int .i64 s.a, .int .i64 s.b, .int .i64 s.c, .int .i64 s.n] := rfl

set_option maxHeartbeats 1000000 in
theorem l08Plain_const (dst a b c n : Int) (w : World) :
    Calls Try.prog 122 #[stV ⟨1, dst, a, b, c, n⟩] w fun e w' => e = .returned (stV (plainS ⟨1, dst, a, b, c, n⟩)) ∧ Below w.heap.size w w' := by
  have HP : Hid (plainS ⟨1, dst, a, b, c, n⟩ = ⟨1, dst, 0, 0, 0, n⟩) := by show _ = _; simp [plainS]
  have HB : Hid (inB 1 3 9 = false) := (by decide : inB 1 3 9 = false)
  rw [HP.out]
  unfold stV
  go_enter Try.func122, Try.ntmps122
  go_wp2_with (go_at_call 53; refine (l01In_any _ _ _ _).mono ?_; rintro e w' ⟨rfl, rfl⟩; rw [HB.out])
  exact bodyPost_ret (v := .agg #[.int .i64 1, .int .i64 dst, .int .i64 0, .int .i64 0, .int .i64 0, .int .i64 n]) (by simp [results, Try.results122, go_sem]) rfl ⟨rfl, (by (repeat (first | with_reducible exact Below.refl _ _ | (with_reducible refine bel_next ?_ ?_ (by assumption)) | (with_reducible refine Below.alloc ?_ ?_ _) | (with_reducible refine Below.drew ?_) | (with_reducible refine below_drewN ?_ _) | (with_reducible refine Below.setCell ?_ ?_ _))) <;> (first | omega | (simp; done) | (simp; omega)))⟩
set_option maxHeartbeats 1000000 in
theorem l08Plain_input (dst a b c n : Int) (w : World) :
    Calls Try.prog 122 #[stV ⟨2, dst, a, b, c, n⟩] w fun e w' => e = .returned (stV (plainS ⟨2, dst, a, b, c, n⟩)) ∧ Below w.heap.size w w' := by
  have HP : Hid (plainS ⟨2, dst, a, b, c, n⟩ = ⟨2, dst, a, 0, 0, n⟩) := by show _ = _; simp [plainS]
  have HB : Hid (inB 2 3 9 = false) := (by decide : inB 2 3 9 = false)
  rw [HP.out]
  unfold stV
  go_enter Try.func122, Try.ntmps122
  go_wp2_with (go_at_call 53; refine (l01In_any _ _ _ _).mono ?_; rintro e w' ⟨rfl, rfl⟩; rw [HB.out])
  exact bodyPost_ret (v := .agg #[.int .i64 2, .int .i64 dst, .int .i64 a, .int .i64 0, .int .i64 0, .int .i64 n]) (by simp [results, Try.results122, go_sem]) rfl ⟨rfl, (by (repeat (first | with_reducible exact Below.refl _ _ | (with_reducible refine bel_next ?_ ?_ (by assumption)) | (with_reducible refine Below.alloc ?_ ?_ _) | (with_reducible refine Below.drew ?_) | (with_reducible refine below_drewN ?_ _) | (with_reducible refine Below.setCell ?_ ?_ _))) <;> (first | omega | (simp; done) | (simp; omega)))⟩
set_option maxHeartbeats 1000000 in
theorem l08Plain_bin (op : Int) (dst a b c n : Int) (hop : inB op 3 9 = true) (w : World) :
    Calls Try.prog 122 #[stV ⟨op, dst, a, b, c, n⟩] w fun e w' => e = .returned (stV (plainS ⟨op, dst, a, b, c, n⟩)) ∧ Below w.heap.size w w' := by
  have HP : Hid (plainS ⟨op, dst, a, b, c, n⟩ = ⟨op, dst, a, b, 0, 0⟩) := by show _ = _; have hh := inB_iff.1 hop; have p1 : ¬ op = 1 := (by omega); have p2 : ¬ op = 2 := (by omega); simp [plainS, hop, p1, p2]
  have hh := inB_iff.1 hop; have q1 : (op == 1) = false := by simp; omega
  have q2 : (op == 2) = false := by simp; omega
  have HB := Lib.hid hop; clear hop hh
  rw [HP.out]
  unfold stV
  go_enter Try.func122, Try.ntmps122
  go_wp2_with (go_at_call 53; refine (l01In_any _ _ _ _).mono ?_; rintro e w' ⟨rfl, rfl⟩; rw [HB.out])
  exact bodyPost_ret (v := .agg #[.int .i64 op, .int .i64 dst, .int .i64 a, .int .i64 b, .int .i64 0, .int .i64 0]) (by simp [results, Try.results122, go_sem]) rfl ⟨rfl, (by (repeat (first | with_reducible exact Below.refl _ _ | (with_reducible refine bel_next ?_ ?_ (by assumption)) | (with_reducible refine Below.alloc ?_ ?_ _) | (with_reducible refine Below.drew ?_) | (with_reducible refine below_drewN ?_ _) | (with_reducible refine Below.setCell ?_ ?_ _))) <;> (first | omega | (simp; done) | (simp; omega)))⟩
set_option maxHeartbeats 1000000 in
theorem l08Plain_mux (dst a b c n : Int) (w : World) :
    Calls Try.prog 122 #[stV ⟨10, dst, a, b, c, n⟩] w fun e w' => e = .returned (stV (plainS ⟨10, dst, a, b, c, n⟩)) ∧ Below w.heap.size w w' := by
  have HP : Hid (plainS ⟨10, dst, a, b, c, n⟩ = ⟨10, dst, a, b, c, 0⟩) := by show _ = _; simp [plainS, show inB 10 3 9 = false from by decide]
  have HB : Hid (inB 10 3 9 = false) := (by decide : inB 10 3 9 = false)
  rw [HP.out]
  unfold stV
  go_enter Try.func122, Try.ntmps122
  go_wp2_with (go_at_call 53; refine (l01In_any _ _ _ _).mono ?_; rintro e w' ⟨rfl, rfl⟩; rw [HB.out])
  exact bodyPost_ret (v := .agg #[.int .i64 10, .int .i64 dst, .int .i64 a, .int .i64 b, .int .i64 c, .int .i64 0]) (by simp [results, Try.results122, go_sem]) rfl ⟨rfl, (by (repeat (first | with_reducible exact Below.refl _ _ | (with_reducible refine bel_next ?_ ?_ (by assumption)) | (with_reducible refine Below.alloc ?_ ?_ _) | (with_reducible refine Below.drew ?_) | (with_reducible refine below_drewN ?_ _) | (with_reducible refine Below.setCell ?_ ?_ _))) <;> (first | omega | (simp; done) | (simp; omega)))⟩
set_option maxHeartbeats 1000000 in
theorem l08Plain_out (dst a b c n : Int) (w : World) :
    Calls Try.prog 122 #[stV ⟨11, dst, a, b, c, n⟩] w fun e w' => e = .returned (stV (plainS ⟨11, dst, a, b, c, n⟩)) ∧ Below w.heap.size w w' := by
  have HP : Hid (plainS ⟨11, dst, a, b, c, n⟩ = ⟨11, 0, a, 0, 0, 0⟩) := by show _ = _; simp [plainS, show inB 11 3 9 = false from by decide]
  have HB : Hid (inB 11 3 9 = false) := (by decide : inB 11 3 9 = false)
  rw [HP.out]
  unfold stV
  go_enter Try.func122, Try.ntmps122
  go_wp2_with (go_at_call 53; refine (l01In_any _ _ _ _).mono ?_; rintro e w' ⟨rfl, rfl⟩; rw [HB.out])
  exact bodyPost_ret (v := .agg #[.int .i64 11, .int .i64 0, .int .i64 a, .int .i64 0, .int .i64 0, .int .i64 0]) (by simp [results, Try.results122, go_sem]) rfl ⟨rfl, (by (repeat (first | with_reducible exact Below.refl _ _ | (with_reducible refine bel_next ?_ ?_ (by assumption)) | (with_reducible refine Below.alloc ?_ ?_ _) | (with_reducible refine Below.drew ?_) | (with_reducible refine below_drewN ?_ _) | (with_reducible refine Below.setCell ?_ ?_ _))) <;> (first | omega | (simp; done) | (simp; omega)))⟩
set_option maxHeartbeats 1000000 in
theorem l08Plain_loop (dst a b c n : Int) (w : World) :
    Calls Try.prog 122 #[stV ⟨12, dst, a, b, c, n⟩] w fun e w' => e = .returned (stV (plainS ⟨12, dst, a, b, c, n⟩)) ∧ Below w.heap.size w w' := by
  have HP : Hid (plainS ⟨12, dst, a, b, c, n⟩ = ⟨12, 0, 0, 0, 0, n⟩) := by show _ = _; simp [plainS, show inB 12 3 9 = false from by decide]
  have HB : Hid (inB 12 3 9 = false) := (by decide : inB 12 3 9 = false)
  rw [HP.out]
  unfold stV
  go_enter Try.func122, Try.ntmps122
  go_wp2_with (go_at_call 53; refine (l01In_any _ _ _ _).mono ?_; rintro e w' ⟨rfl, rfl⟩; rw [HB.out])
  exact bodyPost_ret (v := .agg #[.int .i64 12, .int .i64 0, .int .i64 0, .int .i64 0, .int .i64 0, .int .i64 n]) (by simp [results, Try.results122, go_sem]) rfl ⟨rfl, (by (repeat (first | with_reducible exact Below.refl _ _ | (with_reducible refine bel_next ?_ ?_ (by assumption)) | (with_reducible refine Below.alloc ?_ ?_ _) | (with_reducible refine Below.drew ?_) | (with_reducible refine below_drewN ?_ _) | (with_reducible refine Below.setCell ?_ ?_ _))) <;> (first | omega | (simp; done) | (simp; omega)))⟩
set_option maxHeartbeats 1000000 in
theorem l08Plain_else (op : Int) (dst a b c n : Int) (hop : inB op 3 9 = false) (p1 : ¬ op = 1) (p2 : ¬ op = 2) (p10 : ¬ op = 10) (p11 : ¬ op = 11) (p12 : ¬ op = 12) (w : World) :
    Calls Try.prog 122 #[stV ⟨op, dst, a, b, c, n⟩] w fun e w' => e = .returned (stV (plainS ⟨op, dst, a, b, c, n⟩)) ∧ Below w.heap.size w w' := by
  have HP : Hid (plainS ⟨op, dst, a, b, c, n⟩ = ⟨op, 0, 0, 0, 0, 0⟩) := by show _ = _; simp [plainS, hop, p1, p2, p10, p11, p12]
  have HB := Lib.hid hop; have q1 : (op == 1) = false := (by simp; omega); have q2 : (op == 2) = false := (by simp; omega); have q10 : (op == 10) = false := (by simp; omega); have q11 : (op == 11) = false := (by simp; omega); have q12 : (op == 12) = false := (by simp; omega); clear hop p1 p2 p10 p11 p12
  rw [HP.out]
  unfold stV
  go_enter Try.func122, Try.ntmps122
  go_wp2_with (go_at_call 53; refine (l01In_any _ _ _ _).mono ?_; rintro e w' ⟨rfl, rfl⟩; rw [HB.out])
  exact bodyPost_ret (v := .agg #[.int .i64 op, .int .i64 0, .int .i64 0, .int .i64 0, .int .i64 0, .int .i64 0]) (by simp [results, Try.results122, go_sem]) rfl ⟨rfl, (by (repeat (first | with_reducible exact Below.refl _ _ | (with_reducible refine bel_next ?_ ?_ (by assumption)) | (with_reducible refine Below.alloc ?_ ?_ _) | (with_reducible refine Below.drew ?_) | (with_reducible refine below_drewN ?_ _) | (with_reducible refine Below.setCell ?_ ?_ _))) <;> (first | omega | (simp; done) | (simp; omega)))⟩
theorem l08Plain_any (s : St) (w : World) :
    Calls Try.prog 122 #[stV s] w fun e w' => e = .returned (stV (plainS s)) ∧ Below w.heap.size w w' := by
  obtain ⟨op, dst, a, b, c, n⟩ := s
  by_cases p1 : op = 1
  · subst p1; exact l08Plain_const dst a b c n w
  by_cases p2 : op = 2
  · subst p2; exact l08Plain_input dst a b c n w
  cases hop : inB op 3 9
  case true => exact l08Plain_bin op dst a b c n hop w
  by_cases p10 : op = 10
  · subst p10; exact l08Plain_mux dst a b c n w
  by_cases p11 : op = 11
  · subst p11; exact l08Plain_out dst a b c n w
  by_cases p12 : op = 12
  · subst p12; exact l08Plain_loop dst a b c n w
  exact l08Plain_else op dst a b c n hop p1 p2 p10 p11 p12 w
end Go.Proofs.Ytfcijloiebnloaa

/- SStmtB -/
namespace Go.Proofs.Ytfcijloiebnloaa
open Go.RowKit
set_option linter.unusedSimpArgs false

def eqS (s t : St) : Bool := (s.op == t.op) && (s.dst == t.dst) && (s.a == t.a) && (s.b == t.b) && (s.c == t.c) && (s.n == t.n)
def lastS (s : St) : Bool := if s.op = 1 then inB s.n 0 15 else if s.op = 2 then decide (s.a < 5) && inB s.n 0 3 else if s.op = 12 then inB s.n 1 8 else inB s.op 3 13
def regsS (s : St) : Bool := inB s.dst 0 7 && inB s.a 0 7 && inB s.b 0 7 && inB s.c 0 7

set_option maxHeartbeats 2000000 in
theorem sStmtOk_ne0 (sop sdst sa sb sc sn op dst a b c n : Int) (he : plainS ⟨sop, sdst, sa, sb, sc, sn⟩ = ⟨op, dst, a, b, c, n⟩) (hd : (sop == op) = false) (w : World) :
    Calls Try.prog 112 #[stV ⟨sop, sdst, sa, sb, sc, sn⟩] w fun e w' => e = .returned (.bool false) ∧ Below w.heap.size w w' := by
  have HC := Lib.hid (fun w => l08Plain_any ⟨sop, sdst, sa, sb, sc, sn⟩ w)
  rw [he] at HC
  clear he
  unfold stV at HC ⊢
  simp only at HC
  go_enter Try.func112, Try.ntmps112
  go_wp2_with fail
  have hS := (Bx6.box w (.int .i64 sop) (.int .i64 sdst) (.int .i64 sa) (.int .i64 sb) (.int .i64 sc) (.int .i64 sn) 90).drew
  refine wp_region_in _ (by kernel_rfl) (by kernel_rfl) hS ?_
  haveI : Nonempty (WIn (Bx6 w w.heap.size (.int .i64 sop) (.int .i64 sdst) (.int .i64 sa) (.int .i64 sb) (.int .i64 sc) (.int .i64 sn))) := ⟨⟨_, hS⟩⟩
  have c0 := fun x => in6_0 (w0 := w) (g := w.heap.size) (v0 := .int .i64 sop) (v1 := .int .i64 sdst) (v2 := .int .i64 sa) (v3 := .int .i64 sb) (v4 := .int .i64 sc) (v5 := .int .i64 sn) x
  have c1 := fun x => in6_1 (w0 := w) (g := w.heap.size) (v0 := .int .i64 sop) (v1 := .int .i64 sdst) (v2 := .int .i64 sa) (v3 := .int .i64 sb) (v4 := .int .i64 sc) (v5 := .int .i64 sn) x
  have c2 := fun x => in6_2 (w0 := w) (g := w.heap.size) (v0 := .int .i64 sop) (v1 := .int .i64 sdst) (v2 := .int .i64 sa) (v3 := .int .i64 sb) (v4 := .int .i64 sc) (v5 := .int .i64 sn) x
  have c3 := fun x => in6_3 (w0 := w) (g := w.heap.size) (v0 := .int .i64 sop) (v1 := .int .i64 sdst) (v2 := .int .i64 sa) (v3 := .int .i64 sb) (v4 := .int .i64 sc) (v5 := .int .i64 sn) x
  have c4 := fun x => in6_4 (w0 := w) (g := w.heap.size) (v0 := .int .i64 sop) (v1 := .int .i64 sdst) (v2 := .int .i64 sa) (v3 := .int .i64 sb) (v4 := .int .i64 sc) (v5 := .int .i64 sn) x
  have c5 := fun x => in6_5 (w0 := w) (g := w.heap.size) (v0 := .int .i64 sop) (v1 := .int .i64 sdst) (v2 := .int .i64 sa) (v3 := .int .i64 sb) (v4 := .int .i64 sc) (v5 := .int .i64 sn) x
  repeat (go_big_quiet_step ((go_at_call 122; exact Calls.in6 _ (HC.out _))))
  refine wpQuiet_nil ?_
  rintro _ ⟨x, rfl⟩
  go_wp2
  go_ret
  exact ⟨rfl, x.ok.bel⟩
set_option maxHeartbeats 2000000 in
theorem sStmtOk_ne1 (sop sdst sa sb sc sn dst a b c n : Int) (he : plainS ⟨sop, sdst, sa, sb, sc, sn⟩ = ⟨sop, dst, a, b, c, n⟩) (hd : (sdst == dst) = false) (w : World) :
    Calls Try.prog 112 #[stV ⟨sop, sdst, sa, sb, sc, sn⟩] w fun e w' => e = .returned (.bool false) ∧ Below w.heap.size w w' := by
  have HC := Lib.hid (fun w => l08Plain_any ⟨sop, sdst, sa, sb, sc, sn⟩ w)
  rw [he] at HC
  clear he
  unfold stV at HC ⊢
  simp only at HC
  go_enter Try.func112, Try.ntmps112
  go_wp2_with fail
  have hS := (Bx6.box w (.int .i64 sop) (.int .i64 sdst) (.int .i64 sa) (.int .i64 sb) (.int .i64 sc) (.int .i64 sn) 90).drew
  refine wp_region_in _ (by kernel_rfl) (by kernel_rfl) hS ?_
  haveI : Nonempty (WIn (Bx6 w w.heap.size (.int .i64 sop) (.int .i64 sdst) (.int .i64 sa) (.int .i64 sb) (.int .i64 sc) (.int .i64 sn))) := ⟨⟨_, hS⟩⟩
  have c0 := fun x => in6_0 (w0 := w) (g := w.heap.size) (v0 := .int .i64 sop) (v1 := .int .i64 sdst) (v2 := .int .i64 sa) (v3 := .int .i64 sb) (v4 := .int .i64 sc) (v5 := .int .i64 sn) x
  have c1 := fun x => in6_1 (w0 := w) (g := w.heap.size) (v0 := .int .i64 sop) (v1 := .int .i64 sdst) (v2 := .int .i64 sa) (v3 := .int .i64 sb) (v4 := .int .i64 sc) (v5 := .int .i64 sn) x
  have c2 := fun x => in6_2 (w0 := w) (g := w.heap.size) (v0 := .int .i64 sop) (v1 := .int .i64 sdst) (v2 := .int .i64 sa) (v3 := .int .i64 sb) (v4 := .int .i64 sc) (v5 := .int .i64 sn) x
  have c3 := fun x => in6_3 (w0 := w) (g := w.heap.size) (v0 := .int .i64 sop) (v1 := .int .i64 sdst) (v2 := .int .i64 sa) (v3 := .int .i64 sb) (v4 := .int .i64 sc) (v5 := .int .i64 sn) x
  have c4 := fun x => in6_4 (w0 := w) (g := w.heap.size) (v0 := .int .i64 sop) (v1 := .int .i64 sdst) (v2 := .int .i64 sa) (v3 := .int .i64 sb) (v4 := .int .i64 sc) (v5 := .int .i64 sn) x
  have c5 := fun x => in6_5 (w0 := w) (g := w.heap.size) (v0 := .int .i64 sop) (v1 := .int .i64 sdst) (v2 := .int .i64 sa) (v3 := .int .i64 sb) (v4 := .int .i64 sc) (v5 := .int .i64 sn) x
  repeat (go_big_quiet_step ((go_at_call 122; exact Calls.in6 _ (HC.out _))))
  refine wpQuiet_nil ?_
  rintro _ ⟨x, rfl⟩
  go_wp2
  go_ret
  exact ⟨rfl, x.ok.bel⟩
set_option maxHeartbeats 2000000 in
theorem sStmtOk_ne2 (sop sdst sa sb sc sn a b c n : Int) (he : plainS ⟨sop, sdst, sa, sb, sc, sn⟩ = ⟨sop, sdst, a, b, c, n⟩) (hd : (sa == a) = false) (w : World) :
    Calls Try.prog 112 #[stV ⟨sop, sdst, sa, sb, sc, sn⟩] w fun e w' => e = .returned (.bool false) ∧ Below w.heap.size w w' := by
  have HC := Lib.hid (fun w => l08Plain_any ⟨sop, sdst, sa, sb, sc, sn⟩ w)
  rw [he] at HC
  clear he
  unfold stV at HC ⊢
  simp only at HC
  go_enter Try.func112, Try.ntmps112
  go_wp2_with fail
  have hS := (Bx6.box w (.int .i64 sop) (.int .i64 sdst) (.int .i64 sa) (.int .i64 sb) (.int .i64 sc) (.int .i64 sn) 90).drew
  refine wp_region_in _ (by kernel_rfl) (by kernel_rfl) hS ?_
  haveI : Nonempty (WIn (Bx6 w w.heap.size (.int .i64 sop) (.int .i64 sdst) (.int .i64 sa) (.int .i64 sb) (.int .i64 sc) (.int .i64 sn))) := ⟨⟨_, hS⟩⟩
  have c0 := fun x => in6_0 (w0 := w) (g := w.heap.size) (v0 := .int .i64 sop) (v1 := .int .i64 sdst) (v2 := .int .i64 sa) (v3 := .int .i64 sb) (v4 := .int .i64 sc) (v5 := .int .i64 sn) x
  have c1 := fun x => in6_1 (w0 := w) (g := w.heap.size) (v0 := .int .i64 sop) (v1 := .int .i64 sdst) (v2 := .int .i64 sa) (v3 := .int .i64 sb) (v4 := .int .i64 sc) (v5 := .int .i64 sn) x
  have c2 := fun x => in6_2 (w0 := w) (g := w.heap.size) (v0 := .int .i64 sop) (v1 := .int .i64 sdst) (v2 := .int .i64 sa) (v3 := .int .i64 sb) (v4 := .int .i64 sc) (v5 := .int .i64 sn) x
  have c3 := fun x => in6_3 (w0 := w) (g := w.heap.size) (v0 := .int .i64 sop) (v1 := .int .i64 sdst) (v2 := .int .i64 sa) (v3 := .int .i64 sb) (v4 := .int .i64 sc) (v5 := .int .i64 sn) x
  have c4 := fun x => in6_4 (w0 := w) (g := w.heap.size) (v0 := .int .i64 sop) (v1 := .int .i64 sdst) (v2 := .int .i64 sa) (v3 := .int .i64 sb) (v4 := .int .i64 sc) (v5 := .int .i64 sn) x
  have c5 := fun x => in6_5 (w0 := w) (g := w.heap.size) (v0 := .int .i64 sop) (v1 := .int .i64 sdst) (v2 := .int .i64 sa) (v3 := .int .i64 sb) (v4 := .int .i64 sc) (v5 := .int .i64 sn) x
  repeat (go_big_quiet_step ((go_at_call 122; exact Calls.in6 _ (HC.out _))))
  refine wpQuiet_nil ?_
  rintro _ ⟨x, rfl⟩
  go_wp2
  go_ret
  exact ⟨rfl, x.ok.bel⟩
set_option maxHeartbeats 2000000 in
theorem sStmtOk_ne3 (sop sdst sa sb sc sn b c n : Int) (he : plainS ⟨sop, sdst, sa, sb, sc, sn⟩ = ⟨sop, sdst, sa, b, c, n⟩) (hd : (sb == b) = false) (w : World) :
    Calls Try.prog 112 #[stV ⟨sop, sdst, sa, sb, sc, sn⟩] w fun e w' => e = .returned (.bool false) ∧ Below w.heap.size w w' := by
  have HC := Lib.hid (fun w => l08Plain_any ⟨sop, sdst, sa, sb, sc, sn⟩ w)
  rw [he] at HC
  clear he
  unfold stV at HC ⊢
  simp only at HC
  go_enter Try.func112, Try.ntmps112
  go_wp2_with fail
  have hS := (Bx6.box w (.int .i64 sop) (.int .i64 sdst) (.int .i64 sa) (.int .i64 sb) (.int .i64 sc) (.int .i64 sn) 90).drew
  refine wp_region_in _ (by kernel_rfl) (by kernel_rfl) hS ?_
  haveI : Nonempty (WIn (Bx6 w w.heap.size (.int .i64 sop) (.int .i64 sdst) (.int .i64 sa) (.int .i64 sb) (.int .i64 sc) (.int .i64 sn))) := ⟨⟨_, hS⟩⟩
  have c0 := fun x => in6_0 (w0 := w) (g := w.heap.size) (v0 := .int .i64 sop) (v1 := .int .i64 sdst) (v2 := .int .i64 sa) (v3 := .int .i64 sb) (v4 := .int .i64 sc) (v5 := .int .i64 sn) x
  have c1 := fun x => in6_1 (w0 := w) (g := w.heap.size) (v0 := .int .i64 sop) (v1 := .int .i64 sdst) (v2 := .int .i64 sa) (v3 := .int .i64 sb) (v4 := .int .i64 sc) (v5 := .int .i64 sn) x
  have c2 := fun x => in6_2 (w0 := w) (g := w.heap.size) (v0 := .int .i64 sop) (v1 := .int .i64 sdst) (v2 := .int .i64 sa) (v3 := .int .i64 sb) (v4 := .int .i64 sc) (v5 := .int .i64 sn) x
  have c3 := fun x => in6_3 (w0 := w) (g := w.heap.size) (v0 := .int .i64 sop) (v1 := .int .i64 sdst) (v2 := .int .i64 sa) (v3 := .int .i64 sb) (v4 := .int .i64 sc) (v5 := .int .i64 sn) x
  have c4 := fun x => in6_4 (w0 := w) (g := w.heap.size) (v0 := .int .i64 sop) (v1 := .int .i64 sdst) (v2 := .int .i64 sa) (v3 := .int .i64 sb) (v4 := .int .i64 sc) (v5 := .int .i64 sn) x
  have c5 := fun x => in6_5 (w0 := w) (g := w.heap.size) (v0 := .int .i64 sop) (v1 := .int .i64 sdst) (v2 := .int .i64 sa) (v3 := .int .i64 sb) (v4 := .int .i64 sc) (v5 := .int .i64 sn) x
  repeat (go_big_quiet_step ((go_at_call 122; exact Calls.in6 _ (HC.out _))))
  refine wpQuiet_nil ?_
  rintro _ ⟨x, rfl⟩
  go_wp2
  go_ret
  exact ⟨rfl, x.ok.bel⟩
set_option maxHeartbeats 2000000 in
theorem sStmtOk_ne4 (sop sdst sa sb sc sn c n : Int) (he : plainS ⟨sop, sdst, sa, sb, sc, sn⟩ = ⟨sop, sdst, sa, sb, c, n⟩) (hd : (sc == c) = false) (w : World) :
    Calls Try.prog 112 #[stV ⟨sop, sdst, sa, sb, sc, sn⟩] w fun e w' => e = .returned (.bool false) ∧ Below w.heap.size w w' := by
  have HC := Lib.hid (fun w => l08Plain_any ⟨sop, sdst, sa, sb, sc, sn⟩ w)
  rw [he] at HC
  clear he
  unfold stV at HC ⊢
  simp only at HC
  go_enter Try.func112, Try.ntmps112
  go_wp2_with fail
  have hS := (Bx6.box w (.int .i64 sop) (.int .i64 sdst) (.int .i64 sa) (.int .i64 sb) (.int .i64 sc) (.int .i64 sn) 90).drew
  refine wp_region_in _ (by kernel_rfl) (by kernel_rfl) hS ?_
  haveI : Nonempty (WIn (Bx6 w w.heap.size (.int .i64 sop) (.int .i64 sdst) (.int .i64 sa) (.int .i64 sb) (.int .i64 sc) (.int .i64 sn))) := ⟨⟨_, hS⟩⟩
  have c0 := fun x => in6_0 (w0 := w) (g := w.heap.size) (v0 := .int .i64 sop) (v1 := .int .i64 sdst) (v2 := .int .i64 sa) (v3 := .int .i64 sb) (v4 := .int .i64 sc) (v5 := .int .i64 sn) x
  have c1 := fun x => in6_1 (w0 := w) (g := w.heap.size) (v0 := .int .i64 sop) (v1 := .int .i64 sdst) (v2 := .int .i64 sa) (v3 := .int .i64 sb) (v4 := .int .i64 sc) (v5 := .int .i64 sn) x
  have c2 := fun x => in6_2 (w0 := w) (g := w.heap.size) (v0 := .int .i64 sop) (v1 := .int .i64 sdst) (v2 := .int .i64 sa) (v3 := .int .i64 sb) (v4 := .int .i64 sc) (v5 := .int .i64 sn) x
  have c3 := fun x => in6_3 (w0 := w) (g := w.heap.size) (v0 := .int .i64 sop) (v1 := .int .i64 sdst) (v2 := .int .i64 sa) (v3 := .int .i64 sb) (v4 := .int .i64 sc) (v5 := .int .i64 sn) x
  have c4 := fun x => in6_4 (w0 := w) (g := w.heap.size) (v0 := .int .i64 sop) (v1 := .int .i64 sdst) (v2 := .int .i64 sa) (v3 := .int .i64 sb) (v4 := .int .i64 sc) (v5 := .int .i64 sn) x
  have c5 := fun x => in6_5 (w0 := w) (g := w.heap.size) (v0 := .int .i64 sop) (v1 := .int .i64 sdst) (v2 := .int .i64 sa) (v3 := .int .i64 sb) (v4 := .int .i64 sc) (v5 := .int .i64 sn) x
  repeat (go_big_quiet_step ((go_at_call 122; exact Calls.in6 _ (HC.out _))))
  refine wpQuiet_nil ?_
  rintro _ ⟨x, rfl⟩
  go_wp2
  go_ret
  exact ⟨rfl, x.ok.bel⟩
set_option maxHeartbeats 2000000 in
theorem sStmtOk_ne5 (sop sdst sa sb sc sn n : Int) (he : plainS ⟨sop, sdst, sa, sb, sc, sn⟩ = ⟨sop, sdst, sa, sb, sc, n⟩) (hd : (sn == n) = false) (w : World) :
    Calls Try.prog 112 #[stV ⟨sop, sdst, sa, sb, sc, sn⟩] w fun e w' => e = .returned (.bool false) ∧ Below w.heap.size w w' := by
  have HC := Lib.hid (fun w => l08Plain_any ⟨sop, sdst, sa, sb, sc, sn⟩ w)
  rw [he] at HC
  clear he
  unfold stV at HC ⊢
  simp only at HC
  go_enter Try.func112, Try.ntmps112
  go_wp2_with fail
  have hS := (Bx6.box w (.int .i64 sop) (.int .i64 sdst) (.int .i64 sa) (.int .i64 sb) (.int .i64 sc) (.int .i64 sn) 90).drew
  refine wp_region_in _ (by kernel_rfl) (by kernel_rfl) hS ?_
  haveI : Nonempty (WIn (Bx6 w w.heap.size (.int .i64 sop) (.int .i64 sdst) (.int .i64 sa) (.int .i64 sb) (.int .i64 sc) (.int .i64 sn))) := ⟨⟨_, hS⟩⟩
  have c0 := fun x => in6_0 (w0 := w) (g := w.heap.size) (v0 := .int .i64 sop) (v1 := .int .i64 sdst) (v2 := .int .i64 sa) (v3 := .int .i64 sb) (v4 := .int .i64 sc) (v5 := .int .i64 sn) x
  have c1 := fun x => in6_1 (w0 := w) (g := w.heap.size) (v0 := .int .i64 sop) (v1 := .int .i64 sdst) (v2 := .int .i64 sa) (v3 := .int .i64 sb) (v4 := .int .i64 sc) (v5 := .int .i64 sn) x
  have c2 := fun x => in6_2 (w0 := w) (g := w.heap.size) (v0 := .int .i64 sop) (v1 := .int .i64 sdst) (v2 := .int .i64 sa) (v3 := .int .i64 sb) (v4 := .int .i64 sc) (v5 := .int .i64 sn) x
  have c3 := fun x => in6_3 (w0 := w) (g := w.heap.size) (v0 := .int .i64 sop) (v1 := .int .i64 sdst) (v2 := .int .i64 sa) (v3 := .int .i64 sb) (v4 := .int .i64 sc) (v5 := .int .i64 sn) x
  have c4 := fun x => in6_4 (w0 := w) (g := w.heap.size) (v0 := .int .i64 sop) (v1 := .int .i64 sdst) (v2 := .int .i64 sa) (v3 := .int .i64 sb) (v4 := .int .i64 sc) (v5 := .int .i64 sn) x
  have c5 := fun x => in6_5 (w0 := w) (g := w.heap.size) (v0 := .int .i64 sop) (v1 := .int .i64 sdst) (v2 := .int .i64 sa) (v3 := .int .i64 sb) (v4 := .int .i64 sc) (v5 := .int .i64 sn) x
  repeat (go_big_quiet_step ((go_at_call 122; exact Calls.in6 _ (HC.out _))))
  refine wpQuiet_nil ?_
  rintro _ ⟨x, rfl⟩
  go_wp2
  go_ret
  exact ⟨rfl, x.ok.bel⟩
set_option maxHeartbeats 2000000 in
theorem sStmtOk_eq0 (sop sdst sa sb sc sn : Int) (he : plainS ⟨sop, sdst, sa, sb, sc, sn⟩ = ⟨sop, sdst, sa, sb, sc, sn⟩)  (t0 : inB sdst 0 7 = false) (w : World) :
    Calls Try.prog 112 #[stV ⟨sop, sdst, sa, sb, sc, sn⟩] w fun e w' => e = .returned (.bool (false)) ∧ Below w.heap.size w w' := by
  have HC := Lib.hid (fun w => l08Plain_any ⟨sop, sdst, sa, sb, sc, sn⟩ w)
  rw [he] at HC
  clear he
  unfold stV at HC ⊢
  simp only at HC
  go_enter Try.func112, Try.ntmps112
  go_wp2_with fail
  have T0 : Hid (∀ w : World, Calls Try.prog 123 #[.int .i64 sdst] w fun e w' => e = .returned (.bool false) ∧ w = w') := fun w => by have := l08Reg_any sdst w; rw [t0] at this; exact this
  have hS := (Bx6.box w (.int .i64 sop) (.int .i64 sdst) (.int .i64 sa) (.int .i64 sb) (.int .i64 sc) (.int .i64 sn) 90).drew
  refine wp_region_in _ (by kernel_rfl) (by kernel_rfl) hS ?_
  haveI : Nonempty (WIn (Bx6 w w.heap.size (.int .i64 sop) (.int .i64 sdst) (.int .i64 sa) (.int .i64 sb) (.int .i64 sc) (.int .i64 sn))) := ⟨⟨_, hS⟩⟩
  have c0 := fun x => in6_0 (w0 := w) (g := w.heap.size) (v0 := .int .i64 sop) (v1 := .int .i64 sdst) (v2 := .int .i64 sa) (v3 := .int .i64 sb) (v4 := .int .i64 sc) (v5 := .int .i64 sn) x
  have c1 := fun x => in6_1 (w0 := w) (g := w.heap.size) (v0 := .int .i64 sop) (v1 := .int .i64 sdst) (v2 := .int .i64 sa) (v3 := .int .i64 sb) (v4 := .int .i64 sc) (v5 := .int .i64 sn) x
  have c2 := fun x => in6_2 (w0 := w) (g := w.heap.size) (v0 := .int .i64 sop) (v1 := .int .i64 sdst) (v2 := .int .i64 sa) (v3 := .int .i64 sb) (v4 := .int .i64 sc) (v5 := .int .i64 sn) x
  have c3 := fun x => in6_3 (w0 := w) (g := w.heap.size) (v0 := .int .i64 sop) (v1 := .int .i64 sdst) (v2 := .int .i64 sa) (v3 := .int .i64 sb) (v4 := .int .i64 sc) (v5 := .int .i64 sn) x
  have c4 := fun x => in6_4 (w0 := w) (g := w.heap.size) (v0 := .int .i64 sop) (v1 := .int .i64 sdst) (v2 := .int .i64 sa) (v3 := .int .i64 sb) (v4 := .int .i64 sc) (v5 := .int .i64 sn) x
  have c5 := fun x => in6_5 (w0 := w) (g := w.heap.size) (v0 := .int .i64 sop) (v1 := .int .i64 sdst) (v2 := .int .i64 sa) (v3 := .int .i64 sb) (v4 := .int .i64 sc) (v5 := .int .i64 sn) x
  repeat (go_big_quiet_step ((first | (go_at_call 122; exact Calls.in6 _ (HC.out _)) | (go_at_call 123; with_reducible exact Calls.in6s _ (T0.out _)))))
  refine wpQuiet_nil ?_
  rintro _ ⟨x, rfl⟩
  go_wp2
  go_ret
  exact ⟨rfl, x.ok.bel⟩
set_option maxHeartbeats 2000000 in
theorem sStmtOk_eq1 (sop sdst sa sb sc sn : Int) (he : plainS ⟨sop, sdst, sa, sb, sc, sn⟩ = ⟨sop, sdst, sa, sb, sc, sn⟩) (t0 : inB sdst 0 7 = true) (t1 : inB sa 0 7 = false) (w : World) :
    Calls Try.prog 112 #[stV ⟨sop, sdst, sa, sb, sc, sn⟩] w fun e w' => e = .returned (.bool (false)) ∧ Below w.heap.size w w' := by
  have HC := Lib.hid (fun w => l08Plain_any ⟨sop, sdst, sa, sb, sc, sn⟩ w)
  rw [he] at HC
  clear he
  unfold stV at HC ⊢
  simp only at HC
  go_enter Try.func112, Try.ntmps112
  go_wp2_with fail
  have T0 : Hid (∀ w : World, Calls Try.prog 123 #[.int .i64 sdst] w fun e w' => e = .returned (.bool true) ∧ w = w') := fun w => by have := l08Reg_any sdst w; rw [t0] at this; exact this
  have T1 : Hid (∀ w : World, Calls Try.prog 123 #[.int .i64 sa] w fun e w' => e = .returned (.bool false) ∧ w = w') := fun w => by have := l08Reg_any sa w; rw [t1] at this; exact this
  have hS := (Bx6.box w (.int .i64 sop) (.int .i64 sdst) (.int .i64 sa) (.int .i64 sb) (.int .i64 sc) (.int .i64 sn) 90).drew
  refine wp_region_in _ (by kernel_rfl) (by kernel_rfl) hS ?_
  haveI : Nonempty (WIn (Bx6 w w.heap.size (.int .i64 sop) (.int .i64 sdst) (.int .i64 sa) (.int .i64 sb) (.int .i64 sc) (.int .i64 sn))) := ⟨⟨_, hS⟩⟩
  have c0 := fun x => in6_0 (w0 := w) (g := w.heap.size) (v0 := .int .i64 sop) (v1 := .int .i64 sdst) (v2 := .int .i64 sa) (v3 := .int .i64 sb) (v4 := .int .i64 sc) (v5 := .int .i64 sn) x
  have c1 := fun x => in6_1 (w0 := w) (g := w.heap.size) (v0 := .int .i64 sop) (v1 := .int .i64 sdst) (v2 := .int .i64 sa) (v3 := .int .i64 sb) (v4 := .int .i64 sc) (v5 := .int .i64 sn) x
  have c2 := fun x => in6_2 (w0 := w) (g := w.heap.size) (v0 := .int .i64 sop) (v1 := .int .i64 sdst) (v2 := .int .i64 sa) (v3 := .int .i64 sb) (v4 := .int .i64 sc) (v5 := .int .i64 sn) x
  have c3 := fun x => in6_3 (w0 := w) (g := w.heap.size) (v0 := .int .i64 sop) (v1 := .int .i64 sdst) (v2 := .int .i64 sa) (v3 := .int .i64 sb) (v4 := .int .i64 sc) (v5 := .int .i64 sn) x
  have c4 := fun x => in6_4 (w0 := w) (g := w.heap.size) (v0 := .int .i64 sop) (v1 := .int .i64 sdst) (v2 := .int .i64 sa) (v3 := .int .i64 sb) (v4 := .int .i64 sc) (v5 := .int .i64 sn) x
  have c5 := fun x => in6_5 (w0 := w) (g := w.heap.size) (v0 := .int .i64 sop) (v1 := .int .i64 sdst) (v2 := .int .i64 sa) (v3 := .int .i64 sb) (v4 := .int .i64 sc) (v5 := .int .i64 sn) x
  repeat (go_big_quiet_step ((first | (go_at_call 122; exact Calls.in6 _ (HC.out _)) | (go_at_call 123; with_reducible exact Calls.in6s _ (T0.out _)) | (go_at_call 123; with_reducible exact Calls.in6s _ (T1.out _)))))
  refine wpQuiet_nil ?_
  rintro _ ⟨x, rfl⟩
  go_wp2
  go_ret
  exact ⟨rfl, x.ok.bel⟩
set_option maxHeartbeats 2000000 in
theorem sStmtOk_eq2 (sop sdst sa sb sc sn : Int) (he : plainS ⟨sop, sdst, sa, sb, sc, sn⟩ = ⟨sop, sdst, sa, sb, sc, sn⟩) (t0 : inB sdst 0 7 = true) (t1 : inB sa 0 7 = true) (t2 : inB sb 0 7 = false) (w : World) :
    Calls Try.prog 112 #[stV ⟨sop, sdst, sa, sb, sc, sn⟩] w fun e w' => e = .returned (.bool (false)) ∧ Below w.heap.size w w' := by
  have HC := Lib.hid (fun w => l08Plain_any ⟨sop, sdst, sa, sb, sc, sn⟩ w)
  rw [he] at HC
  clear he
  unfold stV at HC ⊢
  simp only at HC
  go_enter Try.func112, Try.ntmps112
  go_wp2_with fail
  have T0 : Hid (∀ w : World, Calls Try.prog 123 #[.int .i64 sdst] w fun e w' => e = .returned (.bool true) ∧ w = w') := fun w => by have := l08Reg_any sdst w; rw [t0] at this; exact this
  have T1 : Hid (∀ w : World, Calls Try.prog 123 #[.int .i64 sa] w fun e w' => e = .returned (.bool true) ∧ w = w') := fun w => by have := l08Reg_any sa w; rw [t1] at this; exact this
  have T2 : Hid (∀ w : World, Calls Try.prog 123 #[.int .i64 sb] w fun e w' => e = .returned (.bool false) ∧ w = w') := fun w => by have := l08Reg_any sb w; rw [t2] at this; exact this
  have hS := (Bx6.box w (.int .i64 sop) (.int .i64 sdst) (.int .i64 sa) (.int .i64 sb) (.int .i64 sc) (.int .i64 sn) 90).drew
  refine wp_region_in _ (by kernel_rfl) (by kernel_rfl) hS ?_
  haveI : Nonempty (WIn (Bx6 w w.heap.size (.int .i64 sop) (.int .i64 sdst) (.int .i64 sa) (.int .i64 sb) (.int .i64 sc) (.int .i64 sn))) := ⟨⟨_, hS⟩⟩
  have c0 := fun x => in6_0 (w0 := w) (g := w.heap.size) (v0 := .int .i64 sop) (v1 := .int .i64 sdst) (v2 := .int .i64 sa) (v3 := .int .i64 sb) (v4 := .int .i64 sc) (v5 := .int .i64 sn) x
  have c1 := fun x => in6_1 (w0 := w) (g := w.heap.size) (v0 := .int .i64 sop) (v1 := .int .i64 sdst) (v2 := .int .i64 sa) (v3 := .int .i64 sb) (v4 := .int .i64 sc) (v5 := .int .i64 sn) x
  have c2 := fun x => in6_2 (w0 := w) (g := w.heap.size) (v0 := .int .i64 sop) (v1 := .int .i64 sdst) (v2 := .int .i64 sa) (v3 := .int .i64 sb) (v4 := .int .i64 sc) (v5 := .int .i64 sn) x
  have c3 := fun x => in6_3 (w0 := w) (g := w.heap.size) (v0 := .int .i64 sop) (v1 := .int .i64 sdst) (v2 := .int .i64 sa) (v3 := .int .i64 sb) (v4 := .int .i64 sc) (v5 := .int .i64 sn) x
  have c4 := fun x => in6_4 (w0 := w) (g := w.heap.size) (v0 := .int .i64 sop) (v1 := .int .i64 sdst) (v2 := .int .i64 sa) (v3 := .int .i64 sb) (v4 := .int .i64 sc) (v5 := .int .i64 sn) x
  have c5 := fun x => in6_5 (w0 := w) (g := w.heap.size) (v0 := .int .i64 sop) (v1 := .int .i64 sdst) (v2 := .int .i64 sa) (v3 := .int .i64 sb) (v4 := .int .i64 sc) (v5 := .int .i64 sn) x
  repeat (go_big_quiet_step ((first | (go_at_call 122; exact Calls.in6 _ (HC.out _)) | (go_at_call 123; with_reducible exact Calls.in6s _ (T0.out _)) | (go_at_call 123; with_reducible exact Calls.in6s _ (T1.out _)) | (go_at_call 123; with_reducible exact Calls.in6s _ (T2.out _)))))
  refine wpQuiet_nil ?_
  rintro _ ⟨x, rfl⟩
  go_wp2
  go_ret
  exact ⟨rfl, x.ok.bel⟩
set_option maxHeartbeats 2000000 in
theorem sStmtOk_eq3 (sop sdst sa sb sc sn : Int) (he : plainS ⟨sop, sdst, sa, sb, sc, sn⟩ = ⟨sop, sdst, sa, sb, sc, sn⟩) (t0 : inB sdst 0 7 = true) (t1 : inB sa 0 7 = true) (t2 : inB sb 0 7 = true) (t3 : inB sc 0 7 = false) (w : World) :
    Calls Try.prog 112 #[stV ⟨sop, sdst, sa, sb, sc, sn⟩] w fun e w' => e = .returned (.bool (false)) ∧ Below w.heap.size w w' := by
  have HC := Lib.hid (fun w => l08Plain_any ⟨sop, sdst, sa, sb, sc, sn⟩ w)
  rw [he] at HC
  clear he
  unfold stV at HC ⊢
  simp only at HC
  go_enter Try.func112, Try.ntmps112
  go_wp2_with fail
  have T0 : Hid (∀ w : World, Calls Try.prog 123 #[.int .i64 sdst] w fun e w' => e = .returned (.bool true) ∧ w = w') := fun w => by have := l08Reg_any sdst w; rw [t0] at this; exact this
  have T1 : Hid (∀ w : World, Calls Try.prog 123 #[.int .i64 sa] w fun e w' => e = .returned (.bool true) ∧ w = w') := fun w => by have := l08Reg_any sa w; rw [t1] at this; exact this
  have T2 : Hid (∀ w : World, Calls Try.prog 123 #[.int .i64 sb] w fun e w' => e = .returned (.bool true) ∧ w = w') := fun w => by have := l08Reg_any sb w; rw [t2] at this; exact this
  have T3 : Hid (∀ w : World, Calls Try.prog 123 #[.int .i64 sc] w fun e w' => e = .returned (.bool false) ∧ w = w') := fun w => by have := l08Reg_any sc w; rw [t3] at this; exact this
  have hS := (Bx6.box w (.int .i64 sop) (.int .i64 sdst) (.int .i64 sa) (.int .i64 sb) (.int .i64 sc) (.int .i64 sn) 90).drew
  refine wp_region_in _ (by kernel_rfl) (by kernel_rfl) hS ?_
  haveI : Nonempty (WIn (Bx6 w w.heap.size (.int .i64 sop) (.int .i64 sdst) (.int .i64 sa) (.int .i64 sb) (.int .i64 sc) (.int .i64 sn))) := ⟨⟨_, hS⟩⟩
  have c0 := fun x => in6_0 (w0 := w) (g := w.heap.size) (v0 := .int .i64 sop) (v1 := .int .i64 sdst) (v2 := .int .i64 sa) (v3 := .int .i64 sb) (v4 := .int .i64 sc) (v5 := .int .i64 sn) x
  have c1 := fun x => in6_1 (w0 := w) (g := w.heap.size) (v0 := .int .i64 sop) (v1 := .int .i64 sdst) (v2 := .int .i64 sa) (v3 := .int .i64 sb) (v4 := .int .i64 sc) (v5 := .int .i64 sn) x
  have c2 := fun x => in6_2 (w0 := w) (g := w.heap.size) (v0 := .int .i64 sop) (v1 := .int .i64 sdst) (v2 := .int .i64 sa) (v3 := .int .i64 sb) (v4 := .int .i64 sc) (v5 := .int .i64 sn) x
  have c3 := fun x => in6_3 (w0 := w) (g := w.heap.size) (v0 := .int .i64 sop) (v1 := .int .i64 sdst) (v2 := .int .i64 sa) (v3 := .int .i64 sb) (v4 := .int .i64 sc) (v5 := .int .i64 sn) x
  have c4 := fun x => in6_4 (w0 := w) (g := w.heap.size) (v0 := .int .i64 sop) (v1 := .int .i64 sdst) (v2 := .int .i64 sa) (v3 := .int .i64 sb) (v4 := .int .i64 sc) (v5 := .int .i64 sn) x
  have c5 := fun x => in6_5 (w0 := w) (g := w.heap.size) (v0 := .int .i64 sop) (v1 := .int .i64 sdst) (v2 := .int .i64 sa) (v3 := .int .i64 sb) (v4 := .int .i64 sc) (v5 := .int .i64 sn) x
  repeat (go_big_quiet_step ((first | (go_at_call 122; exact Calls.in6 _ (HC.out _)) | (go_at_call 123; with_reducible exact Calls.in6s _ (T0.out _)) | (go_at_call 123; with_reducible exact Calls.in6s _ (T1.out _)) | (go_at_call 123; with_reducible exact Calls.in6s _ (T2.out _)) | (go_at_call 123; with_reducible exact Calls.in6s _ (T3.out _)))))
  refine wpQuiet_nil ?_
  rintro _ ⟨x, rfl⟩
  go_wp2
  go_ret
  exact ⟨rfl, x.ok.bel⟩
set_option maxHeartbeats 2000000 in
theorem sStmtOk_c1 (sdst sa sb sc sn : Int) (he : plainS ⟨1, sdst, sa, sb, sc, sn⟩ = ⟨1, sdst, sa, sb, sc, sn⟩) (t0 : inB sdst 0 7 = true) (t1 : inB sa 0 7 = true) (t2 : inB sb 0 7 = true) (t3 : inB sc 0 7 = true) (w : World) :
    Calls Try.prog 112 #[stV ⟨1, sdst, sa, sb, sc, sn⟩] w fun e w' => e = .returned (.bool (lastS ⟨1, sdst, sa, sb, sc, sn⟩)) ∧ Below w.heap.size w w' := by
  have HC := Lib.hid (fun w => l08Plain_any ⟨1, sdst, sa, sb, sc, sn⟩ w)
  rw [he] at HC
  clear he
  unfold stV at HC ⊢
  simp only at HC
  have HL : Hid (lastS ⟨1, sdst, sa, sb, sc, sn⟩ = (inB sn 0 15)) := by show _ = _; simp [lastS]
  go_enter Try.func112, Try.ntmps112
  go_wp2_with fail
  have T0 : Hid (∀ w : World, Calls Try.prog 123 #[.int .i64 sdst] w fun e w' => e = .returned (.bool true) ∧ w = w') := fun w => by have := l08Reg_any sdst w; rw [t0] at this; exact this
  have T1 : Hid (∀ w : World, Calls Try.prog 123 #[.int .i64 sa] w fun e w' => e = .returned (.bool true) ∧ w = w') := fun w => by have := l08Reg_any sa w; rw [t1] at this; exact this
  have T2 : Hid (∀ w : World, Calls Try.prog 123 #[.int .i64 sb] w fun e w' => e = .returned (.bool true) ∧ w = w') := fun w => by have := l08Reg_any sb w; rw [t2] at this; exact this
  have T3 : Hid (∀ w : World, Calls Try.prog 123 #[.int .i64 sc] w fun e w' => e = .returned (.bool true) ∧ w = w') := fun w => by have := l08Reg_any sc w; rw [t3] at this; exact this
  have hS := (Bx6.box w (.int .i64 1) (.int .i64 sdst) (.int .i64 sa) (.int .i64 sb) (.int .i64 sc) (.int .i64 sn) 90).drew
  refine wp_region_in _ (by kernel_rfl) (by kernel_rfl) hS ?_
  haveI : Nonempty (WIn (Bx6 w w.heap.size (.int .i64 1) (.int .i64 sdst) (.int .i64 sa) (.int .i64 sb) (.int .i64 sc) (.int .i64 sn))) := ⟨⟨_, hS⟩⟩
  have c0 := fun x => in6_0 (w0 := w) (g := w.heap.size) (v0 := .int .i64 1) (v1 := .int .i64 sdst) (v2 := .int .i64 sa) (v3 := .int .i64 sb) (v4 := .int .i64 sc) (v5 := .int .i64 sn) x
  have c1 := fun x => in6_1 (w0 := w) (g := w.heap.size) (v0 := .int .i64 1) (v1 := .int .i64 sdst) (v2 := .int .i64 sa) (v3 := .int .i64 sb) (v4 := .int .i64 sc) (v5 := .int .i64 sn) x
  have c2 := fun x => in6_2 (w0 := w) (g := w.heap.size) (v0 := .int .i64 1) (v1 := .int .i64 sdst) (v2 := .int .i64 sa) (v3 := .int .i64 sb) (v4 := .int .i64 sc) (v5 := .int .i64 sn) x
  have c3 := fun x => in6_3 (w0 := w) (g := w.heap.size) (v0 := .int .i64 1) (v1 := .int .i64 sdst) (v2 := .int .i64 sa) (v3 := .int .i64 sb) (v4 := .int .i64 sc) (v5 := .int .i64 sn) x
  have c4 := fun x => in6_4 (w0 := w) (g := w.heap.size) (v0 := .int .i64 1) (v1 := .int .i64 sdst) (v2 := .int .i64 sa) (v3 := .int .i64 sb) (v4 := .int .i64 sc) (v5 := .int .i64 sn) x
  have c5 := fun x => in6_5 (w0 := w) (g := w.heap.size) (v0 := .int .i64 1) (v1 := .int .i64 sdst) (v2 := .int .i64 sa) (v3 := .int .i64 sb) (v4 := .int .i64 sc) (v5 := .int .i64 sn) x
  repeat (go_big_quiet_step ((first | (go_at_call 122; exact Calls.in6 _ (HC.out _)) | (go_at_call 123; with_reducible exact Calls.in6s _ (T0.out _)) | (go_at_call 123; with_reducible exact Calls.in6s _ (T1.out _)) | (go_at_call 123; with_reducible exact Calls.in6s _ (T2.out _)) | (go_at_call 123; with_reducible exact Calls.in6s _ (T3.out _)))))
  refine wpQuiet_nil ?_
  rintro _ ⟨x, rfl⟩
  all_goals go_wp2_with (go_at_call 53; refine (l01In_any _ _ _ _).mono ?_; rintro e w' ⟨rfl, rfl⟩)
  all_goals go_ret
  all_goals exact ⟨ret_bool (by rw [HL.out]), x.ok.bel⟩
set_option maxHeartbeats 2000000 in
theorem sStmtOk_c2a (sdst sa sb sc sn : Int) (he : plainS ⟨2, sdst, sa, sb, sc, sn⟩ = ⟨2, sdst, sa, sb, sc, sn⟩) (t0 : inB sdst 0 7 = true) (t1 : inB sa 0 7 = true) (t2 : inB sb 0 7 = true) (t3 : inB sc 0 7 = true) (h5 : sa < 5) (w : World) :
    Calls Try.prog 112 #[stV ⟨2, sdst, sa, sb, sc, sn⟩] w fun e w' => e = .returned (.bool (lastS ⟨2, sdst, sa, sb, sc, sn⟩)) ∧ Below w.heap.size w w' := by
  have HC := Lib.hid (fun w => l08Plain_any ⟨2, sdst, sa, sb, sc, sn⟩ w)
  rw [he] at HC
  clear he
  unfold stV at HC ⊢
  simp only at HC
  have HL : Hid (lastS ⟨2, sdst, sa, sb, sc, sn⟩ = (inB sn 0 3)) := by show _ = _; simp [lastS, h5]
  go_enter Try.func112, Try.ntmps112
  go_wp2_with fail
  have T0 : Hid (∀ w : World, Calls Try.prog 123 #[.int .i64 sdst] w fun e w' => e = .returned (.bool true) ∧ w = w') := fun w => by have := l08Reg_any sdst w; rw [t0] at this; exact this
  have T1 : Hid (∀ w : World, Calls Try.prog 123 #[.int .i64 sa] w fun e w' => e = .returned (.bool true) ∧ w = w') := fun w => by have := l08Reg_any sa w; rw [t1] at this; exact this
  have T2 : Hid (∀ w : World, Calls Try.prog 123 #[.int .i64 sb] w fun e w' => e = .returned (.bool true) ∧ w = w') := fun w => by have := l08Reg_any sb w; rw [t2] at this; exact this
  have T3 : Hid (∀ w : World, Calls Try.prog 123 #[.int .i64 sc] w fun e w' => e = .returned (.bool true) ∧ w = w') := fun w => by have := l08Reg_any sc w; rw [t3] at this; exact this
  have hS := (Bx6.box w (.int .i64 2) (.int .i64 sdst) (.int .i64 sa) (.int .i64 sb) (.int .i64 sc) (.int .i64 sn) 90).drew
  refine wp_region_in _ (by kernel_rfl) (by kernel_rfl) hS ?_
  haveI : Nonempty (WIn (Bx6 w w.heap.size (.int .i64 2) (.int .i64 sdst) (.int .i64 sa) (.int .i64 sb) (.int .i64 sc) (.int .i64 sn))) := ⟨⟨_, hS⟩⟩
  have c0 := fun x => in6_0 (w0 := w) (g := w.heap.size) (v0 := .int .i64 2) (v1 := .int .i64 sdst) (v2 := .int .i64 sa) (v3 := .int .i64 sb) (v4 := .int .i64 sc) (v5 := .int .i64 sn) x
  have c1 := fun x => in6_1 (w0 := w) (g := w.heap.size) (v0 := .int .i64 2) (v1 := .int .i64 sdst) (v2 := .int .i64 sa) (v3 := .int .i64 sb) (v4 := .int .i64 sc) (v5 := .int .i64 sn) x
  have c2 := fun x => in6_2 (w0 := w) (g := w.heap.size) (v0 := .int .i64 2) (v1 := .int .i64 sdst) (v2 := .int .i64 sa) (v3 := .int .i64 sb) (v4 := .int .i64 sc) (v5 := .int .i64 sn) x
  have c3 := fun x => in6_3 (w0 := w) (g := w.heap.size) (v0 := .int .i64 2) (v1 := .int .i64 sdst) (v2 := .int .i64 sa) (v3 := .int .i64 sb) (v4 := .int .i64 sc) (v5 := .int .i64 sn) x
  have c4 := fun x => in6_4 (w0 := w) (g := w.heap.size) (v0 := .int .i64 2) (v1 := .int .i64 sdst) (v2 := .int .i64 sa) (v3 := .int .i64 sb) (v4 := .int .i64 sc) (v5 := .int .i64 sn) x
  have c5 := fun x => in6_5 (w0 := w) (g := w.heap.size) (v0 := .int .i64 2) (v1 := .int .i64 sdst) (v2 := .int .i64 sa) (v3 := .int .i64 sb) (v4 := .int .i64 sc) (v5 := .int .i64 sn) x
  repeat (go_big_quiet_step ((first | (go_at_call 122; exact Calls.in6 _ (HC.out _)) | (go_at_call 123; with_reducible exact Calls.in6s _ (T0.out _)) | (go_at_call 123; with_reducible exact Calls.in6s _ (T1.out _)) | (go_at_call 123; with_reducible exact Calls.in6s _ (T2.out _)) | (go_at_call 123; with_reducible exact Calls.in6s _ (T3.out _)))))
  refine wpQuiet_nil ?_
  rintro _ ⟨x, rfl⟩
  all_goals go_wp2_with (go_at_call 53; refine (l01In_any _ _ _ _).mono ?_; rintro e w' ⟨rfl, rfl⟩)
  all_goals go_ret
  all_goals exact ⟨ret_bool (by rw [HL.out]), x.ok.bel⟩
set_option maxHeartbeats 2000000 in
theorem sStmtOk_c2b (sdst sa sb sc sn : Int) (he : plainS ⟨2, sdst, sa, sb, sc, sn⟩ = ⟨2, sdst, sa, sb, sc, sn⟩) (t0 : inB sdst 0 7 = true) (t1 : inB sa 0 7 = true) (t2 : inB sb 0 7 = true) (t3 : inB sc 0 7 = true) (h5 : ¬ sa < 5) (w : World) :
    Calls Try.prog 112 #[stV ⟨2, sdst, sa, sb, sc, sn⟩] w fun e w' => e = .returned (.bool (lastS ⟨2, sdst, sa, sb, sc, sn⟩)) ∧ Below w.heap.size w w' := by
  have HC := Lib.hid (fun w => l08Plain_any ⟨2, sdst, sa, sb, sc, sn⟩ w)
  rw [he] at HC
  clear he
  unfold stV at HC ⊢
  simp only at HC
  have HL : Hid (lastS ⟨2, sdst, sa, sb, sc, sn⟩ = (false)) := by show _ = _; simp [lastS, h5]
  go_enter Try.func112, Try.ntmps112
  go_wp2_with fail
  have T0 : Hid (∀ w : World, Calls Try.prog 123 #[.int .i64 sdst] w fun e w' => e = .returned (.bool true) ∧ w = w') := fun w => by have := l08Reg_any sdst w; rw [t0] at this; exact this
  have T1 : Hid (∀ w : World, Calls Try.prog 123 #[.int .i64 sa] w fun e w' => e = .returned (.bool true) ∧ w = w') := fun w => by have := l08Reg_any sa w; rw [t1] at this; exact this
  have T2 : Hid (∀ w : World, Calls Try.prog 123 #[.int .i64 sb] w fun e w' => e = .returned (.bool true) ∧ w = w') := fun w => by have := l08Reg_any sb w; rw [t2] at this; exact this
  have T3 : Hid (∀ w : World, Calls Try.prog 123 #[.int .i64 sc] w fun e w' => e = .returned (.bool true) ∧ w = w') := fun w => by have := l08Reg_any sc w; rw [t3] at this; exact this
  have hS := (Bx6.box w (.int .i64 2) (.int .i64 sdst) (.int .i64 sa) (.int .i64 sb) (.int .i64 sc) (.int .i64 sn) 90).drew
  refine wp_region_in _ (by kernel_rfl) (by kernel_rfl) hS ?_
  haveI : Nonempty (WIn (Bx6 w w.heap.size (.int .i64 2) (.int .i64 sdst) (.int .i64 sa) (.int .i64 sb) (.int .i64 sc) (.int .i64 sn))) := ⟨⟨_, hS⟩⟩
  have c0 := fun x => in6_0 (w0 := w) (g := w.heap.size) (v0 := .int .i64 2) (v1 := .int .i64 sdst) (v2 := .int .i64 sa) (v3 := .int .i64 sb) (v4 := .int .i64 sc) (v5 := .int .i64 sn) x
  have c1 := fun x => in6_1 (w0 := w) (g := w.heap.size) (v0 := .int .i64 2) (v1 := .int .i64 sdst) (v2 := .int .i64 sa) (v3 := .int .i64 sb) (v4 := .int .i64 sc) (v5 := .int .i64 sn) x
  have c2 := fun x => in6_2 (w0 := w) (g := w.heap.size) (v0 := .int .i64 2) (v1 := .int .i64 sdst) (v2 := .int .i64 sa) (v3 := .int .i64 sb) (v4 := .int .i64 sc) (v5 := .int .i64 sn) x
  have c3 := fun x => in6_3 (w0 := w) (g := w.heap.size) (v0 := .int .i64 2) (v1 := .int .i64 sdst) (v2 := .int .i64 sa) (v3 := .int .i64 sb) (v4 := .int .i64 sc) (v5 := .int .i64 sn) x
  have c4 := fun x => in6_4 (w0 := w) (g := w.heap.size) (v0 := .int .i64 2) (v1 := .int .i64 sdst) (v2 := .int .i64 sa) (v3 := .int .i64 sb) (v4 := .int .i64 sc) (v5 := .int .i64 sn) x
  have c5 := fun x => in6_5 (w0 := w) (g := w.heap.size) (v0 := .int .i64 2) (v1 := .int .i64 sdst) (v2 := .int .i64 sa) (v3 := .int .i64 sb) (v4 := .int .i64 sc) (v5 := .int .i64 sn) x
  repeat (go_big_quiet_step ((first | (go_at_call 122; exact Calls.in6 _ (HC.out _)) | (go_at_call 123; with_reducible exact Calls.in6s _ (T0.out _)) | (go_at_call 123; with_reducible exact Calls.in6s _ (T1.out _)) | (go_at_call 123; with_reducible exact Calls.in6s _ (T2.out _)) | (go_at_call 123; with_reducible exact Calls.in6s _ (T3.out _)))))
  refine wpQuiet_nil ?_
  rintro _ ⟨x, rfl⟩
  all_goals go_wp2_with (go_at_call 53; refine (l01In_any _ _ _ _).mono ?_; rintro e w' ⟨rfl, rfl⟩)
  all_goals go_ret
  all_goals exact ⟨ret_bool (by rw [HL.out]), x.ok.bel⟩
set_option maxHeartbeats 2000000 in
theorem sStmtOk_c12 (sdst sa sb sc sn : Int) (he : plainS ⟨12, sdst, sa, sb, sc, sn⟩ = ⟨12, sdst, sa, sb, sc, sn⟩) (t0 : inB sdst 0 7 = true) (t1 : inB sa 0 7 = true) (t2 : inB sb 0 7 = true) (t3 : inB sc 0 7 = true) (w : World) :
    Calls Try.prog 112 #[stV ⟨12, sdst, sa, sb, sc, sn⟩] w fun e w' => e = .returned (.bool (lastS ⟨12, sdst, sa, sb, sc, sn⟩)) ∧ Below w.heap.size w w' := by
  have HC := Lib.hid (fun w => l08Plain_any ⟨12, sdst, sa, sb, sc, sn⟩ w)
  rw [he] at HC
  clear he
  unfold stV at HC ⊢
  simp only at HC
  have HL : Hid (lastS ⟨12, sdst, sa, sb, sc, sn⟩ = (inB sn 1 8)) := by show _ = _; simp [lastS]
  go_enter Try.func112, Try.ntmps112
  go_wp2_with fail
  have T0 : Hid (∀ w : World, Calls Try.prog 123 #[.int .i64 sdst] w fun e w' => e = .returned (.bool true) ∧ w = w') := fun w => by have := l08Reg_any sdst w; rw [t0] at this; exact this
  have T1 : Hid (∀ w : World, Calls Try.prog 123 #[.int .i64 sa] w fun e w' => e = .returned (.bool true) ∧ w = w') := fun w => by have := l08Reg_any sa w; rw [t1] at this; exact this
  have T2 : Hid (∀ w : World, Calls Try.prog 123 #[.int .i64 sb] w fun e w' => e = .returned (.bool true) ∧ w = w') := fun w => by have := l08Reg_any sb w; rw [t2] at this; exact this
  have T3 : Hid (∀ w : World, Calls Try.prog 123 #[.int .i64 sc] w fun e w' => e = .returned (.bool true) ∧ w = w') := fun w => by have := l08Reg_any sc w; rw [t3] at this; exact this
  have hS := (Bx6.box w (.int .i64 12) (.int .i64 sdst) (.int .i64 sa) (.int .i64 sb) (.int .i64 sc) (.int .i64 sn) 90).drew
  refine wp_region_in _ (by kernel_rfl) (by kernel_rfl) hS ?_
  haveI : Nonempty (WIn (Bx6 w w.heap.size (.int .i64 12) (.int .i64 sdst) (.int .i64 sa) (.int .i64 sb) (.int .i64 sc) (.int .i64 sn))) := ⟨⟨_, hS⟩⟩
  have c0 := fun x => in6_0 (w0 := w) (g := w.heap.size) (v0 := .int .i64 12) (v1 := .int .i64 sdst) (v2 := .int .i64 sa) (v3 := .int .i64 sb) (v4 := .int .i64 sc) (v5 := .int .i64 sn) x
  have c1 := fun x => in6_1 (w0 := w) (g := w.heap.size) (v0 := .int .i64 12) (v1 := .int .i64 sdst) (v2 := .int .i64 sa) (v3 := .int .i64 sb) (v4 := .int .i64 sc) (v5 := .int .i64 sn) x
  have c2 := fun x => in6_2 (w0 := w) (g := w.heap.size) (v0 := .int .i64 12) (v1 := .int .i64 sdst) (v2 := .int .i64 sa) (v3 := .int .i64 sb) (v4 := .int .i64 sc) (v5 := .int .i64 sn) x
  have c3 := fun x => in6_3 (w0 := w) (g := w.heap.size) (v0 := .int .i64 12) (v1 := .int .i64 sdst) (v2 := .int .i64 sa) (v3 := .int .i64 sb) (v4 := .int .i64 sc) (v5 := .int .i64 sn) x
  have c4 := fun x => in6_4 (w0 := w) (g := w.heap.size) (v0 := .int .i64 12) (v1 := .int .i64 sdst) (v2 := .int .i64 sa) (v3 := .int .i64 sb) (v4 := .int .i64 sc) (v5 := .int .i64 sn) x
  have c5 := fun x => in6_5 (w0 := w) (g := w.heap.size) (v0 := .int .i64 12) (v1 := .int .i64 sdst) (v2 := .int .i64 sa) (v3 := .int .i64 sb) (v4 := .int .i64 sc) (v5 := .int .i64 sn) x
  repeat (go_big_quiet_step ((first | (go_at_call 122; exact Calls.in6 _ (HC.out _)) | (go_at_call 123; with_reducible exact Calls.in6s _ (T0.out _)) | (go_at_call 123; with_reducible exact Calls.in6s _ (T1.out _)) | (go_at_call 123; with_reducible exact Calls.in6s _ (T2.out _)) | (go_at_call 123; with_reducible exact Calls.in6s _ (T3.out _)))))
  refine wpQuiet_nil ?_
  rintro _ ⟨x, rfl⟩
  all_goals go_wp2_with (go_at_call 53; refine (l01In_any _ _ _ _).mono ?_; rintro e w' ⟨rfl, rfl⟩)
  all_goals go_ret
  all_goals exact ⟨ret_bool (by rw [HL.out]), x.ok.bel⟩
set_option maxHeartbeats 2000000 in
theorem sStmtOk_celse (sop sdst sa sb sc sn : Int) (he : plainS ⟨sop, sdst, sa, sb, sc, sn⟩ = ⟨sop, sdst, sa, sb, sc, sn⟩) (t0 : inB sdst 0 7 = true) (t1 : inB sa 0 7 = true) (t2 : inB sb 0 7 = true) (t3 : inB sc 0 7 = true) (p1 : ¬ sop = 1) (p2 : ¬ sop = 2) (p12 : ¬ sop = 12) (w : World) :
    Calls Try.prog 112 #[stV ⟨sop, sdst, sa, sb, sc, sn⟩] w fun e w' => e = .returned (.bool (lastS ⟨sop, sdst, sa, sb, sc, sn⟩)) ∧ Below w.heap.size w w' := by
  have HC := Lib.hid (fun w => l08Plain_any ⟨sop, sdst, sa, sb, sc, sn⟩ w)
  rw [he] at HC
  clear he
  unfold stV at HC ⊢
  simp only at HC
  have HL : Hid (lastS ⟨sop, sdst, sa, sb, sc, sn⟩ = (inB sop 3 13)) := by show _ = _; simp [lastS, p1, p2, p12]
  have q1 : (sop == 1) = false := by simp; omega
  have q2 : (sop == 2) = false := by simp; omega
  have q12 : (sop == 12) = false := by simp; omega
  clear p1 p2 p12
  go_enter Try.func112, Try.ntmps112
  go_wp2_with fail
  have T0 : Hid (∀ w : World, Calls Try.prog 123 #[.int .i64 sdst] w fun e w' => e = .returned (.bool true) ∧ w = w') := fun w => by have := l08Reg_any sdst w; rw [t0] at this; exact this
  have T1 : Hid (∀ w : World, Calls Try.prog 123 #[.int .i64 sa] w fun e w' => e = .returned (.bool true) ∧ w = w') := fun w => by have := l08Reg_any sa w; rw [t1] at this; exact this
  have T2 : Hid (∀ w : World, Calls Try.prog 123 #[.int .i64 sb] w fun e w' => e = .returned (.bool true) ∧ w = w') := fun w => by have := l08Reg_any sb w; rw [t2] at this; exact this
  have T3 : Hid (∀ w : World, Calls Try.prog 123 #[.int .i64 sc] w fun e w' => e = .returned (.bool true) ∧ w = w') := fun w => by have := l08Reg_any sc w; rw [t3] at this; exact this
  have hS := (Bx6.box w (.int .i64 sop) (.int .i64 sdst) (.int .i64 sa) (.int .i64 sb) (.int .i64 sc) (.int .i64 sn) 90).drew
  refine wp_region_in _ (by kernel_rfl) (by kernel_rfl) hS ?_
  haveI : Nonempty (WIn (Bx6 w w.heap.size (.int .i64 sop) (.int .i64 sdst) (.int .i64 sa) (.int .i64 sb) (.int .i64 sc) (.int .i64 sn))) := ⟨⟨_, hS⟩⟩
  have c0 := fun x => in6_0 (w0 := w) (g := w.heap.size) (v0 := .int .i64 sop) (v1 := .int .i64 sdst) (v2 := .int .i64 sa) (v3 := .int .i64 sb) (v4 := .int .i64 sc) (v5 := .int .i64 sn) x
  have c1 := fun x => in6_1 (w0 := w) (g := w.heap.size) (v0 := .int .i64 sop) (v1 := .int .i64 sdst) (v2 := .int .i64 sa) (v3 := .int .i64 sb) (v4 := .int .i64 sc) (v5 := .int .i64 sn) x
  have c2 := fun x => in6_2 (w0 := w) (g := w.heap.size) (v0 := .int .i64 sop) (v1 := .int .i64 sdst) (v2 := .int .i64 sa) (v3 := .int .i64 sb) (v4 := .int .i64 sc) (v5 := .int .i64 sn) x
  have c3 := fun x => in6_3 (w0 := w) (g := w.heap.size) (v0 := .int .i64 sop) (v1 := .int .i64 sdst) (v2 := .int .i64 sa) (v3 := .int .i64 sb) (v4 := .int .i64 sc) (v5 := .int .i64 sn) x
  have c4 := fun x => in6_4 (w0 := w) (g := w.heap.size) (v0 := .int .i64 sop) (v1 := .int .i64 sdst) (v2 := .int .i64 sa) (v3 := .int .i64 sb) (v4 := .int .i64 sc) (v5 := .int .i64 sn) x
  have c5 := fun x => in6_5 (w0 := w) (g := w.heap.size) (v0 := .int .i64 sop) (v1 := .int .i64 sdst) (v2 := .int .i64 sa) (v3 := .int .i64 sb) (v4 := .int .i64 sc) (v5 := .int .i64 sn) x
  repeat (go_big_quiet_step ((first | (go_at_call 122; exact Calls.in6 _ (HC.out _)) | (go_at_call 123; with_reducible exact Calls.in6s _ (T0.out _)) | (go_at_call 123; with_reducible exact Calls.in6s _ (T1.out _)) | (go_at_call 123; with_reducible exact Calls.in6s _ (T2.out _)) | (go_at_call 123; with_reducible exact Calls.in6s _ (T3.out _)))))
  refine wpQuiet_nil ?_
  rintro _ ⟨x, rfl⟩
  all_goals go_wp2_with (go_at_call 53; refine (l01In_any _ _ _ _).mono ?_; rintro e w' ⟨rfl, rfl⟩)
  all_goals go_ret
  all_goals exact ⟨ret_bool (by rw [HL.out]), x.ok.bel⟩
end Go.Proofs.Ytfcijloiebnloaa

/- SStmtC -/
namespace Go.Proofs.Ytfcijloiebnloaa
open Go.RowKit

theorem stOk_alt (s : St) : stOk s = (eqS s (plainS s) && regsS s && lastS s) := by
  obtain ⟨op, dst, a, b, c, n⟩ := s
  rw [Bool.eq_iff_iff]
  by_cases p1 : op = 1
  · subst p1; simp [stOk, eqS, plainS, regsS, lastS, inB]; omega
  by_cases p2 : op = 2
  · subst p2; simp [stOk, eqS, plainS, regsS, lastS, inB]; omega
  cases hop : inB op 3 9
  case true =>
    have hh := inB_iff.1 hop
    simp [stOk, eqS, plainS, regsS, lastS, hop, p1, p2, show ¬ op = 12 from (by omega)]; simp [inB]; omega
  by_cases p10 : op = 10
  · subst p10; simp [stOk, eqS, plainS, regsS, lastS, inB]; try omega
  by_cases p11 : op = 11
  · subst p11; simp [stOk, eqS, plainS, regsS, lastS, inB]; try omega
  by_cases p12 : op = 12
  · subst p12; simp [stOk, eqS, plainS, regsS, lastS, inB]; omega
  have hh := inB_false.1 hop
  simp [stOk, eqS, plainS, regsS, lastS, hop, p1, p2, p10, p11, p12]; simp [inB]; omega

theorem sStmtOk_any (s : St) (w : World) :
    Calls Try.prog 112 #[stV s] w fun e w' => e = .returned (.bool (stOk s)) ∧ Below w.heap.size w w' := by
  rw [stOk_alt]
  obtain ⟨sop, sdst, sa, sb, sc, sn⟩ := s
  obtain ⟨t, ht⟩ : ∃ t, plainS ⟨sop, sdst, sa, sb, sc, sn⟩ = t := ⟨_, rfl⟩
  obtain ⟨op, dst, a, b, c, n⟩ := t
  rw [ht]
  have fin : ∀ {v : Bool}, v = (eqS ⟨sop, sdst, sa, sb, sc, sn⟩ ⟨op, dst, a, b, c, n⟩ && regsS ⟨sop, sdst, sa, sb, sc, sn⟩ && lastS ⟨sop, sdst, sa, sb, sc, sn⟩) →
      (Calls Try.prog 112 #[stV ⟨sop, sdst, sa, sb, sc, sn⟩] w fun e w' => e = .returned (.bool v) ∧ Below w.heap.size w w') →
      (Calls Try.prog 112 #[stV ⟨sop, sdst, sa, sb, sc, sn⟩] w fun e w' => e = .returned (.bool (eqS ⟨sop, sdst, sa, sb, sc, sn⟩ ⟨op, dst, a, b, c, n⟩ && regsS ⟨sop, sdst, sa, sb, sc, sn⟩ && lastS ⟨sop, sdst, sa, sb, sc, sn⟩)) ∧ Below w.heap.size w w') := fun h c => by rw [← h]; exact c
  cases d0 : (sop == op)
  · exact fin (by simp [eqS, d0]) (sStmtOk_ne0 sop sdst sa sb sc sn op dst a b c n ht d0 w)
  obtain rfl : sop = op := by simpa using d0
  cases d1 : (sdst == dst)
  · exact fin (by simp [eqS, d1]) (sStmtOk_ne1 sop sdst sa sb sc sn dst a b c n ht d1 w)
  obtain rfl : sdst = dst := by simpa using d1
  cases d2 : (sa == a)
  · exact fin (by simp [eqS, d2]) (sStmtOk_ne2 sop sdst sa sb sc sn a b c n ht d2 w)
  obtain rfl : sa = a := by simpa using d2
  cases d3 : (sb == b)
  · exact fin (by simp [eqS, d3]) (sStmtOk_ne3 sop sdst sa sb sc sn b c n ht d3 w)
  obtain rfl : sb = b := by simpa using d3
  cases d4 : (sc == c)
  · exact fin (by simp [eqS, d4]) (sStmtOk_ne4 sop sdst sa sb sc sn c n ht d4 w)
  obtain rfl : sc = c := by simpa using d4
  cases d5 : (sn == n)
  · exact fin (by simp [eqS, d5]) (sStmtOk_ne5 sop sdst sa sb sc sn n ht d5 w)
  obtain rfl : sn = n := by simpa using d5
  cases t0 : inB sdst 0 7
  · exact fin (by simp [regsS, t0]) (sStmtOk_eq0 sop sdst sa sb sc sn ht t0 w)
  cases t1 : inB sa 0 7
  · exact fin (by simp [regsS, t1]) (sStmtOk_eq1 sop sdst sa sb sc sn ht t0 t1 w)
  cases t2 : inB sb 0 7
  · exact fin (by simp [regsS, t2]) (sStmtOk_eq2 sop sdst sa sb sc sn ht t0 t1 t2 w)
  cases t3 : inB sc 0 7
  · exact fin (by simp [regsS, t3]) (sStmtOk_eq3 sop sdst sa sb sc sn ht t0 t1 t2 t3 w)
  refine fin (v := lastS ⟨sop, sdst, sa, sb, sc, sn⟩) (by simp [eqS, regsS, t0, t1, t2, t3]) ?_
  by_cases p1 : sop = 1
  · subst p1; exact sStmtOk_c1 sdst sa sb sc sn ht t0 t1 t2 t3 w
  by_cases p2 : sop = 2
  · subst p2
    by_cases h5 : sa < 5
    · exact sStmtOk_c2a sdst sa sb sc sn ht t0 t1 t2 t3 h5 w
    · exact sStmtOk_c2b sdst sa sb sc sn ht t0 t1 t2 t3 h5 w
  by_cases p12 : sop = 12
  · subst p12; exact sStmtOk_c12 sdst sa sb sc sn ht t0 t1 t2 t3 w
  exact sStmtOk_celse sop sdst sa sb sc sn ht t0 t1 t2 t3 p1 p2 p12 w
end Go.Proofs.Ytfcijloiebnloaa

/- ProgOk -/
namespace Go.Proofs.Ytfcijloiebnloaa
open Go.RowKit

set_option maxHeartbeats 2000000 in
theorem iProgramOk_any (xs : List St) (ad : Option Addr) (cp : Nat) (w : World) (hm : xs.length ≤ maxLen) (hr : RdC w ad (stCells xs)) :
    Calls Try.prog 86 #[.slice ad xs.length cp] w fun e w' => e = .returned (.bool (progOk xs)) ∧ Below w.heap.size w w' := by
  unfold maxLen at hm
  by_cases h40 : xs.length ≤ 40
  case neg =>
    have HF : Hid (progOk xs = false) := by show _ = _; simp [progOk, h40]
    go_enter Try.func86, Try.ntmps86
    go_wp2_with fail
    go_ret
    exact ⟨ret_bool HF.out.symm, Below.refl _ _⟩
  go_enter Try.func86, Try.ntmps86
  go_wp2_with fail
  go_loopw [3, 11] (fun d i wr => ∃ (k : Nat) (dd : Int), k ≤ xs.length ∧ i = .int .i64 k ∧ d = .int .i64 dd ∧ depF 0 (xs.take k) = some dd ∧ Below w.heap.size w wr) (fun _ i _ => xs.length - (intOf i).toNat)
  case atStart => exact ⟨0, 0, Nat.zero_le _, rfl, rfl, rfl, Below.refl _ _⟩
  case round =>
    obtain ⟨k, dd, hk, rfl, rfl, hd, hbw⟩ := hrel
    obtain ⟨d0, d3⟩ := depF_lo hd (by omega)
    by_cases hlt : k < xs.length
    · obtain ⟨b, off, op, dst, sa, sb, sc, sn, rfl, hbl, hx, c0, c1, c2, c3, c4, c5⟩ := (hr.below hbw).st k hlt
      have hbs := hbw.size
      cases hs : stOk ⟨op, dst, sa, sb, sc, sn⟩
      · have HF := Lib.hid (depF_bad hx hd (.inl hs))
        have HS := Lib.hid hs
        clear hd hx hs hr
        go_wp2_with (go_at_call 114; refine (iStmtOk_any ⟨op, dst, sa, sb, sc, sn⟩ _).mono ?_; rintro e w1 ⟨rfl, hb⟩; rw [HS.out]; have k1_0 := bel_keeps hb (b := wr.heap.size) (o := 0) (v := .int .i64 op) (by go_simp); have z1 := hb.size; (try simp at z1))
        go_ret
        exact ⟨ret_bool HF.out.symm, (by (repeat (first | with_reducible exact Below.refl _ _ | (with_reducible refine bel_next ?_ ?_ (by assumption)) | (with_reducible refine Below.alloc ?_ ?_ _) | (with_reducible refine Below.drew ?_) | (with_reducible refine below_drewN ?_ _) | (with_reducible refine Below.setCell ?_ ?_ _))) <;> (first | omega | (simp; done) | (simp; omega)))⟩
      · have HS := Lib.hid hs
        have HX := Lib.hid hx
        have HD := Lib.hid hd
        clear hd hx hs hr
        by_cases p12 : op = 12
        case pos =>
          subst p12
          have HE : Hid (stepD dd ⟨12, dst, sa, sb, sc, sn⟩ = dd + 1) := by show _ = _; simp [stepD]
          cases hi : inB (dd + 1) 0 3
          · have HF := Lib.hid (depF_bad HX.out HD.out (.inr (by rw [HE.out]; exact hi)))
            have HI := Lib.hid hi
            clear hi
            go_wp2_with (first | (go_at_call 114; refine (iStmtOk_any ⟨12, dst, sa, sb, sc, sn⟩ _).mono ?_; rintro e w1 ⟨rfl, hb⟩; rw [HS.out]; have k1_0 := bel_keeps hb (b := wr.heap.size) (o := 0) (v := .int .i64 12) (by go_simp); have z1 := hb.size; (try simp at z1)) | (go_at_call 65; refine (within_any _ _ _ _).mono ?_; rintro e w' ⟨rfl, rfl⟩; rw [HI.out]))
            go_ret
            exact ⟨ret_bool HF.out.symm, (by (repeat (first | with_reducible exact Below.refl _ _ | (with_reducible refine bel_next ?_ ?_ (by assumption)) | (with_reducible refine Below.alloc ?_ ?_ _) | (with_reducible refine Below.drew ?_) | (with_reducible refine below_drewN ?_ _) | (with_reducible refine Below.setCell ?_ ?_ _))) <;> (first | omega | (simp; done) | (simp; omega)))⟩
          · have HF := Lib.hid (depF_snoc HX.out HD.out HS.out (by rw [HE.out]; exact hi))
            rw [HE.out] at HF
            have HI := Lib.hid hi
            clear hi
            go_wp2_with (first | (go_at_call 114; refine (iStmtOk_any ⟨12, dst, sa, sb, sc, sn⟩ _).mono ?_; rintro e w1 ⟨rfl, hb⟩; rw [HS.out]; have k1_0 := bel_keeps hb (b := wr.heap.size) (o := 0) (v := .int .i64 12) (by go_simp); have z1 := hb.size; (try simp at z1)) | (go_at_call 65; refine (within_any _ _ _ _).mono ?_; rintro e w' ⟨rfl, rfl⟩; rw [HI.out]))
            go_roundw
            case rel => exact ⟨k + 1, _, by omega, by go_num, rfl, HF.out, (by (repeat (first | with_reducible exact Below.refl _ _ | (with_reducible refine bel_next ?_ ?_ (by assumption)) | (with_reducible refine Below.alloc ?_ ?_ _) | (with_reducible refine Below.drew ?_) | (with_reducible refine below_drewN ?_ _) | (with_reducible refine Below.setCell ?_ ?_ _))) <;> (first | omega | (simp; done) | (simp; omega)))⟩
            case measure => simp [intOf]; omega
        by_cases p13 : op = 13
        case pos =>
          subst p13
          have HE : Hid (stepD dd ⟨13, dst, sa, sb, sc, sn⟩ = dd - 1) := by show _ = _; simp [stepD]
          cases hi : inB (dd - 1) 0 3
          · have HF := Lib.hid (depF_bad HX.out HD.out (.inr (by rw [HE.out]; exact hi)))
            have HI := Lib.hid hi
            clear hi
            go_wp2_with (first | (go_at_call 114; refine (iStmtOk_any ⟨13, dst, sa, sb, sc, sn⟩ _).mono ?_; rintro e w1 ⟨rfl, hb⟩; rw [HS.out]; have k1_0 := bel_keeps hb (b := wr.heap.size) (o := 0) (v := .int .i64 13) (by go_simp); have z1 := hb.size; (try simp at z1)) | (go_at_call 65; refine (within_any _ _ _ _).mono ?_; rintro e w' ⟨rfl, rfl⟩; rw [HI.out]))
            go_ret
            exact ⟨ret_bool HF.out.symm, (by (repeat (first | with_reducible exact Below.refl _ _ | (with_reducible refine bel_next ?_ ?_ (by assumption)) | (with_reducible refine Below.alloc ?_ ?_ _) | (with_reducible refine Below.drew ?_) | (with_reducible refine below_drewN ?_ _) | (with_reducible refine Below.setCell ?_ ?_ _))) <;> (first | omega | (simp; done) | (simp; omega)))⟩
          · have HF := Lib.hid (depF_snoc HX.out HD.out HS.out (by rw [HE.out]; exact hi))
            rw [HE.out] at HF
            have HI := Lib.hid hi
            clear hi
            go_wp2_with (first | (go_at_call 114; refine (iStmtOk_any ⟨13, dst, sa, sb, sc, sn⟩ _).mono ?_; rintro e w1 ⟨rfl, hb⟩; rw [HS.out]; have k1_0 := bel_keeps hb (b := wr.heap.size) (o := 0) (v := .int .i64 13) (by go_simp); have z1 := hb.size; (try simp at z1)) | (go_at_call 65; refine (within_any _ _ _ _).mono ?_; rintro e w' ⟨rfl, rfl⟩; rw [HI.out]))
            go_roundw
            case rel => exact ⟨k + 1, _, by omega, by go_num, rfl, HF.out, (by (repeat (first | with_reducible exact Below.refl _ _ | (with_reducible refine bel_next ?_ ?_ (by assumption)) | (with_reducible refine Below.alloc ?_ ?_ _) | (with_reducible refine Below.drew ?_) | (with_reducible refine below_drewN ?_ _) | (with_reducible refine Below.setCell ?_ ?_ _))) <;> (first | omega | (simp; done) | (simp; omega)))⟩
            case measure => simp [intOf]; omega
        have HE : Hid (stepD dd ⟨op, dst, sa, sb, sc, sn⟩ = dd) := by show _ = _; simp [stepD, p12, p13]
        have q12 : (op == 12) = false := by simp; omega
        have q13 : (op == 13) = false := by simp; omega
        clear p12 p13
        cases hi : inB (dd) 0 3
        · have HF := Lib.hid (depF_bad HX.out HD.out (.inr (by rw [HE.out]; exact hi)))
          have HI := Lib.hid hi
          clear hi
          go_wp2_with (first | (go_at_call 114; refine (iStmtOk_any ⟨op, dst, sa, sb, sc, sn⟩ _).mono ?_; rintro e w1 ⟨rfl, hb⟩; rw [HS.out]; have k1_0 := bel_keeps hb (b := wr.heap.size) (o := 0) (v := .int .i64 op) (by go_simp); have z1 := hb.size; (try simp at z1)) | (go_at_call 65; refine (within_any _ _ _ _).mono ?_; rintro e w' ⟨rfl, rfl⟩; rw [HI.out]))
          go_ret
          exact ⟨ret_bool HF.out.symm, (by (repeat (first | with_reducible exact Below.refl _ _ | (with_reducible refine bel_next ?_ ?_ (by assumption)) | (with_reducible refine Below.alloc ?_ ?_ _) | (with_reducible refine Below.drew ?_) | (with_reducible refine below_drewN ?_ _) | (with_reducible refine Below.setCell ?_ ?_ _))) <;> (first | omega | (simp; done) | (simp; omega)))⟩
        · have HF := Lib.hid (depF_snoc HX.out HD.out HS.out (by rw [HE.out]; exact hi))
          rw [HE.out] at HF
          have HI := Lib.hid hi
          clear hi
          go_wp2_with (first | (go_at_call 114; refine (iStmtOk_any ⟨op, dst, sa, sb, sc, sn⟩ _).mono ?_; rintro e w1 ⟨rfl, hb⟩; rw [HS.out]; have k1_0 := bel_keeps hb (b := wr.heap.size) (o := 0) (v := .int .i64 op) (by go_simp); have z1 := hb.size; (try simp at z1)) | (go_at_call 65; refine (within_any _ _ _ _).mono ?_; rintro e w' ⟨rfl, rfl⟩; rw [HI.out]))
          go_roundw
          case rel => exact ⟨k + 1, _, by omega, by go_num, rfl, HF.out, (by (repeat (first | with_reducible exact Below.refl _ _ | (with_reducible refine bel_next ?_ ?_ (by assumption)) | (with_reducible refine Below.alloc ?_ ?_ _) | (with_reducible refine Below.drew ?_) | (with_reducible refine below_drewN ?_ _) | (with_reducible refine Below.setCell ?_ ?_ _))) <;> (first | omega | (simp; done) | (simp; omega)))⟩
          case measure => simp [intOf]; omega
    · have HF := Lib.hid (progOk_end hd (by omega))
      clear hd
      go_wp2_with fail
      all_goals go_ret
      all_goals exact ⟨ret_bool (by rw [HF.out]; simp [*] <;> omega), (by (repeat (first | with_reducible exact Below.refl _ _ | (with_reducible refine bel_next ?_ ?_ (by assumption)) | (with_reducible refine Below.alloc ?_ ?_ _) | (with_reducible refine Below.drew ?_) | (with_reducible refine below_drewN ?_ _) | (with_reducible refine Below.setCell ?_ ?_ _))) <;> (first | omega | (simp; done) | (simp; omega)))⟩
set_option maxHeartbeats 2000000 in
theorem sProgramOk_any (xs : List St) (ad : Option Addr) (cp : Nat) (w : World) (hm : xs.length ≤ maxLen) (hr : RdC w ad (stCells xs)) :
    Calls Try.prog 117 #[.slice ad xs.length cp] w fun e w' => e = .returned (.bool (progOk xs)) ∧ Below w.heap.size w w' := by
  unfold maxLen at hm
  go_enter Try.func117, Try.ntmps117
  go_wp2_with fail
  go_loopw [3, 4] (fun d i wr => ∃ (k : Nat) (dd : Int), k ≤ xs.length ∧ i = .int .i64 k ∧ d = .int .i64 dd ∧ depF 0 (xs.take k) = some dd ∧ Below w.heap.size w wr) (fun _ i _ => xs.length - (intOf i).toNat)
  case atStart => exact ⟨0, 0, Nat.zero_le _, rfl, rfl, rfl, Below.refl _ _⟩
  case round =>
    obtain ⟨k, dd, hk, rfl, rfl, hd, hbw⟩ := hrel
    obtain ⟨d0, d3⟩ := depF_lo hd (by omega)
    by_cases hlt : k < xs.length
    · obtain ⟨b, off, op, dst, sa, sb, sc, sn, rfl, hbl, hx, c0, c1, c2, c3, c4, c5⟩ := (hr.below hbw).st k hlt
      have hbs := hbw.size
      cases hs : stOk ⟨op, dst, sa, sb, sc, sn⟩
      · have HF := Lib.hid (depF_bad hx hd (.inl hs))
        have HS := Lib.hid hs
        clear hd hx hs hr
        go_wp2_with (go_at_call 112; refine (sStmtOk_any ⟨op, dst, sa, sb, sc, sn⟩ _).mono ?_; rintro e w1 ⟨rfl, hb⟩; rw [HS.out]; have k1_0 := bel_keeps hb c0; have z1 := hb.size; (try simp at z1))
        go_ret
        exact ⟨ret_bool HF.out.symm, (by (repeat (first | with_reducible exact Below.refl _ _ | (with_reducible refine bel_next ?_ ?_ (by assumption)) | (with_reducible refine Below.alloc ?_ ?_ _) | (with_reducible refine Below.drew ?_) | (with_reducible refine below_drewN ?_ _) | (with_reducible refine Below.setCell ?_ ?_ _))) <;> (first | omega | (simp; done) | (simp; omega)))⟩
      · have HS := Lib.hid hs
        have HX := Lib.hid hx
        have HD := Lib.hid hd
        clear hd hx hs hr
        by_cases p12 : op = 12
        case pos =>
          subst p12
          have HE : Hid (stepD dd ⟨12, dst, sa, sb, sc, sn⟩ = dd + 1) := by show _ = _; simp [stepD]
          cases hi : inB (dd + 1) 0 3
          · have HF := Lib.hid (depF_bad HX.out HD.out (.inr (by rw [HE.out]; exact hi)))
            have HI := Lib.hid hi
            clear hi
            go_wp2_with (first | (go_at_call 112; refine (sStmtOk_any ⟨12, dst, sa, sb, sc, sn⟩ _).mono ?_; rintro e w1 ⟨rfl, hb⟩; rw [HS.out]; have k1_0 := bel_keeps hb c0; have z1 := hb.size; (try simp at z1)) | (go_at_call 53; refine (l01In_any _ _ _ _).mono ?_; rintro e w' ⟨rfl, rfl⟩; rw [HI.out]))
            go_ret
            exact ⟨ret_bool HF.out.symm, (by (repeat (first | with_reducible exact Below.refl _ _ | (with_reducible refine bel_next ?_ ?_ (by assumption)) | (with_reducible refine Below.alloc ?_ ?_ _) | (with_reducible refine Below.drew ?_) | (with_reducible refine below_drewN ?_ _) | (with_reducible refine Below.setCell ?_ ?_ _))) <;> (first | omega | (simp; done) | (simp; omega)))⟩
          · have HF := Lib.hid (depF_snoc HX.out HD.out HS.out (by rw [HE.out]; exact hi))
            rw [HE.out] at HF
            have HI := Lib.hid hi
            clear hi
            go_wp2_with (first | (go_at_call 112; refine (sStmtOk_any ⟨12, dst, sa, sb, sc, sn⟩ _).mono ?_; rintro e w1 ⟨rfl, hb⟩; rw [HS.out]; have k1_0 := bel_keeps hb c0; have z1 := hb.size; (try simp at z1)) | (go_at_call 53; refine (l01In_any _ _ _ _).mono ?_; rintro e w' ⟨rfl, rfl⟩; rw [HI.out]))
            go_roundw
            case rel => exact ⟨k + 1, _, by omega, by go_num, rfl, HF.out, (by (repeat (first | with_reducible exact Below.refl _ _ | (with_reducible refine bel_next ?_ ?_ (by assumption)) | (with_reducible refine Below.alloc ?_ ?_ _) | (with_reducible refine Below.drew ?_) | (with_reducible refine below_drewN ?_ _) | (with_reducible refine Below.setCell ?_ ?_ _))) <;> (first | omega | (simp; done) | (simp; omega)))⟩
            case measure => simp [intOf]; omega
        by_cases p13 : op = 13
        case pos =>
          subst p13
          have HE : Hid (stepD dd ⟨13, dst, sa, sb, sc, sn⟩ = dd - 1) := by show _ = _; simp [stepD]
          cases hi : inB (dd - 1) 0 3
          · have HF := Lib.hid (depF_bad HX.out HD.out (.inr (by rw [HE.out]; exact hi)))
            have HI := Lib.hid hi
            clear hi
            go_wp2_with (first | (go_at_call 112; refine (sStmtOk_any ⟨13, dst, sa, sb, sc, sn⟩ _).mono ?_; rintro e w1 ⟨rfl, hb⟩; rw [HS.out]; have k1_0 := bel_keeps hb c0; have z1 := hb.size; (try simp at z1)) | (go_at_call 53; refine (l01In_any _ _ _ _).mono ?_; rintro e w' ⟨rfl, rfl⟩; rw [HI.out]))
            go_ret
            exact ⟨ret_bool HF.out.symm, (by (repeat (first | with_reducible exact Below.refl _ _ | (with_reducible refine bel_next ?_ ?_ (by assumption)) | (with_reducible refine Below.alloc ?_ ?_ _) | (with_reducible refine Below.drew ?_) | (with_reducible refine below_drewN ?_ _) | (with_reducible refine Below.setCell ?_ ?_ _))) <;> (first | omega | (simp; done) | (simp; omega)))⟩
          · have HF := Lib.hid (depF_snoc HX.out HD.out HS.out (by rw [HE.out]; exact hi))
            rw [HE.out] at HF
            have HI := Lib.hid hi
            clear hi
            go_wp2_with (first | (go_at_call 112; refine (sStmtOk_any ⟨13, dst, sa, sb, sc, sn⟩ _).mono ?_; rintro e w1 ⟨rfl, hb⟩; rw [HS.out]; have k1_0 := bel_keeps hb c0; have z1 := hb.size; (try simp at z1)) | (go_at_call 53; refine (l01In_any _ _ _ _).mono ?_; rintro e w' ⟨rfl, rfl⟩; rw [HI.out]))
            go_roundw
            case rel => exact ⟨k + 1, _, by omega, by go_num, rfl, HF.out, (by (repeat (first | with_reducible exact Below.refl _ _ | (with_reducible refine bel_next ?_ ?_ (by assumption)) | (with_reducible refine Below.alloc ?_ ?_ _) | (with_reducible refine Below.drew ?_) | (with_reducible refine below_drewN ?_ _) | (with_reducible refine Below.setCell ?_ ?_ _))) <;> (first | omega | (simp; done) | (simp; omega)))⟩
            case measure => simp [intOf]; omega
        have HE : Hid (stepD dd ⟨op, dst, sa, sb, sc, sn⟩ = dd) := by show _ = _; simp [stepD, p12, p13]
        have q12 : (op == 12) = false := by simp; omega
        have q13 : (op == 13) = false := by simp; omega
        clear p12 p13
        cases hi : inB (dd) 0 3
        · have HF := Lib.hid (depF_bad HX.out HD.out (.inr (by rw [HE.out]; exact hi)))
          have HI := Lib.hid hi
          clear hi
          go_wp2_with (first | (go_at_call 112; refine (sStmtOk_any ⟨op, dst, sa, sb, sc, sn⟩ _).mono ?_; rintro e w1 ⟨rfl, hb⟩; rw [HS.out]; have k1_0 := bel_keeps hb c0; have z1 := hb.size; (try simp at z1)) | (go_at_call 53; refine (l01In_any _ _ _ _).mono ?_; rintro e w' ⟨rfl, rfl⟩; rw [HI.out]))
          go_ret
          exact ⟨ret_bool HF.out.symm, (by (repeat (first | with_reducible exact Below.refl _ _ | (with_reducible refine bel_next ?_ ?_ (by assumption)) | (with_reducible refine Below.alloc ?_ ?_ _) | (with_reducible refine Below.drew ?_) | (with_reducible refine below_drewN ?_ _) | (with_reducible refine Below.setCell ?_ ?_ _))) <;> (first | omega | (simp; done) | (simp; omega)))⟩
        · have HF := Lib.hid (depF_snoc HX.out HD.out HS.out (by rw [HE.out]; exact hi))
          rw [HE.out] at HF
          have HI := Lib.hid hi
          clear hi
          go_wp2_with (first | (go_at_call 112; refine (sStmtOk_any ⟨op, dst, sa, sb, sc, sn⟩ _).mono ?_; rintro e w1 ⟨rfl, hb⟩; rw [HS.out]; have k1_0 := bel_keeps hb c0; have z1 := hb.size; (try simp at z1)) | (go_at_call 53; refine (l01In_any _ _ _ _).mono ?_; rintro e w' ⟨rfl, rfl⟩; rw [HI.out]))
          go_roundw
          case rel => exact ⟨k + 1, _, by omega, by go_num, rfl, HF.out, (by (repeat (first | with_reducible exact Below.refl _ _ | (with_reducible refine bel_next ?_ ?_ (by assumption)) | (with_reducible refine Below.alloc ?_ ?_ _) | (with_reducible refine Below.drew ?_) | (with_reducible refine below_drewN ?_ _) | (with_reducible refine Below.setCell ?_ ?_ _))) <;> (first | omega | (simp; done) | (simp; omega)))⟩
          case measure => simp [intOf]; omega
    · have HF := Lib.hid (progOk_end hd (by omega))
      clear hd
      go_wp2_with fail
      all_goals go_ret
      all_goals exact ⟨ret_bool (by rw [HF.out]; simp [*] <;> omega), (by (repeat (first | with_reducible exact Below.refl _ _ | (with_reducible refine bel_next ?_ ?_ (by assumption)) | (with_reducible refine Below.alloc ?_ ?_ _) | (with_reducible refine Below.drew ?_) | (with_reducible refine below_drewN ?_ _) | (with_reducible refine Below.setCell ?_ ?_ _))) <;> (first | omega | (simp; done) | (simp; omega)))⟩
end Go.Proofs.Ytfcijloiebnloaa

/- Unr -/
namespace Go.Proofs.Ytfcijloiebnloaa
open Go.RowKit
set_option linter.unusedVariables false
set_option linter.unusedSimpArgs false

theorem depF_pre {xs : List St} {d e : Int} (h : depF d xs = some e) (k : Nat) : ∃ c, depF d (xs.take k) = some c := by
  rw [← List.take_append_drop k xs, depF_append] at h
  cases hd : depF d (xs.take k) with
  | none => rw [hd] at h; cases h
  | some c => exact ⟨c, rfl⟩
theorem depF_step {xs : List St} {k : Nat} {s : St} {c e : Int} (h : depF 0 xs = some e) (hx : xs[k]? = some s) (hc : depF 0 (xs.take k) = some c) :
    depF 0 (xs.take (k + 1)) = some (stepD c s) ∧ 0 ≤ stepD c s ∧ stepD c s ≤ 3 := by
  obtain ⟨c', hc'⟩ := depF_pre h (k + 1)
  have e1 := hc'
  rw [take_snocS hx, depF_append, hc] at e1
  simp only [Option.bind_some, depF] at e1
  split at e1
  case isFalse => cases e1
  case isTrue hq =>
    simp only [Bool.and_eq_true, inB_iff] at hq
    exact ⟨by rw [hc']; exact e1.symm, hq.2⟩

set_option maxHeartbeats 2000000 in
theorem matching_any (xs : List St) (ad : Option Addr) (cp i b : Nat) (l e : St) (body r v : List St) (w : World) (hm : xs.length ≤ 40) (hr : RdC w ad (stCells xs)) (hx : xs.drop i = l :: (body ++ e :: r)) (hl : l.op = 12) (he : e.op = 13) (hu : Ur b body v) (hb : b ≤ 3) :
    Calls Try.prog 87 #[.slice ad xs.length cp, .int .i64 i] w fun e w' => e = .returned (.int .i64 ((i + 1 + body.length : Nat) : Int)) ∧ w = w' := by
  have hD := ur_depF hu 0 (by omega) (by omega)
  have hlen : xs.length - i = 1 + (body.length + (1 + r.length)) := by
    have := congrArg List.length hx
    simp at this; omega
  have at_ : ∀ j s, (l :: (body ++ e :: r))[j]? = some s → xs[i + j]? = some s := by
    intro j s h
    rw [← hx, List.getElem?_drop] at h; exact h
  have HX := Lib.hid hx
  have HA := Lib.hid at_
  have HD := Lib.hid hD
  have HL := Lib.hid hlen
  clear hx at_ hD hlen
  go_enter Try.func87, Try.ntmps87
  go_wp2_with fail
  go_loop [5, 6] (fun dep k => ∃ (j : Nat) (d : Int), j ≤ body.length + 1 ∧ k = .int .i64 ((i + j : Nat) : Int) ∧ dep = .int .i64 d ∧ (j = 0 ∧ d = 0 ∨ ∃ jj, j = jj + 1 ∧ depF 0 (body.take jj) = some (d - 1))) (fun _ k => xs.length - (intOf k).toNat)
  case atStart => exact ⟨0, 0, Nat.zero_le _, rfl, rfl, .inl ⟨rfl, rfl⟩⟩
  case round =>
    obtain ⟨j, d, hj, rfl, rfl, hd⟩ := hrel
    have hlt : i + j < xs.length := by have := HL.out; omega
    obtain ⟨bb, off, op, dst, sa, sb, sc, sn, rfl, hbl, hxx, c0, c1, c2, c3, c4, c5⟩ := hr.st (i + j) hlt
    have hij : ((i + j : Nat) : Int) < xs.length := by omega
    rcases hd with ⟨rfl, rfl⟩ | ⟨jj, rfl, hd⟩
    · have := HA.out 0 l rfl
      rw [hxx] at this
      simp only [Option.some.injEq] at this
      obtain rfl : op = 12 := by rw [← hl, ← this]
      simp only [Nat.add_zero] at c0 hij hlt
      clear this hxx hr
      have HR := Lib.hid hu
      clear hu hl he
      go_wp2_with fail
      go_round
      case rel => exact ⟨1, 1, by omega, by go_num, rfl, .inr ⟨0, rfl, rfl⟩⟩
      case measure => simp [intOf]; omega
    · obtain ⟨d0, d3⟩ := depF_lo hd (by omega)
      by_cases hjj : jj < body.length
      · have hs : body[jj]? = some ⟨op, dst, sa, sb, sc, sn⟩ := by
          have := HA.out (jj + 1) body[jj] (by rw [List.getElem?_cons_succ, List.getElem?_append_left hjj]; exact List.getElem?_eq_getElem hjj)
          rw [hxx] at this
          rw [List.getElem?_eq_getElem hjj, this]
        obtain ⟨g1, g2, g3⟩ := depF_step HD.out hs hd
        have G := Lib.hid g1
        clear g1 hs hxx hr hu hl he hd
        by_cases p12 : op = 12
        · subst p12
          have E : stepD (d - 1) ⟨12, dst, sa, sb, sc, sn⟩ = d := by simp [stepD]
          rw [E] at G g2 g3
          go_wp2_with fail
          go_round
          case rel => exact ⟨jj + 1 + 1, d + 1, by omega, by go_num, rfl, .inr ⟨jj + 1, rfl, by rw [show d + 1 - 1 = d from by omega]; exact G.out⟩⟩
          case measure => simp [intOf]; omega
        · by_cases p13 : op = 13
          · subst p13
            have E : stepD (d - 1) ⟨13, dst, sa, sb, sc, sn⟩ = d - 1 - 1 := by simp [stepD]
            rw [E] at G g2 g3
            clear E
            have q0 : (d - 1 == 0) = false := by simp; omega
            go_wp2_with fail
            go_round
            case rel => exact ⟨jj + 1 + 1, d - 1, by omega, by go_num, rfl, .inr ⟨jj + 1, rfl, G.out⟩⟩
            case measure => simp [intOf]; omega
          · have E : stepD (d - 1) ⟨op, dst, sa, sb, sc, sn⟩ = d - 1 := by simp [stepD, p12, p13]
            rw [E] at G g2 g3
            clear E
            have q12 : (op == 12) = false := by simp; omega
            have q13 : (op == 13) = false := by simp; omega
            clear p12 p13
            go_wp2_with fail
            go_round
            case rel => exact ⟨jj + 1 + 1, d, by omega, by go_num, rfl, .inr ⟨jj + 1, rfl, G.out⟩⟩
            case measure => simp [intOf]; omega
      · have hjl : jj = body.length := by omega
        subst hjl
        have hs := HA.out (body.length + 1) e (by rw [List.getElem?_cons_succ, List.getElem?_append_right (Nat.le_refl _), Nat.sub_self]; rfl)
        rw [hxx] at hs
        simp only [Option.some.injEq] at hs
        obtain rfl : op = 13 := by rw [← he, ← hs]
        have hd1 := HD.out
        rw [List.take_of_length_le (Nat.le_refl _), hd1] at hd
        simp only [Option.some.injEq] at hd
        obtain rfl : d = 1 := by omega
        clear hs hxx hd hd1 hr hu hl he
        go_wp2_with fail
        go_ret
        exact ⟨ret_int (by omega), rfl⟩


theorem drop_at {xs rest : List St} {k : Nat} {s : St} (h : xs.drop k = s :: rest) : xs[k]? = some s ∧ xs.drop (k + 1) = rest ∧ k < xs.length := by
  have h1 : xs[k]? = some s := by have := congrArg (·[0]?) h; simpa [List.getElem?_drop] using this
  refine ⟨h1, ?_, (List.getElem?_eq_some_iff.1 h1).1⟩
  rw [← List.drop_drop, h]; rfl
theorem RdC.part {w : World} {b off : Nat} {xs : List St} (h : RdC w (some ⟨b, off, none⟩) (stCells xs)) (k : Nat) (ys : List St) (n : Nat) (hy : (xs.drop k).take n = ys) : RdC w (some ⟨b, off + k * 6, none⟩) (stCells ys) := by
  rcases h with h | ⟨b', off', h1, h2⟩
  · have hl := stCells_length xs
    rw [h] at hl
    have : xs = [] := List.eq_nil_of_length_eq_zero (by simp at hl; omega)
    subst this; simp at hy; subst hy; exact .inl rfl
  · simp only [Option.some.injEq, Addr.mk.injEq, and_true] at h1
    obtain ⟨rfl, rfl⟩ := h1
    refine .inr ⟨b, off + k * 6, rfl, fun i hi => ?_⟩
    have hly := stCells_length ys
    have hi' : i < ys.length * 6 := by omega
    obtain ⟨q, j, hj, rfl⟩ : ∃ q j, j < 6 ∧ i = q * 6 + j := ⟨i / 6, i % 6, Nat.mod_lt _ (by omega), by omega⟩
    have hq : q < ys.length := by omega
    have e1 := stCells_get ys q j hj
    have hyl : ys.length ≤ xs.length - k ∧ q < n := by
      have := congrArg List.length hy; simp at this; omega
    have e2 := stCells_get xs (k + q) j hj
    have e3 : ys[q]? = xs[k + q]? := by rw [← hy, List.getElem?_take_of_lt hyl.2, List.getElem?_drop]
    rw [← e3, ← e1, List.getElem?_eq_getElem hi] at e2
    have hlt : (k + q) * 6 + j < (stCells xs).length := by have := stCells_length xs; omega
    rw [List.getElem?_eq_getElem hlt] at e2
    rw [show off + k * 6 + (q * 6 + j) = off + ((k + q) * 6 + j) from by omega, h2 _ hlt, Option.some.inj e2]

theorem ur_cases {b : Nat} {xs us : List St} (h : Ur b xs us) : (xs = [] ∧ us = []) ∨
    (∃ s r u, xs = s :: r ∧ us = s :: u ∧ stOk s = true ∧ s.op ≠ 12 ∧ s.op ≠ 13 ∧ Ur b r u) ∨
    (∃ b' l e body r v u, b = b' + 1 ∧ xs = l :: (body ++ e :: r) ∧ us = repS l.n v ++ u ∧ stOk l = true ∧ stOk e = true ∧ l.op = 12 ∧ e.op = 13 ∧ Ur b' body v ∧ Ur b r u) := by
  cases h with
  | nil => exact .inl ⟨rfl, rfl⟩
  | plain b s r u h1 h2 h3 h4 => exact .inr (.inl ⟨s, r, u, rfl, rfl, h1, h2, h3, h4⟩)
  | loop b l e body r v u h1 h2 h3 h4 h5 h6 => exact .inr (.inr ⟨b, l, e, body, r, v, u, rfl, rfl, rfl, h1, h2, h3, h4, h5, h6⟩)

set_option maxHeartbeats 4000000 in
theorem iUnrolledSize_ur (B : Nat) : ∀ (xs us : List St) (ad : Option Addr) (cp : Nat) (w : World), B ≤ 3 → Ur B xs us → xs.length ≤ 40 → xs.length ≤ cp → cp ≤ maxLen → RdC w ad (stCells xs) →
    Calls Try.prog 44 #[.slice ad xs.length cp] w fun e w' => e = .returned (.int .i64 us.length) ∧ Below w.heap.size w w' := by
  induction B using Nat.strongRecOn with
  | ind B IH =>
  intro xs us ad cp w hB hu hm hcp hcm hr
  unfold maxLen at hcm
  have HP := Lib.hid (ur_progOk (ur_mono hu hB) hm)
  have HIH := Lib.hid IH
  have hbd := ur_bound hu
  have hbd2 : us.length ≤ 20480 := Nat.le_trans hbd (Nat.le_trans (Nat.mul_le_mul (Nat.pow_le_pow_right (by omega) hB) hm) (by decide))
  have HR := Lib.hid hr
  clear IH hbd
  go_enter Try.func44, Try.ntmps44
  go_wp2_with (go_at_call 86; refine (iProgramOk_any xs _ _ _ (by unfold maxLen; omega) HR.out).mono ?_; rintro e w1 ⟨rfl, hb⟩; rw [HP.out])
  go_loopw [3, 4] (fun n i wr => ∃ (k : Nat) (rest ur : List St) (m : Nat), k ≤ xs.length ∧ i = .int .i64 k ∧ n = .int .i64 (m : Int) ∧ xs.drop k = rest ∧ Ur B rest ur ∧ m + ur.length = us.length ∧ Below w.heap.size w wr) (fun _ i _ => xs.length - (intOf i).toNat)
  case atStart => exact ⟨0, xs, us, 0, Nat.zero_le _, rfl, rfl, rfl, hu, by omega, hb⟩
  case round =>
    obtain ⟨k, rest, ur, m, hk, rfl, rfl, hd, hur, hml, hbw⟩ := hrel
    have hbs := hbw.size
    clear hb
    rcases ur_cases hur with ⟨rfl, rfl⟩ | ⟨s, r, u, rfl, rfl, hs1, hs2, hs3, hu2⟩ | ⟨B', l, e, body, r, v, u, rfl, rfl, rfl, hl1, he1, hl2, he2, hu1, hu2⟩
    · have hk2 : xs.length ≤ k := by simpa using hd
      have hmm : m = us.length := by simpa using hml
      subst hmm
      clear hd hur hml hu hr
      go_wp2_with fail
      go_ret
      exact ⟨rfl, hbw⟩
    · obtain ⟨hx, hd2, hlt⟩ := drop_at hd
      obtain ⟨b, off, op, dst, sa, sb, sc, sn, rfl, hbl, hx', c0, c1, c2, c3, c4, c5⟩ := (hr.below hbw).st k hlt
      rw [hx] at hx'
      simp only [Option.some.injEq] at hx'
      subst hx'
      simp only at hs2 hs3
      have q12 : (op == 12) = false := by simpa using hs2
      have HD := Lib.hid hd2
      have HU := Lib.hid hu2
      have HM := Lib.hid hml
      have hmb : m ≤ 20480 := by omega
      clear hd hur hx hd2 hu2 hml hs1 hs2 hs3 hu hr
      go_wp2_with fail
      go_roundw
      case rel => exact ⟨k + 1, r, u, m + 1, by omega, by go_num, by go_num, HD.out, HU.out, by have := HM.out; simp at this; omega, hbw⟩
      case measure => simp [intOf]; omega
    · obtain ⟨hx, hd2, hlt⟩ := drop_at hd
      obtain ⟨b, off, op, dst, sa, sb, sc, sn, rfl, hbl, hx', c0, c1, c2, c3, c4, c5⟩ := (hr.below hbw).st k hlt
      rw [hx] at hx'
      simp only [Option.some.injEq] at hx'
      subst hx'
      simp only at hl2
      subst hl2
      obtain ⟨n1, n8⟩ := stOk_loop hl1 rfl
      simp only at n1 n8
      obtain ⟨nn, rfl⟩ := Int.eq_ofNat_of_zero_le (show 0 ≤ sn by omega)
      obtain ⟨q, hq⟩ : ∃ q, q = k + 1 + body.length := ⟨_, rfl⟩
      have hlen : xs.length - k = 1 + (body.length + (1 + r.length)) := by
        have := congrArg List.length hd
        simp at this; omega
      have hqlt : q < xs.length := by omega
      have hbody : (xs.drop (k + 1)).take (q - (k + 1)) = body := by
        rw [hd2, show q - (k + 1) = body.length from by omega, List.take_left']; rfl
      have hrest : xs.drop (q + 1) = r := by
        rw [show q + 1 = (k + 1) + (body.length + 1) from by omega, ← List.drop_drop, hd2, ← List.drop_drop, List.drop_left']; rfl; rfl
      have hmat := matching_any xs (some ⟨b, off, none⟩) cp k B' ⟨12, dst, sa, sb, sc, (nn : Int)⟩ e body r v
      rw [← hq] at hmat
      have HMT := Lib.hid (fun W hR => hmat W hm hR hd rfl he2 hu1 (by omega))
      have hub : v.length ≤ 20480 := Nat.le_trans (ur_bound hu1) (Nat.le_trans (Nat.mul_le_mul (Nat.pow_le_pow_right (by omega) (by omega : B' ≤ 3)) (by omega : body.length ≤ 40)) (by decide))
      have HSUB := Lib.hid (fun W hR => HIH.out B' (by omega) body v (some ⟨b, off + (k + 1) * 6, none⟩) (cp - (k + 1)) W (by omega) hu1 (by omega) (by omega) (by unfold maxLen; omega) hR)
      have HPART := Lib.hid (hr.part (k + 1) body (q - (k + 1)) hbody)
      have HRS := Lib.hid hrest
      have HU := Lib.hid hu2
      obtain ⟨P, hP⟩ : ∃ P, P = nn * v.length := ⟨_, rfl⟩
      have hml2 : m + (P + u.length) = us.length := by rw [← hml, List.length_append, repS_length, hP]; simp
      have HM := Lib.hid hml2
      have hmb : m ≤ 20480 := by omega
      have hnv : P ≤ 20480 := by omega
      have HNV : Hid ((nn : Int) * (v.length : Int) = (P : Int)) := by show _ = _; rw [hP, Int.natCast_mul]
      have hkq : k + 1 ≤ q := by omega
      have HLB : Hid (body.length = q - (k + 1)) := by show _ = _; omega
      clear hd hur hx hd2 hu2 hml hml2 hu hr hbody hrest hmat hlen hq hl1 he1 he2 hu1 hP
      go_wp2_with (go_at_call 87; refine (HMT.out _ (HR.out.below (by (repeat (first | with_reducible exact Below.refl _ _ | (with_reducible refine bel_next ?_ ?_ (by assumption)) | (with_reducible refine Below.alloc ?_ ?_ _) | (with_reducible refine Below.drew ?_) | (with_reducible refine below_drewN ?_ _) | (with_reducible refine Below.setCell ?_ ?_ _))) <;> (first | omega | (simp; done) | (simp; omega))))).mono ?_; rintro e1 w2 ⟨rfl, rfl⟩)
      have HPW := Lib.hid (HPART.out.below hbw)
      refine wp_region_bel (by kernel_rfl) (by kernel_rfl) ?_
      have e5 := in_cell c5
      have hw1 : IntKind.i64.wrap (↑k + 1) = ↑k + 1 := wrap_i64_id (by omega) (by omega)
      have b1 : (0 : Int) ≤ ↑k + 1 := by omega
      have b2 : (↑k + 1 : Int).toNat = k + 1 := by omega
      have b3 : q ≤ cp := by omega
      have b4 : (↑k + 1 : Int) ≤ ↑q := by omega
      have b5 : ¬ cp = k + 1 := by omega
      have hw2 : IntKind.i64.wrap ((nn : Int) * (v.length : Int)) = (P : Int) := by rw [HNV.out]; exact wrap_i64_id (by omega) (by omega)
      have hw3 : IntKind.i64.wrap ((m : Int) + (P : Int)) = (m : Int) + (P : Int) := wrap_i64_id (by omega) (by omega)
      repeat (go_big_quiet_step ((go_at_call 44; exact Calls.inb (by rw [← HLB.out]; exact HSUB.out _ (in_rd HPW.out _)))))
      refine wpQuiet_nil ?_
      rintro _ ⟨x, rfl⟩
      have hb : Below wr.heap.size wr x.w := x.ok
      clear e5 hw1 hw2 hw3 b1 b2 b3 b4 b5
      go_wp2_with fail
      go_roundw
      case rel => exact ⟨q + 1, r, u, m + P, by omega, by go_num, by go_num, HRS.out, HU.out, by have := HM.out; omega, (by (repeat (first | with_reducible exact Below.refl _ _ | (with_reducible refine bel_next ?_ ?_ (by assumption)) | (with_reducible refine Below.alloc ?_ ?_ _) | (with_reducible refine Below.drew ?_) | (with_reducible refine below_drewN ?_ _) | (with_reducible refine Below.setCell ?_ ?_ _))) <;> (first | omega | (simp; done) | (simp; omega)))⟩
      case measure => simp [intOf]; omega


theorem ret_two {a b c d : Int} (h : a = b) (h' : c = d) : Ending.returned (.tuple #[.int .i64 a, .int .i64 c]) = .returned (.tuple #[.int .i64 b, .int .i64 d]) := by rw [h, h']
set_option maxHeartbeats 4000000 in
theorem l10Size_ur (B : Nat) : ∀ (xs blk tail us : List St) (ad : Option Addr) (cp k0 : Nat) (w : World), B ≤ 3 → Ur B blk us → xs.length ≤ 40 → k0 ≤ xs.length → xs.drop k0 = blk ++ tail → (∀ s r, tail = s :: r → s.op = 13) → RdC w ad (stCells xs) →
    Calls Try.prog 118 #[.slice ad xs.length cp, .int .i64 k0] w fun e w' => e = .returned (.tuple #[.int .i64 us.length, .int .i64 ((k0 + blk.length : Nat) : Int)]) ∧ w = w' := by
  induction B using Nat.strongRecOn with
  | ind B IH =>
  intro xs blk tail us ad cp k0 w hB hu hm hk0 hd0 ht hr
  have HIH := Lib.hid IH
  have HT := Lib.hid ht
  have hbl : k0 + blk.length ≤ xs.length ∨ blk = [] := by
    have := congrArg List.length hd0
    simp at this
    by_cases h : blk = []
    · exact .inr h
    · have : 0 < blk.length := List.length_pos_iff.2 h
      exact .inl (by omega)
  have hbl40 : blk.length ≤ 40 := by rcases hbl with h | h <;> (first | omega | (rw [h]; simp))
  have hbd2 : us.length ≤ 20480 := Nat.le_trans (ur_bound hu) (Nat.le_trans (Nat.mul_le_mul (Nat.pow_le_pow_right (by omega) hB) hbl40) (by decide))
  clear IH ht
  go_enter Try.func118, Try.ntmps118
  go_wp2_with fail
  go_loop [1, 6] (fun i n => ∃ (k : Nat) (rest ur : List St) (m : Nat), k ≤ xs.length ∧ i = .int .i64 k ∧ n = .int .i64 (m : Int) ∧ xs.drop k = rest ++ tail ∧ Ur B rest ur ∧ m + ur.length = us.length ∧ k + rest.length = k0 + blk.length) (fun i _ => xs.length - (intOf i).toNat)
  case atStart => exact ⟨k0, blk, us, 0, by omega, rfl, rfl, hd0, hu, by omega, rfl⟩
  case round =>
    obtain ⟨k, rest, ur, m, hk, rfl, rfl, hd, hur, hml, hkl⟩ := hrel
    rcases ur_cases hur with ⟨rfl, rfl⟩ | ⟨s, r, u, rfl, rfl, hs1, hs2, hs3, hu2⟩ | ⟨B', l, e, body, r, v, u, rfl, rfl, rfl, hl1, he1, hl2, he2, hu1, hu2⟩
    · have hmm : m = us.length := by simpa using hml
      have hkk : k = k0 + blk.length := by simpa using hkl
      have HMM := Lib.hid hmm
      have HKK := Lib.hid hkk
      by_cases hlt : k < xs.length
      · obtain ⟨b, off, op, dst, sa, sb, sc, sn, rfl, hbl, hx', c0, c1, c2, c3, c4, c5⟩ := hr.st k hlt
        have ho : op = 13 := by
          cases tail with
          | nil => simp at hd; omega
          | cons s r => have h1 := HT.out s r rfl; have := (drop_at hd).1; rw [hx'] at this; simp only [Option.some.injEq] at this; rw [← this] at h1; exact h1
        subst ho
        clear hd hur hml hu hr hmm hkk hkl hx' hd0 hbl
        go_wp2_with fail
        go_ret2
        exact ⟨ret_two (by rw [← HMM.out]) (by have := HKK.out; omega), rfl⟩
      · clear hd hur hml hu hr hmm hkk hkl hd0 hbl
        go_wp2_with fail
        go_ret2
        exact ⟨ret_two (by rw [← HMM.out]) (by have := HKK.out; omega), rfl⟩
    · obtain ⟨hx, hd2, hlt⟩ := drop_at hd
      obtain ⟨b, off, op, dst, sa, sb, sc, sn, rfl, hbl, hx', c0, c1, c2, c3, c4, c5⟩ := hr.st k hlt
      rw [hx] at hx'
      simp only [Option.some.injEq] at hx'
      subst hx'
      simp only at hs2 hs3
      have q12 : (op != 12) = true := by simpa using hs2
      have q13 : (op != 13) = true := by simpa using hs3
      have HD := Lib.hid hd2
      have HU := Lib.hid hu2
      have HM := Lib.hid hml
      have HK := Lib.hid hkl
      have hmb : m ≤ 20480 := by omega
      clear hd hur hx hd2 hu2 hml hs1 hs2 hs3 hu hr hkl hd0 hbl
      go_wp2_with fail
      go_round
      case rel => exact ⟨k + 1, r, u, m + 1, by omega, by go_num, by go_num, HD.out, HU.out, by have := HM.out; simp at this; omega, by have := HK.out; simp at this; omega⟩
      case measure => simp [intOf]; omega
    · have hda : xs.drop k = l :: (body ++ e :: (r ++ tail)) := by rw [hd]; simp
      obtain ⟨hx, hd2, hlt⟩ := drop_at hda
      obtain ⟨b, off, op, dst, sa, sb, sc, sn, rfl, hbl, hx', c0, c1, c2, c3, c4, c5⟩ := hr.st k hlt
      rw [hx] at hx'
      simp only [Option.some.injEq] at hx'
      subst hx'
      simp only at hl2
      subst hl2
      obtain ⟨n1, n8⟩ := stOk_loop hl1 rfl
      simp only at n1 n8
      obtain ⟨nn, rfl⟩ := Int.eq_ofNat_of_zero_le (show 0 ≤ sn by omega)
      obtain ⟨q, hq⟩ : ∃ q, q = k + 1 + body.length := ⟨_, rfl⟩
      have hlen : xs.length - k = 1 + (body.length + (1 + (r.length + tail.length))) := by
        have := congrArg List.length hda
        simp at this; omega
      have hqlt : q < xs.length := by omega
      have hrest : xs.drop (q + 1) = r ++ tail := by
        rw [show q + 1 = (k + 1) + (body.length + 1) from by omega, ← List.drop_drop, hd2, ← List.drop_drop, List.drop_left']; rfl; rfl
      have hub : v.length ≤ 20480 := Nat.le_trans (ur_bound hu1) (Nat.le_trans (Nat.mul_le_mul (Nat.pow_le_pow_right (by omega) (by omega : B' ≤ 3)) (by omega : body.length ≤ 40)) (by decide))
      have hsub := HIH.out B' (by omega) xs body (e :: (r ++ tail)) v (some ⟨b, off, none⟩) cp (k + 1) w (by omega) hu1 hm (by omega) hd2 (by intro s r' h; cases h; exact he2) hr
      rw [← hq] at hsub
      have HSUB := Lib.hid hsub
      have HRS := Lib.hid hrest
      have HU := Lib.hid hu2
      obtain ⟨P, hP⟩ : ∃ P, P = nn * v.length := ⟨_, rfl⟩
      have hml2 : m + (P + u.length) = us.length := by rw [← hml, List.length_append, repS_length, hP]; simp
      have HM := Lib.hid hml2
      have hkl2 : q + 1 + r.length = k0 + blk.length := by rw [← hkl]; simp; omega
      have HK := Lib.hid hkl2
      have hmb : m ≤ 20480 := by omega
      have hnv : P ≤ 20480 := by omega
      have HNV : Hid ((v.length : Int) * (nn : Int) = (P : Int)) := by show _ = _; rw [hP, Int.natCast_mul, Int.mul_comm]
      have HQQ : Hid (q < xs.length ∧ k < q) := ⟨hqlt, by omega⟩
      clear hd hda hur hx hd2 hu2 hml hml2 hu hr hrest hsub hlen hq hl1 he1 he2 hu1 hP hkl hkl2 hd0 hbl
      have hnv3 := HNV.out
      go_wp2_with (go_at_call 118; refine HSUB.out.mono ?_; rintro e1 w2 ⟨rfl, rfl⟩)
      go_round
      case rel => exact ⟨q + 1, r, u, m + P, by have := HQQ.out; omega, by go_num, by go_num, HRS.out, HU.out, by have := HM.out; omega, HK.out⟩
      case measure => have := HQQ.out; simp [intOf]; omega


/-- The predicted size: -1, or that of the unrolled list. -/
def IsSize (xs : List St) (v : Int) : Prop := (progOk xs = false ∧ v = -1) ∨ (progOk xs = true ∧ xs.length ≤ 40 ∧ ∃ us, Ur 3 xs us ∧ v = us.length ∧ us.length ≤ 20480)
theorem size_ex (xs : List St) : ∃ v, IsSize xs v := by
  cases h : progOk xs
  · exact ⟨-1, .inl ⟨h, rfl⟩⟩
  · obtain ⟨hl, us, hu⟩ := ur_of_progOk h
    exact ⟨us.length, .inr ⟨h, hl, us, hu, rfl, Nat.le_trans (ur_bound hu) (Nat.le_trans (Nat.mul_le_mul (Nat.le_refl _) hl) (by decide))⟩⟩

set_option maxHeartbeats 1000000 in
theorem iUnrolledSize_any (xs : List St) (v : Int) (hv : IsSize xs v) (ad : Option Addr) (cp : Nat) (w : World) (hm : xs.length ≤ maxLen) (hcp : xs.length ≤ cp) (hcm : cp ≤ maxLen) (hr : RdC w ad (stCells xs)) :
    Calls Try.prog 44 #[.slice ad xs.length cp] w fun e w' => e = .returned (.int .i64 v) ∧ Below w.heap.size w w' := by
  rcases hv with ⟨hp, rfl⟩ | ⟨hp, hl, us, hu, rfl, _⟩
  · have HP := Lib.hid hp
    have HR := Lib.hid hr
    clear hp hr
    unfold maxLen at hm
    go_enter Try.func44, Try.ntmps44
    go_wp2_with (go_at_call 86; refine (iProgramOk_any xs _ _ _ (by unfold maxLen; omega) HR.out).mono ?_; rintro e w1 ⟨rfl, hb⟩; rw [HP.out])
    go_ret
    exact ⟨rfl, hb⟩
  · exact iUnrolledSize_ur 3 xs us ad cp w (Nat.le_refl _) hu hl hcp hcm hr

set_option maxHeartbeats 1000000 in
theorem sUnrolledSize_any (xs : List St) (v : Int) (hv : IsSize xs v) (ad : Option Addr) (cp : Nat) (w : World) (hm : xs.length ≤ maxLen) (hcp : xs.length ≤ cp) (hcm : cp ≤ maxLen) (hr : RdC w ad (stCells xs)) :
    Calls Try.prog 100 #[.slice ad xs.length cp] w fun e w' => e = .returned (.int .i64 v) ∧ Below w.heap.size w w' := by
  rcases hv with ⟨hp, rfl⟩ | ⟨hp, hl, us, hu, rfl, _⟩
  all_goals
    have HP := Lib.hid hp
    have HR := Lib.hid hr
    clear hp hr
    unfold maxLen at hm
  · go_enter Try.func100, Try.ntmps100
    go_wp2_with (go_at_call 117; refine (sProgramOk_any xs _ _ _ (by unfold maxLen; omega) HR.out).mono ?_; rintro e w1 ⟨rfl, hb⟩; rw [HP.out])
    go_ret
    exact ⟨rfl, hb⟩
  · have HS := Lib.hid (fun W hR => l10Size_ur 3 xs xs [] us ad cp 0 W (Nat.le_refl _) hu hl (Nat.zero_le _) (by simp) (by intro s r h; cases h) hR)
    clear hu
    go_enter Try.func100, Try.ntmps100
    go_wp2_with (first | (go_at_call 117; refine (sProgramOk_any xs _ _ _ (by unfold maxLen; omega) HR.out).mono ?_; rintro e w1 ⟨rfl, hb⟩; rw [HP.out]) | (go_at_call 118; refine (HS.out _ (HR.out.below (by assumption))).mono ?_; rintro e w2 ⟨rfl, rfl⟩))
    go_ret
    exact ⟨rfl, hb⟩

end Go.Proofs.Ytfcijloiebnloaa

/- Unroll -/
namespace Go.Proofs.Ytfcijloiebnloaa
open Go.RowKit
set_option linter.unusedVariables false
set_option linter.unusedSimpArgs false

theorem stCells_one (xs : List St) : ∀ u ∈ stCells xs, u.oneCell' = true := by
  intro u hu
  simp only [stCells, List.mem_flatMap, St.cells] at hu
  obtain ⟨s, _, hs⟩ := hu
  simp at hs
  rcases hs with rfl | rfl | rfl | rfl | rfl | rfl <;> rfl

theorem Own.shape {w : World} {lo e size : Nat} {v : Value} {n : Nat} {cs : List Value} (h : w.ownsRow lo e size v n cs) (hv : v ≠ .slice none 0 0) : ∃ g cap, v = .slice (some ⟨g, 0, none⟩) n cap ∧ Own w lo e size (some ⟨g, 0, none⟩) n cap cs := by
  rcases h.2 with ⟨he, h0⟩ | ⟨g, cap, cur, he, rest⟩
  · exact absurd he hv
  · subst he; exact ⟨g, cap, rfl, h⟩

section
variable {ops : Array Oper} {rest : List Oper} {o : Oper} {a : Act} {Q : Exit → Act → World → Prop}
theorem wpList_appSt (W : World) (hgd : o.guard = none) (s x : Operand) (ho : o.op = .call { callee := .builtin .append, args := #[s, x], argTypes := #[49, 49] })
    (lo n cap g B off m c : Nat) (xs ys : List St) (hs : a.eval s = .slice (some ⟨g, 0, none⟩) n cap) (hx : a.eval x = .slice (some ⟨B, off, none⟩) m c)
    (hown : Own W lo 90 6 (some ⟨g, 0, none⟩) n cap (stCells xs)) (hr : RdC W (some ⟨B, off, none⟩) (stCells ys)) (hm : ys.length = m) (hn : n + m ≤ 1048576) (hlo : lo ≤ W.heap.size)
    (h : ∀ g' cap' w', Own w' lo 90 6 (some ⟨g', 0, none⟩) (n + m) cap' (stCells (xs ++ ys)) → Below lo W w' → W.grownBy w' (some g) → (g' = g ∨ g' = W.heap.size) → wpList Try.prog ops Q rest (a.put o.dst (.slice (some ⟨g', 0, none⟩) (n + m) cap')) w') :
    wpList Try.prog ops Q (o :: rest) a W := by
  obtain ⟨i0, hi, hz0, hz1, hz2⟩ := info_parts info_st
  refine wpList_append_own_at W hgd s x 49 ho lo 90 i0 _ 6 48 Try.underlying49 hi hz0 hz1 hz2 rfl (by omega) _ n (stCells xs) hs hown ⟨B, off, none⟩ m c (stCells ys) hx (by rw [stCells_length, hm]) ?_ (stCells_one ys)
    (by unfold maxLen; omega) (by omega) hlo ?_
  · intro j u hj
    rw [add_plain]
    rcases hr with h0 | ⟨b', off', e, hc⟩
    · rw [h0] at hj; cases hj
    · simp only [Option.some.injEq, Addr.mk.injEq, and_true] at e
      obtain ⟨rfl, rfl⟩ := e
      obtain ⟨hlt, rfl⟩ := List.getElem?_eq_some_iff.1 hj
      exact hc j hlt
  · intro v' w' h2 h3 h4 h5
    have hv : v' ≠ .slice none 0 0 := fun e => by have := (h4.1 e).1; simp at this
    obtain ⟨g', cap', rfl, h6⟩ := Own.shape h2 hv
    rw [own_block] at h3
    rw [← stCells_append] at h6
    refine h g' cap' w' h6 (hown.below hlo h3) h3 ?_
    rw [own_block, own_block] at h5
    simpa using h5
end

theorem repS_len_le (j : Nat) (nn : Nat) (v : List St) (h : j ≤ nn) : (repS (j : Int) v).length ≤ nn * v.length := by
  rw [repS_length]; simp; exact Nat.mul_le_mul_right _ h

theorem own_empty (w : World) (e size : Nat) : Own (w.alloc (.cells #[] e)) w.heap.size e size (some ⟨w.heap.size, 0, none⟩) 0 0 [] := by
  refine ⟨by simp, .inr ⟨w.heap.size, 0, #[], rfl, Nat.le_refl _, heap_alloc_new w _, by simp, by simp, ?_⟩⟩
  all_goals simp

set_option maxHeartbeats 4000000 in
theorem unrolled_ur (B : Nat) : ∀ (xs us : List St) (ad : Option Addr) (cp : Nat) (w : World), B ≤ 3 → Ur B xs us → xs.length ≤ 40 → xs.length ≤ cp → cp ≤ maxLen → RdC w ad (stCells xs) →
    Calls Try.prog 103 #[.slice ad xs.length cp] w fun e w' => ∃ g c, e = .returned (.slice (some ⟨g, 0, none⟩) us.length c) ∧ Own w' w.heap.size 90 6 (some ⟨g, 0, none⟩) us.length c (stCells us) ∧ Below w.heap.size w w' := by
  induction B using Nat.strongRecOn with
  | ind B IH =>
  intro xs us ad cp w hB hu hm hcp hcm hr
  unfold maxLen at hcm
  have HIH := Lib.hid IH
  have hbd2 : us.length ≤ 20480 := Nat.le_trans (ur_bound hu) (Nat.le_trans (Nat.mul_le_mul (Nat.pow_le_pow_right (by omega) hB) hm) (by decide))
  have HR := Lib.hid hr
  clear IH
  go_enter Try.func103, Try.ntmps103
  go_wp2_with fail
  have HO := Lib.hid (own_empty w 90 6)
  go_loopw [3, 4] (fun ov i wr => ∃ (k : Nat) (rest ur done : List St) (g c : Nat), k ≤ xs.length ∧ i = .int .i64 k ∧ ov = .slice (some ⟨g, 0, none⟩) done.length c ∧ xs.drop k = rest ∧ Ur B rest ur ∧ done ++ ur = us ∧ Own wr w.heap.size 90 6 (some ⟨g, 0, none⟩) done.length c (stCells done) ∧ Below w.heap.size w wr) (fun _ i _ => xs.length - (intOf i).toNat)
  case atStart => exact ⟨0, xs, us, [], w.heap.size, 0, Nat.zero_le _, rfl, rfl, rfl, hu, rfl, HO.out, (by (repeat (first | with_reducible exact Below.refl _ _ | (with_reducible refine bel_next ?_ ?_ (by assumption)) | (with_reducible refine Below.alloc ?_ ?_ _) | (with_reducible refine Below.drew ?_) | (with_reducible refine below_drewN ?_ _) | (with_reducible refine Below.setCell ?_ ?_ _))) <;> (first | omega | (simp; done) | (simp; omega)))⟩
  case round =>
    obtain ⟨k, rest, ur, done, g, c, hk, rfl, rfl, hd, hur, hml, hown, hbw⟩ := hrel
    have hbs := hbw.size
    have hgl := hown.ge
    have hml2 : done.length + ur.length = us.length := by rw [← hml]; simp
    rcases ur_cases hur with ⟨rfl, rfl⟩ | ⟨s, r, u, rfl, rfl, hs1, hs2, hs3, hu2⟩ | ⟨B', l, e, body, r, v, u, rfl, rfl, rfl, hl1, he1, hl2, he2, hu1, hu2⟩
    · have hk2 : xs.length ≤ k := by simpa using hd
      have hmm : done = us := by simpa using hml
      have HOW := Lib.hid hown
      subst hmm
      clear hd hur hml hu hr hown
      go_wp2_with fail
      go_ret
      exact ⟨g, c, rfl, HOW.out, hbw⟩
    · obtain ⟨hx, hd2, hlt⟩ := drop_at hd
      obtain ⟨b, off, op, dst, sa, sb, sc, sn, rfl, hbl, hx', c0, c1, c2, c3, c4, c5⟩ := (hr.below hbw).st k hlt
      rw [hx] at hx'
      simp only [Option.some.injEq] at hx'
      subst hx'
      simp only at hs2 hs3
      have q12 : (op != 12) = true := by simpa using hs2
      have HD := Lib.hid hd2
      have HU := Lib.hid hu2
      have HM := Lib.hid hml
      have HOW := Lib.hid hown
      have hmb : done.length ≤ 20480 := by omega
      have HNEW := Lib.hid (fun W => RdC.alloc W (St.cells ⟨op, dst, sa, sb, sc, sn⟩).toArray 90)
      clear hd hur hx hd2 hu2 hml hs1 hs2 hs3 hu hr hown hml2
      go_wp2_with (refine wpList_appSt _ rfl _ _ rfl w.heap.size done.length c g wr.heap.size 0 1 1 done [⟨op, dst, sa, sb, sc, sn⟩] (by rfl) (by rfl) (HOW.out.alloc _) (HNEW.out _) rfl (by omega) (by simp; omega) ?_; intro g' c' w2 ho2 hb2 hg2 hat)
      go_roundw
      case rel => exact ⟨k + 1, r, u, done ++ [⟨op, dst, sa, sb, sc, sn⟩], g', c', by omega, by go_num, by simp, HD.out, HU.out, by have := HM.out; simpa using this, by simpa using ho2, (by (repeat (first | with_reducible exact Below.refl _ _ | (with_reducible refine bel_next ?_ ?_ (by assumption)) | (with_reducible refine Below.alloc ?_ ?_ _) | (with_reducible refine Below.drew ?_) | (with_reducible refine below_drewN ?_ _) | (with_reducible refine Below.setCell ?_ ?_ _))) <;> (first | omega | (simp; done) | (simp; omega)))⟩
      case measure => simp [intOf]; omega
    · obtain ⟨hx, hd2, hlt⟩ := drop_at hd
      obtain ⟨b, off, op, dst, sa, sb, sc, sn, rfl, hbl, hx', w0, w1, w2, w3, w4, w5⟩ := hr.st k hlt
      rw [hx] at hx'
      simp only [Option.some.injEq] at hx'
      subst hx'
      simp only at hl2
      subst hl2
      obtain ⟨n1, n8⟩ := stOk_loop hl1 rfl
      simp only at n1 n8
      obtain ⟨nn, rfl⟩ := Int.eq_ofNat_of_zero_le (show 0 ≤ sn by omega)
      obtain ⟨q, hq⟩ : ∃ q, q = k + 1 + body.length := ⟨_, rfl⟩
      have hlen : xs.length - k = 1 + (body.length + (1 + r.length)) := by
        have := congrArg List.length hd
        simp at this; omega
      have hqlt : q < xs.length := by omega
      have hbody : (xs.drop (k + 1)).take (q - (k + 1)) = body := by
        rw [hd2, show q - (k + 1) = body.length from by omega, List.take_left']; rfl
      have hrest : xs.drop (q + 1) = r := by
        rw [show q + 1 = (k + 1) + (body.length + 1) from by omega, ← List.drop_drop, hd2, ← List.drop_drop, List.drop_left']; rfl; rfl
      have hmat := matching_any xs (some ⟨b, off, none⟩) cp k B' ⟨12, dst, sa, sb, sc, (nn : Int)⟩ e body r v
      rw [← hq] at hmat
      have HMT := Lib.hid (fun W hR => hmat W hm hR hd rfl he2 hu1 (by omega))
      have hub : v.length ≤ 20480 := Nat.le_trans (ur_bound hu1) (Nat.le_trans (Nat.mul_le_mul (Nat.pow_le_pow_right (by omega) (by omega : B' ≤ 3)) (by omega : body.length ≤ 40)) (by decide))
      have hsub := fun W hR => HIH.out B' (by omega) body v (some ⟨b, off + (k + 1) * 6, none⟩) (cp - (k + 1)) W (by omega) hu1 (by omega) (by omega) (by unfold maxLen; omega) hR
      rw [show body.length = q - (k + 1) from by omega] at hsub
      have HSUB := Lib.hid hsub
      have HPART := Lib.hid (hr.part (k + 1) body (q - (k + 1)) hbody)
      have HRS := Lib.hid hrest
      have HU := Lib.hid hu2
      have hPle : nn * v.length ≤ us.length := by rw [← hml, List.length_append, List.length_append, repS_length]; simp; omega
      have HM := Lib.hid hml
      have hdl : done.length + nn * v.length ≤ 20480 := by
        have h := hml2
        rw [List.length_append, repS_length] at h
        simp at h; omega
      have HOW := Lib.hid hown
      have b1 : (0 : Int) ≤ ↑k + 1 := by omega
      have b3 : q ≤ cp := by omega
      have b4 : (↑k + 1 : Int) ≤ ↑q := by omega
      have b5 : ¬ cp = k + 1 := by omega
      have hkq : k < q := by omega
      clear hd hur hx hd2 hu2 hml hml2 hu hbody hrest hmat hsub hlen hq hl1 he1 he2 hu1 hown hPle
      have c5 := bel_keeps hbw w5
      have c0 := bel_keeps hbw w0
      have HRW := Lib.hid hr
      clear hr
      go_wp2_with (first | (go_at_call 87; refine (HMT.out _ (HRW.out.below (by (repeat (first | with_reducible exact Below.refl _ _ | (with_reducible refine bel_next ?_ ?_ (by assumption)) | (with_reducible refine Below.alloc ?_ ?_ _) | (with_reducible refine Below.drew ?_) | (with_reducible refine below_drewN ?_ _) | (with_reducible refine Below.setCell ?_ ?_ _))) <;> (first | omega | (simp; done) | (simp; omega))))).mono ?_; rintro e1 w2 ⟨rfl, rfl⟩) | (go_at_call 103; refine (HSUB.out _ (HPART.out.below (by (repeat (first | with_reducible exact Below.refl _ _ | (with_reducible refine bel_next ?_ ?_ (by assumption)) | (with_reducible refine Below.alloc ?_ ?_ _) | (with_reducible refine Below.drew ?_) | (with_reducible refine below_drewN ?_ _) | (with_reducible refine Below.setCell ?_ ?_ _))) <;> (first | omega | (simp; done) | (simp; omega))))).mono ?_; rintro e1 wb ⟨gb, cb, rfl, hob, hbb⟩))
      have hbz := hbb.size
      have hgb := hob.ge
      have HOB := Lib.hid hob
      have HOD : Hid (Own wb w.heap.size 90 6 (some ⟨g, 0, none⟩) done.length c (stCells done)) := HOW.out.later ((Kp.refl _ _).below hbb)
      have hbwb : Below w.heap.size w wb := (by (repeat (first | with_reducible exact Below.refl _ _ | (with_reducible refine bel_next ?_ ?_ (by assumption)) | (with_reducible refine Below.alloc ?_ ?_ _) | (with_reducible refine Below.drew ?_) | (with_reducible refine below_drewN ?_ _) | (with_reducible refine Below.setCell ?_ ?_ _))) <;> (first | omega | (simp; done) | (simp; omega)))
      have HBWB := Lib.hid hbwb
      clear hob hbwb c5 c0
      go_loopw [3, 7] (fun ov i wi => ∃ (j : Nat) (acc : List St) (g2 c2 : Nat), j ≤ nn ∧ i = .int .i64 j ∧ acc = done ++ repS (j : Int) v ∧ ov = .slice (some ⟨g2, 0, none⟩) acc.length c2 ∧ Own wi w.heap.size 90 6 (some ⟨g2, 0, none⟩) acc.length c2 (stCells acc) ∧ RdC wi (some ⟨gb, 0, none⟩) (stCells v) ∧ g2 ≠ gb ∧ gb < wi.heap.size ∧ Below w.heap.size w wi) (fun _ i _ => nn - (intOf i).toNat)
      case atStart => exact ⟨0, done, g, c, Nat.zero_le _, rfl, by simp [repS_zero], rfl, HOD.out, HOB.out.rd, by omega, by omega, HBWB.out⟩
      case round =>
        obtain ⟨j, acc, g2, c2, hj, rfl, hacc, rfl, howi, hrv, hne, hgl2, hbi⟩ := hrel
        have hbis := hbi.size
        have hgi := howi.ge
        have c5 := bel_keeps hbi w5
        have hal : acc.length + (nn - j) * v.length = done.length + nn * v.length := by
          rw [hacc, List.length_append, repS_length]
          simp only [Int.toNat_natCast]
          have := Nat.add_mul j (nn - j) v.length
          rw [show j + (nn - j) = nn from by omega] at this
          omega
        have HOI := Lib.hid howi
        have HRV := Lib.hid hrv
        have HAC := Lib.hid hacc
        clear howi hrv hacc
        by_cases hjn : j < nn
        · have hstep : acc.length + v.length ≤ 20480 := by
            have : (nn - j) * v.length = (nn - j - 1) * v.length + v.length := by
              have := Nat.succ_mul (nn - j - 1) v.length
              rw [show (nn - j - 1).succ = nn - j from by omega] at this
              exact this
            omega
          have HAS : Hid (acc ++ v = done ++ repS ((j + 1 : Nat) : Int) v) := by
            show _ = _
            rw [HAC.out, Int.natCast_add, show ((1 : Nat) : Int) = 1 from rfl, repS_succ, List.append_assoc]
          clear hal
          go_wp2_with (refine wpList_appSt _ rfl _ _ rfl w.heap.size acc.length c2 g2 gb 0 v.length cb acc v (by rfl) (by rfl) HOI.out HRV.out rfl (by omega) (by omega) ?_; intro g' c' w3 ho3 hb3 hg3 hat)
          have hb3s := hg3.size
          have hrv3 : RdC w3 (some ⟨gb, 0, none⟩) (stCells v) := HRV.out.keep fun b' off' h => by
            simp only [Option.some.injEq, Addr.mk.injEq, and_true] at h
            obtain ⟨rfl, _⟩ := h
            exact (Kp.refl _ _).grown hg3 (by simp; omega)
          go_roundw
          case rel => exact ⟨j + 1, acc ++ v, g', c', by omega, by go_num, HAS.out, by simp, by simpa using ho3, hrv3, by omega, by omega, hbi.trans hb3⟩
          case measure => simp [intOf]; omega
        · have hjnn : nn = j := by omega
          have HJ := Lib.hid hjnn
          have HAL := Lib.hid hal
          have hal2 : acc.length ≤ 20480 := by omega
          have hdj : decide ((j : Int) < (nn : Int)) = false := by simp; omega
          clear hal hjnn
          go_wp2_with fail
          go_roundw
          case rel => exact ⟨q + 1, r, u, acc, g2, c2, by omega, by go_num, rfl, HRS.out, HU.out, by have := HM.out; rw [HAC.out, ← HJ.out, List.append_assoc]; exact this, HOI.out, hbi⟩
          case measure => simp [intOf]; omega
theorem ret_sl {a : Option Addr} {n n' c : Nat} {x y : Int} (h : n = n') (h' : x = y) : Ending.returned (.tuple #[.slice a n c, .int .i64 x]) = .returned (.tuple #[.slice a n' c, .int .i64 y]) := by rw [h, h']
set_option maxHeartbeats 4000000 in
theorem l10Block_ur (B : Nat) : ∀ (xs blk tail us : List St) (ad : Option Addr) (cp k0 : Nat) (w : World), B ≤ 3 → Ur B blk us → xs.length ≤ 40 → k0 ≤ xs.length → xs.drop k0 = blk ++ tail → (∀ s r, tail = s :: r → s.op = 13) → RdC w ad (stCells xs) →
    Calls Try.prog 101 #[.slice ad xs.length cp, .int .i64 k0] w fun e w' => ∃ g c, e = .returned (.tuple #[.slice (some ⟨g, 0, none⟩) us.length c, .int .i64 ((k0 + blk.length : Nat) : Int)]) ∧ Own w' w.heap.size 90 6 (some ⟨g, 0, none⟩) us.length c (stCells us) ∧ Below w.heap.size w w' := by
  induction B using Nat.strongRecOn with
  | ind B IH =>
  intro xs blk tail us ad cp k0 w hB hu hm hk0 hd0 ht hr
  have HIH := Lib.hid IH
  have HT := Lib.hid ht
  have hbl0 : k0 + blk.length ≤ xs.length ∨ blk = [] := by
    have := congrArg List.length hd0
    simp at this
    by_cases h : blk = []
    · exact .inr h
    · have : 0 < blk.length := List.length_pos_iff.2 h
      exact .inl (by omega)
  have hbl40 : blk.length ≤ 40 := by rcases hbl0 with h | h <;> (first | omega | (rw [h]; simp))
  have hbd2 : us.length ≤ 20480 := Nat.le_trans (ur_bound hu) (Nat.le_trans (Nat.mul_le_mul (Nat.pow_le_pow_right (by omega) hB) hbl40) (by decide))
  have HR := Lib.hid hr
  have HD0 := Lib.hid hd0
  clear IH ht hbl0 hd0
  go_enter Try.func101, Try.ntmps101
  go_wp2_with fail
  have HO := Lib.hid (own_empty w 90 6)
  go_loopw [1, 6] (fun i ov wr => ∃ (k : Nat) (rest ur done : List St) (g c : Nat), k ≤ xs.length ∧ i = .int .i64 k ∧ ov = .slice (some ⟨g, 0, none⟩) done.length c ∧ xs.drop k = rest ++ tail ∧ Ur B rest ur ∧ done ++ ur = us ∧ k + rest.length = k0 + blk.length ∧ Own wr w.heap.size 90 6 (some ⟨g, 0, none⟩) done.length c (stCells done) ∧ Below w.heap.size w wr) (fun i _ _ => xs.length - (intOf i).toNat)
  case atStart => exact ⟨k0, blk, us, [], w.heap.size, 0, by omega, rfl, rfl, HD0.out, hu, rfl, rfl, HO.out, (by (repeat (first | with_reducible exact Below.refl _ _ | (with_reducible refine bel_next ?_ ?_ (by assumption)) | (with_reducible refine Below.alloc ?_ ?_ _) | (with_reducible refine Below.drew ?_) | (with_reducible refine below_drewN ?_ _) | (with_reducible refine Below.setCell ?_ ?_ _))) <;> (first | omega | (simp; done) | (simp; omega)))⟩
  case round =>
    obtain ⟨k, rest, ur, done, g, c, hk, rfl, rfl, hd, hur, hml, hkl, hown, hbw⟩ := hrel
    have hbs := hbw.size
    have hgl := hown.ge
    have hml2 : done.length + ur.length = us.length := by rw [← hml]; simp
    rcases ur_cases hur with ⟨rfl, rfl⟩ | ⟨s, r, u, rfl, rfl, hs1, hs2, hs3, hu2⟩ | ⟨B', l, e, body, r, v, u, rfl, rfl, rfl, hl1, he1, hl2, he2, hu1, hu2⟩
    · have hmm : done = us := by simpa using hml
      have hkk : k = k0 + blk.length := by simpa using hkl
      have HKK := Lib.hid hkk
      have HOW := Lib.hid hown
      subst hmm
      by_cases hlt : k < xs.length
      · obtain ⟨b, off, op, dst, sa, sb, sc, sn, rfl, hbl, hx', c0, c1, c2, c3, c4, c5⟩ := (hr.below hbw).st k hlt
        have ho : op = 13 := by
          cases tail with
          | nil => simp at hd; omega
          | cons s r => have h1 := HT.out s r rfl; have := (drop_at hd).1; rw [hx'] at this; simp only [Option.some.injEq] at this; rw [← this] at h1; exact h1
        subst ho
        clear hd hur hml hu hr hkk hkl hx' hown
        go_wp2_with fail
        go_ret2
        exact ⟨g, c, ret_sl rfl (by have := HKK.out; omega), HOW.out, hbw⟩
      · clear hd hur hml hu hr hkk hkl hown
        go_wp2_with fail
        go_ret2
        exact ⟨g, c, ret_sl rfl (by have := HKK.out; omega), HOW.out, hbw⟩
    · obtain ⟨hx, hd2, hlt⟩ := drop_at hd
      obtain ⟨b, off, op, dst, sa, sb, sc, sn, rfl, hbl, hx', c0, c1, c2, c3, c4, c5⟩ := (hr.below hbw).st k hlt
      rw [hx] at hx'
      simp only [Option.some.injEq] at hx'
      subst hx'
      simp only at hs2 hs3
      have q12 : (op != 12) = true := by simpa using hs2
      have q13 : (op != 13) = true := by simpa using hs3
      have HK := Lib.hid hkl
      clear hkl
      have HD := Lib.hid hd2
      have HU := Lib.hid hu2
      have HM := Lib.hid hml
      have HOW := Lib.hid hown
      have hmb : done.length ≤ 20480 := by omega
      have HNEW := Lib.hid (fun W => RdC.alloc W (St.cells ⟨op, dst, sa, sb, sc, sn⟩).toArray 90)
      clear hd hur hx hd2 hu2 hml hs1 hs2 hs3 hu hr hown hml2
      go_wp2_with (refine wpList_appSt _ rfl _ _ rfl w.heap.size done.length c g wr.heap.size 0 1 1 done [⟨op, dst, sa, sb, sc, sn⟩] (by rfl) (by rfl) (HOW.out.alloc _) (HNEW.out _) rfl (by omega) (by simp; omega) ?_; intro g' c' w2 ho2 hb2 hg2 hat)
      go_roundw
      case rel => exact ⟨k + 1, r, u, done ++ [⟨op, dst, sa, sb, sc, sn⟩], g', c', by omega, by go_num, by simp, HD.out, HU.out, by have := HM.out; simpa using this, by have := HK.out; simp at this; omega, by simpa using ho2, (by (repeat (first | with_reducible exact Below.refl _ _ | (with_reducible refine bel_next ?_ ?_ (by assumption)) | (with_reducible refine Below.alloc ?_ ?_ _) | (with_reducible refine Below.drew ?_) | (with_reducible refine below_drewN ?_ _) | (with_reducible refine Below.setCell ?_ ?_ _))) <;> (first | omega | (simp; done) | (simp; omega)))⟩
      case measure => simp [intOf]; omega
    · have hda : xs.drop k = l :: (body ++ e :: (r ++ tail)) := by rw [hd]; simp
      obtain ⟨hx, hd2, hlt⟩ := drop_at hda
      obtain ⟨b, off, op, dst, sa, sb, sc, sn, rfl, hbl, hx', w0, w1, w2, w3, w4, w5⟩ := hr.st k hlt
      rw [hx] at hx'
      simp only [Option.some.injEq] at hx'
      subst hx'
      simp only at hl2
      subst hl2
      obtain ⟨n1, n8⟩ := stOk_loop hl1 rfl
      simp only at n1 n8
      obtain ⟨nn, rfl⟩ := Int.eq_ofNat_of_zero_le (show 0 ≤ sn by omega)
      obtain ⟨q, hq⟩ : ∃ q, q = k + 1 + body.length := ⟨_, rfl⟩
      have hlen : xs.length - k = 1 + (body.length + (1 + (r.length + tail.length))) := by
        have := congrArg List.length hda
        simp at this; omega
      have hqlt : q < xs.length := by omega
      have hrest : xs.drop (q + 1) = r ++ tail := by
        rw [show q + 1 = (k + 1) + (body.length + 1) from by omega, ← List.drop_drop, hd2, ← List.drop_drop, List.drop_left']; rfl; rfl
      have hub : v.length ≤ 20480 := Nat.le_trans (ur_bound hu1) (Nat.le_trans (Nat.mul_le_mul (Nat.pow_le_pow_right (by omega) (by omega : B' ≤ 3)) (by omega : body.length ≤ 40)) (by decide))
      have hsub := fun W hR => HIH.out B' (by omega) xs body (e :: (r ++ tail)) v (some ⟨b, off, none⟩) cp (k + 1) W (by omega) hu1 hm (by omega) hd2 (by intro s r' h; cases h; exact he2) hR
      rw [← hq] at hsub
      have HSUB := Lib.hid hsub
      have hkl2 : q + 1 + r.length = k0 + blk.length := by rw [← hkl]; simp; omega
      have HK := Lib.hid hkl2
      have HRS := Lib.hid hrest
      have HU := Lib.hid hu2
      have hPle : nn * v.length ≤ us.length := by rw [← hml, List.length_append, List.length_append, repS_length]; simp; omega
      have HM := Lib.hid hml
      have hdl : done.length + nn * v.length ≤ 20480 := by
        have h := hml2
        rw [List.length_append, repS_length] at h
        simp at h; omega
      have HOW := Lib.hid hown
      have hkq : k < q := by omega
      clear hd hda hur hx hd2 hu2 hml hml2 hu hrest hsub hlen hq hl1 he1 he2 hu1 hown hPle hkl hkl2
      have c5 := bel_keeps hbw w5
      have c0 := bel_keeps hbw w0
      have HRW := Lib.hid hr
      clear hr
      go_wp2_with (go_at_call 101; refine (HSUB.out _ (HRW.out.below (by (repeat (first | with_reducible exact Below.refl _ _ | (with_reducible refine bel_next ?_ ?_ (by assumption)) | (with_reducible refine Below.alloc ?_ ?_ _) | (with_reducible refine Below.drew ?_) | (with_reducible refine below_drewN ?_ _) | (with_reducible refine Below.setCell ?_ ?_ _))) <;> (first | omega | (simp; done) | (simp; omega))))).mono ?_; rintro e1 wb ⟨gb, cb, rfl, hob, hbb⟩)
      have hbz := hbb.size
      have hgb := hob.ge
      have HOB := Lib.hid hob
      have HOD : Hid (Own wb w.heap.size 90 6 (some ⟨g, 0, none⟩) done.length c (stCells done)) := HOW.out.later ((Kp.refl _ _).below hbb)
      have hbwb : Below w.heap.size w wb := (by (repeat (first | with_reducible exact Below.refl _ _ | (with_reducible refine bel_next ?_ ?_ (by assumption)) | (with_reducible refine Below.alloc ?_ ?_ _) | (with_reducible refine Below.drew ?_) | (with_reducible refine below_drewN ?_ _) | (with_reducible refine Below.setCell ?_ ?_ _))) <;> (first | omega | (simp; done) | (simp; omega)))
      have HBWB := Lib.hid hbwb
      clear hob hbwb c5 c0
      go_loopw [6, 9] (fun ov i wi => ∃ (j : Nat) (acc : List St) (g2 c2 : Nat), j ≤ nn ∧ i = .int .i64 j ∧ acc = done ++ repS (j : Int) v ∧ ov = .slice (some ⟨g2, 0, none⟩) acc.length c2 ∧ Own wi w.heap.size 90 6 (some ⟨g2, 0, none⟩) acc.length c2 (stCells acc) ∧ RdC wi (some ⟨gb, 0, none⟩) (stCells v) ∧ g2 ≠ gb ∧ gb < wi.heap.size ∧ Below w.heap.size w wi) (fun _ i _ => nn - (intOf i).toNat)
      case atStart => exact ⟨0, done, g, c, Nat.zero_le _, rfl, by simp [repS_zero], rfl, HOD.out, HOB.out.rd, by omega, by omega, HBWB.out⟩
      case round =>
        obtain ⟨j, acc, g2, c2, hj, rfl, hacc, rfl, howi, hrv, hne, hgl2, hbi⟩ := hrel
        have hbis := hbi.size
        have hgi := howi.ge
        have c5 := bel_keeps hbi w5
        have hal : acc.length + (nn - j) * v.length = done.length + nn * v.length := by
          rw [hacc, List.length_append, repS_length]
          simp only [Int.toNat_natCast]
          have := Nat.add_mul j (nn - j) v.length
          rw [show j + (nn - j) = nn from by omega] at this
          omega
        have HOI := Lib.hid howi
        have HRV := Lib.hid hrv
        have HAC := Lib.hid hacc
        clear howi hrv hacc
        by_cases hjn : j < nn
        · have hstep : acc.length + v.length ≤ 20480 := by
            have : (nn - j) * v.length = (nn - j - 1) * v.length + v.length := by
              have := Nat.succ_mul (nn - j - 1) v.length
              rw [show (nn - j - 1).succ = nn - j from by omega] at this
              exact this
            omega
          have HAS : Hid (acc ++ v = done ++ repS ((j + 1 : Nat) : Int) v) := by
            show _ = _
            rw [HAC.out, Int.natCast_add, show ((1 : Nat) : Int) = 1 from rfl, repS_succ, List.append_assoc]
          clear hal
          go_wp2_with (refine wpList_appSt _ rfl _ _ rfl w.heap.size acc.length c2 g2 gb 0 v.length cb acc v (by rfl) (by rfl) HOI.out HRV.out rfl (by omega) (by omega) ?_; intro g' c' w3 ho3 hb3 hg3 hat)
          have hb3s := hg3.size
          have hrv3 : RdC w3 (some ⟨gb, 0, none⟩) (stCells v) := HRV.out.keep fun b' off' h => by
            simp only [Option.some.injEq, Addr.mk.injEq, and_true] at h
            obtain ⟨rfl, _⟩ := h
            exact (Kp.refl _ _).grown hg3 (by simp; omega)
          go_roundw
          case rel => exact ⟨j + 1, acc ++ v, g', c', by omega, by go_num, HAS.out, by simp, by simpa using ho3, hrv3, by omega, by omega, hbi.trans hb3⟩
          case measure => simp [intOf]; omega
        · have hjnn : nn = j := by omega
          have HJ := Lib.hid hjnn
          have HAL := Lib.hid hal
          have hal2 : acc.length ≤ 20480 := by omega
          have hdj : decide ((j : Int) < (nn : Int)) = false := by simp; omega
          clear hal hjnn
          go_wp2_with fail
          go_roundw
          case rel => exact ⟨q + 1, r, u, acc, g2, c2, by omega, by go_num, rfl, HRS.out, HU.out, by have := HM.out; rw [HAC.out, ← HJ.out, List.append_assoc]; exact this, HK.out, HOI.out, hbi⟩
          case measure => simp [intOf]; omega

/-- What Unroll hands back. -/
def IsUnr (xs us : List St) (ok : Bool) : Prop :=
  (ok = false ∧ us = [] ∧ progOk xs = false) ∨ (ok = false ∧ us = [] ∧ progOk xs = true ∧ xs.length ≤ 40 ∧ ∃ u, Ur 3 xs u ∧ 120 < u.length ∧ u.length ≤ 20480) ∨
  (ok = true ∧ progOk xs = true ∧ xs.length ≤ 40 ∧ Ur 3 xs us ∧ us.length ≤ 120)
theorem unr_ex (xs : List St) : ∃ us ok, IsUnr xs us ok := by
  obtain ⟨v, hv⟩ := size_ex xs
  rcases hv with ⟨h, _⟩ | ⟨h, hl, us, hu, _, hb⟩
  · exact ⟨[], false, .inl ⟨rfl, rfl, h⟩⟩
  · by_cases h120 : us.length ≤ 120
    · exact ⟨us, true, .inr (.inr ⟨rfl, h, hl, hu, h120⟩)⟩
    · exact ⟨[], false, .inr (.inl ⟨rfl, rfl, h, hl, us, hu, by omega, hb⟩)⟩
theorem unr_len {xs us : List St} {ok : Bool} (h : IsUnr xs us ok) : us.length ≤ 120 := by
  rcases h with ⟨_, rfl, _⟩ | ⟨_, rfl, _⟩ | ⟨_, _, _, _, h⟩
  · simp
  · simp
  · exact h

set_option maxHeartbeats 1000000 in
theorem iUnroll_any (xs us : List St) (ok : Bool) (hv : IsUnr xs us ok) (ad : Option Addr) (cp : Nat) (w : World) (hm : xs.length ≤ maxLen) (hcp : xs.length ≤ cp) (hcm : cp ≤ maxLen) (hr : RdC w ad (stCells xs)) :
    Calls Try.prog 77 #[.slice ad xs.length cp] w fun e w' => ∃ a c, e = .returned (.tuple #[.slice a us.length c, .bool ok]) ∧ Own w' w.heap.size 90 6 a us.length c (stCells us) ∧ Below w.heap.size w w' := by
  have hmm := hm
  unfold maxLen at hm
  have HR := Lib.hid hr
  clear hr
  rcases hv with ⟨rfl, rfl, hp⟩ | ⟨rfl, rfl, hp, hl, u, hu, h1, h2⟩ | ⟨rfl, hp, hl, hu, h1⟩
  · have HP := Lib.hid hp
    clear hp
    go_enter Try.func77, Try.ntmps77
    go_wp2_with (go_at_call 86; refine (iProgramOk_any xs _ _ _ (by unfold maxLen; omega) HR.out).mono ?_; rintro e w1 ⟨rfl, hb⟩; rw [HP.out])
    go_ret2
    exact ⟨none, 0, rfl, Own.nil _ _ _ _, hb⟩
  · have HP := Lib.hid hp
    have HU := Lib.hid hu
    clear hp hu
    go_enter Try.func77, Try.ntmps77
    go_wp2_with (first | (go_at_call 86; refine (iProgramOk_any xs _ _ _ (by unfold maxLen; omega) HR.out).mono ?_; rintro e w1 ⟨rfl, hb⟩; rw [HP.out]) | (go_at_call 44; refine (iUnrolledSize_ur 3 xs u _ _ _ (Nat.le_refl _) HU.out hl hcp hcm (HR.out.below hb)).mono ?_; rintro e w2 ⟨rfl, hb2⟩))
    go_ret2
    exact ⟨none, 0, rfl, Own.nil _ _ _ _, hb.trans (hb2.mono hb.size)⟩
  · have HP := Lib.hid hp
    have HU := Lib.hid hu
    clear hp hu
    go_enter Try.func77, Try.ntmps77
    go_wp2_with (first | (go_at_call 86; refine (iProgramOk_any xs _ _ _ (by unfold maxLen; omega) HR.out).mono ?_; rintro e w1 ⟨rfl, hb⟩; rw [HP.out]) | (go_at_call 44; refine (iUnrolledSize_ur 3 xs us _ _ _ (Nat.le_refl _) HU.out hl hcp hcm (HR.out.below hb)).mono ?_; rintro e w2 ⟨rfl, hb2⟩) | (go_at_call 103; refine (unrolled_ur 3 xs us _ _ _ (Nat.le_refl _) HU.out hl hcp hcm ((HR.out.below hb).below hb2)).mono ?_; rintro e w3 ⟨g, c, rfl, ho, hb3⟩))
    go_ret2
    have z1 := hb.size
    have z2 := hb2.size
    exact ⟨some ⟨g, 0, none⟩, c, rfl, ho.lo (by omega), (hb.trans (hb2.mono z1)).trans (hb3.mono (by omega))⟩

set_option maxHeartbeats 1000000 in
theorem sUnroll_any (xs us : List St) (ok : Bool) (hv : IsUnr xs us ok) (ad : Option Addr) (cp : Nat) (w : World) (hm : xs.length ≤ maxLen) (hcp : xs.length ≤ cp) (hcm : cp ≤ maxLen) (hr : RdC w ad (stCells xs)) :
    Calls Try.prog 74 #[.slice ad xs.length cp] w fun e w' => ∃ a c, e = .returned (.tuple #[.slice a us.length c, .bool ok]) ∧ Own w' w.heap.size 90 6 a us.length c (stCells us) ∧ Below w.heap.size w w' := by
  have hmm := hm
  unfold maxLen at hm
  have HR := Lib.hid hr
  clear hr
  rcases hv with ⟨rfl, rfl, hp⟩ | ⟨rfl, rfl, hp, hl, u, hu, h1, h2⟩ | ⟨rfl, hp, hl, hu, h1⟩
  · have HV := Lib.hid (show IsSize xs (-1) from .inl ⟨hp, rfl⟩)
    clear hp
    go_enter Try.func74, Try.ntmps74
    go_wp2_with (go_at_call 100; refine (sUnrolledSize_any xs (-1) HV.out _ _ _ hmm hcp hcm HR.out).mono ?_; rintro e w1 ⟨rfl, hb⟩)
    go_ret2
    have z1 := hb.size
    exact ⟨some ⟨w1.heap.size, 0, none⟩, 0, rfl, (own_empty w1 _ 6).lo z1, hb.alloc z1 _⟩
  · have HV := Lib.hid (show IsSize xs u.length from .inr ⟨hp, hl, u, hu, rfl, h2⟩)
    clear hp hu
    go_enter Try.func74, Try.ntmps74
    go_wp2_with (go_at_call 100; refine (sUnrolledSize_any xs _ HV.out _ _ _ hmm hcp hcm HR.out).mono ?_; rintro e w1 ⟨rfl, hb⟩)
    go_ret2
    have z1 := hb.size
    exact ⟨some ⟨w1.heap.size, 0, none⟩, 0, rfl, (own_empty w1 _ 6).lo z1, hb.alloc z1 _⟩
  · have HV := Lib.hid (show IsSize xs us.length from .inr ⟨hp, hl, us, hu, rfl, by omega⟩)
    have HU := Lib.hid hu
    clear hp hu
    go_enter Try.func74, Try.ntmps74
    go_wp2_with (first | (go_at_call 100; refine (sUnrolledSize_any xs _ HV.out _ _ _ hmm hcp hcm HR.out).mono ?_; rintro e w1 ⟨rfl, hb⟩) | (go_at_call 101; refine (l10Block_ur 3 xs xs [] us _ _ 0 _ (Nat.le_refl _) HU.out hl (Nat.zero_le _) (by simp) (by intro s r h; cases h) (HR.out.below hb)).mono ?_; rintro e w3 ⟨g, c, rfl, ho, hb3⟩))
    go_ret2
    have z1 := hb.size
    exact ⟨some ⟨g, 0, none⟩, c, rfl, ho.lo (by omega), hb.trans (hb3.mono z1)⟩
end Go.Proofs.Ytfcijloiebnloaa
