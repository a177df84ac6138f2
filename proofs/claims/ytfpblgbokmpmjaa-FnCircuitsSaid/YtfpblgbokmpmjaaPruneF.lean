/- What pruning keeps. -/
import Derived.Test.YtfpblgbokmpmjaaPruneP
namespace Go.Proofs.Ytfpblgbokmpmjaa
open Go.RowKit
set_option linter.unusedVariables false
set_option linter.unusedSimpArgs false

theorem bat_bound {l : List Bool} {i : Nat} (h : bat l i = true) : i < l.length := by
  rcases Nat.lt_or_ge i l.length with hl | hl
  · exact hl
  · simp [bat, List.getD, List.getElem?_eq_none hl] at h
theorem live_on {gs : List Gt} (h : gtsOk 0 gs = true) {k : Nat} {l : List Bool} (hk : k < gs.length) (hb : bat (liveD gs (k + 1) l) k = true) : bat l k = true := by
  have hg : gs[k]? = some gs[k] := List.getElem?_eq_getElem hk
  have h1 := refs_lt (gtsOk_get h hg)
  rw [liveD_step l hg, liveD_high h _ _ _ (Nat.le_refl _), bat_step] at hb
  cases ho : bat l k
  · simp [ho] at hb
  · rfl
theorem gateOk_re {g : Gt} {k : Nat} {m : Int} (h : gateOk g.kd g.ga g.gb k = true) (to : List Int) (ha : usesA g = true → 0 ≤ at0 to g.ga ∧ at0 to g.ga < m) (hb : usesB g = true → 0 ≤ at0 to g.gb ∧ at0 to g.gb < m) :
    gateOk (reG to g).kd (reG to g).ga (reG to g).gb m = true := by
  obtain ⟨kd, ga, gb⟩ := g
  rcases gate_cases h with h | h | h | h | h
  · obtain ⟨h1, h2, h3⟩ := h
    simp only at h1 h2 h3; subst h1; subst h2
    simp [reG, usesA, usesB, gateOk, inB]; omega
  · obtain ⟨h1, h2, h3⟩ := h
    simp only at h1 h2 h3; subst h1; subst h2
    simp [reG, usesA, usesB, gateOk, inB]; omega
  · obtain ⟨h1, h2⟩ := h
    simp only at h1; subst h1
    have h3 := ha (by simp [usesA]); have h4 := hb (by simp [usesB])
    simp [reG, usesA, usesB, gateOk] at h3 h4 ⊢; omega
  · obtain ⟨h1, h2⟩ := h
    simp only at h1; subst h1
    have h3 := ha (by simp [usesA]); have h4 := hb (by simp [usesB])
    simp [reG, usesA, usesB, gateOk] at h3 h4 ⊢; omega
  · obtain ⟨h1, h2, h3⟩ := h
    simp only at h1 h2; subst h1; subst h2
    have h3 := ha (by simp [usesA])
    simp [reG, usesA, usesB, gateOk] at h3 ⊢; omega

theorem get_of {gs : List Gt} (k : Nat) (hk : k < gs.length) : gs[k]? = some gs[k] := List.getElem?_eq_getElem hk
theorem at0_evalW_take {gs : List Gt} {bs : List Int} {k : Nat} {a : Int} (h0 : 0 ≤ a) (h1 : a < k) (hk : k ≤ gs.length) : at0 (evalW bs gs) a = at0 (evalW bs (gs.take k)) a := by
  have e : ∀ m, k ≤ m → m ≤ gs.length → at0 (evalW bs (gs.take m)) a = at0 (evalW bs (gs.take k)) a := by
    intro m
    induction m with
    | zero => intro h2 h3; rw [show k = 0 by omega]
    | succ m ih =>
      intro h2 h3
      by_cases hm : k = m + 1
      · rw [hm]
      · rw [evalW_snoc (get_of m (by omega)), at0_append (by rw [evalW_len, List.length_take]; omega)]
        exact ih (by omega) (by omega)
  have := e gs.length hk (Nat.le_refl _)
  rwa [List.take_length] at this
theorem evalW_at {gs : List Gt} (bs : List Int) {k : Nat} {g : Gt} (hg : gs[k]? = some g) (hk : k < gs.length) : at0 (evalW bs gs) (k : Int) = gval bs (evalW bs (gs.take k)) g := by
  rw [at0_evalW_take (k := k + 1) (by omega) (by omega) (by omega), evalW_snoc hg, at0_nat]
  have hl : (evalW bs (gs.take k)).length = k := by rw [evalW_len, List.length_take]; omega
  simp [List.getD, List.getElem?_append_right, hl]
theorem gval_same (bs : List Int) {o1 o2 : List Int} {g1 g2 : Gt} (hk : g1.kd = g2.kd) (h1 : usesA g1 = false → g1.ga = g2.ga) (ha : usesA g1 = true → at0 o1 g1.ga = at0 o2 g2.ga) (hb : usesB g1 = true → at0 o1 g1.gb = at0 o2 g2.gb) {m : Int} (hok : gateOk g1.kd g1.ga g1.gb m = true) :
    gval bs o1 g1 = gval bs o2 g2 := by
  obtain ⟨k1, a1, b1⟩ := g1
  obtain ⟨k2, a2, b2⟩ := g2
  simp only at hk; subst hk
  simp only [usesA, usesB] at h1 ha hb
  unfold gval
  by_cases h3 : k1 = 3
  · subst h3; simp at ha hb; simp [ha, hb]
  by_cases h4 : k1 = 4
  · subst h4; simp at ha hb; simp [ha, hb]
  by_cases h5 : k1 = 5
  · subst h5; simp at ha; simp [ha]
  have : k1 = 1 ∨ k1 = 2 := by
    by_cases e1 : k1 = 1
    · exact .inl e1
    by_cases e2 : k1 = 2
    · exact .inr e2
    exfalso
    simp [gateOk, e1, e2, h3, h4, h5] at hok
  have e := h1 (by simp [h3, h4, h5])
  rcases this with rfl | rfl <;> simp [e]

theorem live_closed {gs : List Gt} {os : List Int} (h : circOk gs os = true) (i : Nat) (g : Gt) (hg : gs[i]? = some g) (hb : bat (liveL gs os) i = true) :
    (usesA g = true → bat (liveL gs os) g.ga.toNat = true) ∧ (usesB g = true → bat (liveL gs os) g.gb.toNat = true) := by
  have hi : i < gs.length := by have := bat_bound hb; simpa using this
  exact liveD_closed (circ_parts h).1 gs.length _ (Nat.le_refl _) (by simp) i g hi hg hb
theorem live_out {gs : List Gt} {os : List Int} (h : circOk gs os = true) (o : Int) (ho : o ∈ os) : 0 ≤ o ∧ o < gs.length ∧ bat (liveL gs os) o.toNat = true := by
  have h1 := allB_iff.1 (circ_parts h).2.1 o ho
  exact ⟨h1.1, by omega, liveD_mono _ _ _ _ ((bat_live0 _ _ _).2 ⟨by omega, o, ho, rfl⟩)⟩
/-- A wire that a live gate reads has its number. -/
theorem ref_at {gs : List Gt} {os : List Int} (h : circOk gs os = true) {k : Nat} {g : Gt} (hg : gs[k]? = some g) (hb : bat (liveL gs os) k = true) (hk : k < gs.length) :
    (usesA g = true → 0 ≤ at0 (prT (liveL gs os) gs k).1 g.ga ∧ at0 (prT (liveL gs os) gs k).1 g.ga < (prT (liveL gs os) gs k).2.length) ∧
    (usesB g = true → 0 ≤ at0 (prT (liveL gs os) gs k).1 g.gb ∧ at0 (prT (liveL gs os) gs k).1 g.gb < (prT (liveL gs os) gs k).2.length) := by
  have h1 := refs_lt (gtsOk_get (circ_parts h).1 hg)
  have h2 := live_closed h k g hg hb
  have key : ∀ a : Int, 0 ≤ a → a < k → bat (liveL gs os) a.toNat = true → 0 ≤ at0 (prT (liveL gs os) gs k).1 a ∧ at0 (prT (liveL gs os) gs k).1 a < (prT (liveL gs os) gs k).2.length := by
    intro a h3 h4 h5
    have h6 := prT_at a.toNat gs[a.toNat] (List.getElem?_eq_getElem (by omega)) h5 k (by omega) (by omega)
    rw [Int.toNat_of_nonneg h3] at h6
    exact ⟨h6.1, h6.2.1⟩
  refine ⟨fun ha => key _ (h1.1 ha).1 (h1.1 ha).2 (h2.1 ha), fun hb => key _ (h1.2 hb).2.1 (h1.2 hb).2.2 (h2.2 hb)⟩
theorem prT_ok {gs : List Gt} {os : List Int} (h : circOk gs os = true) : ∀ k, k ≤ gs.length → gtsOk 0 (prT (liveL gs os) gs k).2 = true
  | 0, _ => rfl
  | k + 1, hk => by
    have hg := get_of (gs := gs) k (by omega)
    have ih := prT_ok h k (by omega)
    cases hb : bat (liveL gs os) k
    · rw [prT_skip hg hb]; exact ih
    · rw [prT_step hg hb]
      have h1 := ref_at h hg hb (by omega)
      have h2 := gateOk_re (m := ((prT (liveL gs os) gs k).2.length : Int)) (gtsOk_get (circ_parts h).1 hg) (prT (liveL gs os) gs k).1 h1.1 h1.2
      rw [gtsOk_append, ih]
      simp [gtsOk, h2]
theorem out_at {gs : List Gt} {os : List Int} (h : circOk gs os = true) (o : Int) (ho : o ∈ os) : 0 ≤ at0 (pruneTo gs os) o ∧ at0 (pruneTo gs os) o < (pruneG gs os).length := by
  obtain ⟨h1, h2, h3⟩ := live_out h o ho
  have h6 := prT_at o.toNat gs[o.toNat] (List.getElem?_eq_getElem (by omega)) h3 gs.length (by omega) (Nat.le_refl _)
  rw [Int.toNat_of_nonneg h1] at h6
  exact ⟨h6.1, h6.2.1⟩
theorem prune_ok {gs : List Gt} {os : List Int} (h : circOk gs os = true) : circOk (pruneG gs os) (pruneO gs os) = true := by
  have h1 := prT_ok h gs.length (Nat.le_refl _)
  have h2 := (prT_len (liveL gs os) gs gs.length).2
  have h3 := (circ_parts h).2.2
  have h4 : allB (pruneO gs os) 0 (((pruneG gs os).length : Int) - 1) = true := by
    rw [allB_iff]
    intro x hx
    obtain ⟨o, ho, rfl⟩ := List.mem_map.1 hx
    have := out_at h o ho
    omega
  unfold circOk
  rw [h4, show gtsOk 0 (pruneG gs os) = true from h1]
  have h5 : (pruneG gs os).length ≤ 6000 := Nat.le_trans h2 h3
  simp [h5]
theorem prT_eval {gs : List Gt} {os : List Int} (h : circOk gs os = true) (bs : List Int) : ∀ k, k ≤ gs.length → ∀ i, i < k → bat (liveL gs os) i = true →
    at0 (evalW bs (prT (liveL gs os) gs k).2) (at0 (prT (liveL gs os) gs k).1 i) = at0 (evalW bs gs) (i : Int)
  | 0, _, i, hi, _ => by omega
  | k + 1, hk, i, hi, hbi => by
    have hg := get_of (gs := gs) k (by omega)
    have ih := prT_eval h bs k (by omega)
    have hl := prT_len (liveL gs os) gs k
    cases hb : bat (liveL gs os) k
    · rw [prT_skip hg hb]
      by_cases hik : i = k
      · subst hik; rw [hb] at hbi; cases hbi
      · exact ih i (by omega) hbi
    · rw [prT_step hg hb]
      simp only [at0_set (show k < (prT (liveL gs os) gs k).1.length by omega), evalW_append]
      by_cases hik : i = k
      · subst hik
        rw [if_pos rfl, at0_nat]
        have e : (evalW bs (prT (liveL gs os) gs i).2 ++ [gval bs (evalW bs (prT (liveL gs os) gs i).2) (reG (prT (liveL gs os) gs i).1 gs[i])]).getD (prT (liveL gs os) gs i).2.length 0 = gval bs (evalW bs (prT (liveL gs os) gs i).2) (reG (prT (liveL gs os) gs i).1 gs[i]) := by
          simp [List.getD, List.getElem?_append_right, evalW_len]
        rw [e, evalW_at bs hg (by omega)]
        have hok := gtsOk_get (circ_parts h).1 hg
        have h1 := refs_lt hok
        have h2 := live_closed h i _ hg hb
        have key : ∀ a : Int, 0 ≤ a → a < i → bat (liveL gs os) a.toNat = true → at0 (evalW bs (gs.take i)) a = at0 (evalW bs (prT (liveL gs os) gs i).2) (at0 (prT (liveL gs os) gs i).1 a) := by
          intro a h3 h4 h5
          have := ih a.toNat (by omega) h5
          rw [Int.toNat_of_nonneg h3] at this
          exact (this.trans (at0_evalW_take (gs := gs) h3 h4 (by omega))).symm
        obtain ⟨g, hgg⟩ : ∃ g, g = gs[i] := ⟨_, rfl⟩
        rw [← hgg] at hok h1 h2 ⊢
        have ea : usesA g = true → at0 (evalW bs (gs.take i)) g.ga = at0 (evalW bs (prT (liveL gs os) gs i).2) (reG (prT (liveL gs os) gs i).1 g).ga := by
          intro e
          have e' : (reG (prT (liveL gs os) gs i).1 g).ga = at0 (prT (liveL gs os) gs i).1 g.ga := by unfold reG; rw [if_pos e]
          rw [e']; exact key _ (h1.1 e).1 (h1.1 e).2 (h2.1 e)
        have eb : usesB g = true → at0 (evalW bs (gs.take i)) g.gb = at0 (evalW bs (prT (liveL gs os) gs i).2) (reG (prT (liveL gs os) gs i).1 g).gb := by
          intro e
          have e' : (reG (prT (liveL gs os) gs i).1 g).gb = at0 (prT (liveL gs os) gs i).1 g.gb := by unfold reG; rw [if_pos e]
          rw [e']; exact key _ (h1.2 e).2.1 (h1.2 e).2.2 (h2.2 e)
        exact (gval_same bs (g1 := g) (g2 := reG (prT (liveL gs os) gs i).1 g) rfl (fun e => by unfold reG; rw [if_neg (by simp [e])]) ea eb hok).symm
      · rw [if_neg hik]
        have h6 := prT_at i gs[i] (get_of (gs := gs) i (by omega)) hbi k (by omega) (by omega)
        rw [at0_append (by rw [evalW_len]; omega)]
        exact ih i (by omega) hbi
theorem prune_eval {gs : List Gt} {os : List Int} (h : circOk gs os = true) (bs : List Int) : evalOuts (pruneG gs os) (pruneO gs os) bs = evalOuts gs os bs ∧ evalB (pruneG gs os) (pruneO gs os) bs = evalB gs os bs := by
  have e2 : evalB (pruneG gs os) (pruneO gs os) bs = evalB gs os bs := by unfold evalB; rw [prune_ok h, h]
  refine ⟨?_, e2⟩
  unfold evalOuts
  rw [e2]
  split
  · unfold pruneO outsOf
    rw [List.map_map]
    refine List.map_congr_left fun o ho => ?_
    obtain ⟨h1, h2, h3⟩ := live_out h o ho
    have := prT_eval h bs gs.length (Nat.le_refl _) o.toNat (by omega) h3
    rw [Int.toNat_of_nonneg h1] at this
    exact this
  · rfl
theorem live_why {gs : List Gt} {os : List Int} (i : Nat) (hb : bat (liveL gs os) i = true) : (∃ o ∈ os, o.toNat = i) ∨ ∃ j g, j < gs.length ∧ gs[j]? = some g ∧ bat (liveL gs os) j = true ∧ ((usesA g = true ∧ g.ga.toNat = i) ∨ (usesB g = true ∧ g.gb.toNat = i)) := by
  rcases liveD_why (gs := gs) i gs.length (live0 gs.length os) hb with h | h
  · exact .inl ((bat_live0 _ _ _).1 h).2
  · exact .inr h
theorem prune_live0 {gs : List Gt} {os : List Int} (h : circOk gs os = true) : ∀ (d i : Nat), gs.length - i ≤ d → bat (liveL gs os) i = true → bat (liveL (pruneG gs os) (pruneO gs os)) (at0 (pruneTo gs os) (i : Int)).toNat = true := by
  intro d
  induction d with
  | zero =>
    intro i hd hb
    have := bat_bound hb
    simp at this
    omega
  | succ d ih =>
    intro i hd hb
    have hi := bat_bound hb
    simp at hi
    rcases live_why i hb with ⟨o, ho, rfl⟩ | ⟨j, g, hj, hg, hbj, hu⟩
    · obtain ⟨h2, h3, h4⟩ := live_out h o ho
      have h5 := out_at h o ho
      refine liveD_mono _ _ _ _ ((bat_live0 _ _ _).2 ⟨?_, at0 (pruneTo gs os) o, List.mem_map_of_mem ho, ?_⟩)
      · rw [Int.toNat_of_nonneg h2]; omega
      · rw [Int.toNat_of_nonneg h2]
    · have hr := refs_lt (gtsOk_get (circ_parts h).1 hg)
      have hij : i < j := by
        rcases hu with ⟨h1, h2⟩ | ⟨h1, h2⟩
        · have := hr.1 h1; omega
        · have := hr.2 h1; omega
      have ihj := ih j (by omega) hbj
      have hat := prT_at j g hg hbj gs.length hj (Nat.le_refl _)
      have hc := live_closed (prune_ok h) _ _ hat.2.2 ihj
      have key : ∀ a : Int, 0 ≤ a → a.toNat = i → at0 (prT (liveL gs os) gs j).1 a = at0 (pruneTo gs os) (i : Int) := by
        intro a h0 h1
        have := prT_same (l := liveL gs os) (gs := gs) i j gs.length hij (by omega) (Nat.le_refl _)
        rw [← h1, Int.toNat_of_nonneg h0] at this ⊢
        exact this.symm
      rcases hu with ⟨h1, h2⟩ | ⟨h1, h2⟩
      · have := hc.1 h1
        have e : (reG (prT (liveL gs os) gs j).1 g).ga = at0 (prT (liveL gs os) gs j).1 g.ga := by simp [reG, h1]
        rwa [e, key _ (hr.1 h1).1 h2] at this
      · have := hc.2 h1
        have e : (reG (prT (liveL gs os) gs j).1 g).gb = at0 (prT (liveL gs os) gs j).1 g.gb := by simp [reG, h1]
        rwa [e, key _ (hr.2 h1).2.1 h2] at this
/-- Every gate of a pruned circuit is needed. -/
theorem prune_live {gs : List Gt} {os : List Int} (h : circOk gs os = true) (m : Nat) (hm : m < (pruneG gs os).length) : bat (liveL (pruneG gs os) (pruneO gs os)) m = true := by
  obtain ⟨i, g, h1, h2, h3, h4⟩ := prT_from gs.length (Nat.le_refl _) m hm
  have := prune_live0 h _ i (Nat.le_refl _) h3
  have h4' : at0 (pruneTo gs os) (i : Int) = m := h4
  rwa [h4', Int.toNat_natCast] at this
theorem prT_id {gs : List Gt} {os : List Int} (h : circOk gs os = true) (hall : ∀ m, m < gs.length → bat (liveL gs os) m = true) : ∀ k, k ≤ gs.length → (prT (liveL gs os) gs k).2 = gs.take k ∧ ∀ i : Nat, i < k → at0 (prT (liveL gs os) gs k).1 (i : Int) = i
  | 0, _ => by simp [prT]
  | k + 1, hk => by
    obtain ⟨ih1, ih2⟩ := prT_id h hall k (by omega)
    have hg := get_of (gs := gs) k (by omega)
    have hl := prT_len (liveL gs os) gs k
    rw [prT_step hg (hall k (by omega))]
    have hok := gtsOk_get (circ_parts h).1 hg
    have h1 := refs_lt hok
    have key : ∀ a : Int, 0 ≤ a → a < k → at0 (prT (liveL gs os) gs k).1 a = a := by
      intro a h0 h3
      have := ih2 a.toNat (by omega)
      rwa [Int.toNat_of_nonneg h0] at this
    have e : reG (prT (liveL gs os) gs k).1 gs[k] = gs[k] := by
      have ea : (if usesA gs[k] then at0 (prT (liveL gs os) gs k).1 gs[k].ga else gs[k].ga) = gs[k].ga := by
        split
        · rename_i hu; exact key _ (h1.1 hu).1 (h1.1 hu).2
        · rfl
      have eb : (if usesB gs[k] then at0 (prT (liveL gs os) gs k).1 gs[k].gb else gs[k].gb) = gs[k].gb := by
        split
        · rename_i hu; exact key _ (h1.2 hu).2.1 (h1.2 hu).2.2
        · rfl
      unfold reG; rw [ea, eb]
    rw [e, ih1, take_snoc hg]
    refine ⟨rfl, fun i hi => ?_⟩
    simp only [at0_set (show k < (prT (liveL gs os) gs k).1.length by omega)]
    by_cases hik : i = k
    · subst hik; rw [if_pos rfl, List.length_take]; omega
    · rw [if_neg hik]; exact ih2 i (by omega)
theorem prune_id {gs : List Gt} {os : List Int} (h : circOk gs os = true) (hall : ∀ m, m < gs.length → bat (liveL gs os) m = true) : pruneG gs os = gs ∧ pruneO gs os = os := by
  obtain ⟨h1, h2⟩ := prT_id h hall gs.length (Nat.le_refl _)
  refine ⟨by unfold pruneG; rw [h1, List.take_length], ?_⟩
  unfold pruneO outsOf
  conv => rhs; rw [← List.map_id os]
  refine List.map_congr_left fun o ho => ?_
  obtain ⟨h3, h4, h5⟩ := live_out h o ho
  have := h2 o.toNat (by omega)
  rw [Int.toNat_of_nonneg h3] at this
  exact this
theorem pruneG_len (gs : List Gt) (os : List Int) : (pruneG gs os).length ≤ gs.length := (prT_len _ _ _).2
theorem prune_prune {gs : List Gt} {os : List Int} (h : circOk gs os = true) : pruneG (pruneG gs os) (pruneO gs os) = pruneG gs os ∧ pruneO (pruneG gs os) (pruneO gs os) = pruneO gs os :=
  prune_id (prune_ok h) fun m hm => prune_live h m hm
end Go.Proofs.Ytfpblgbokmpmjaa
