/- Simplifying a circuit, plainly. -/
import Derived.Test.YtfpblgbokmpmjaaPruneF
import Derived.Test.YtfpblgbokmpmjaaCircFacts
namespace Go.Proofs.Ytfpblgbokmpmjaa
open Go.RowKit
set_option linter.unusedVariables false
set_option linter.unusedSimpArgs false

/-- The wire of an equal gate, or of a new one. -/
def gGate (gs : List Gt) (g : Gt) : List Gt × Int := if gs.idxOf g < gs.length then (gs, (gs.idxOf g : Int)) else (gs ++ [g], (gs.length : Int))
theorem idxOf_eq {gs : List Gt} {g : Gt} {i : Nat} (h : gs[i]? = some g) (hn : ∀ j, j < i → gs[j]? ≠ some g) : gs.idxOf g = i := by
  induction gs generalizing i with
  | nil => simp at h
  | cons x r ih =>
    cases i with
    | zero => simp at h; subst h; simp
    | succ i =>
      have hx : x ≠ g := fun e => hn 0 (by omega) (by simp [e])
      simp at h
      have := ih h (fun j hj => by have := hn (j + 1) (by omega); simpa using this)
      rw [List.idxOf_cons, this]
      have hb : (x == g) = false := by simpa using hx
      simp [hb]
theorem gGate_found {gs : List Gt} {g : Gt} {i : Nat} (h : gs[i]? = some g) (hn : ∀ j, j < i → gs[j]? ≠ some g) : gGate gs g = (gs, (i : Int)) := by
  have hi : i < gs.length := (List.getElem?_eq_some_iff.1 h).1
  unfold gGate; rw [idxOf_eq h hn, if_pos hi]
theorem gGate_new {gs : List Gt} {g : Gt} (hn : g ∉ gs) : gGate gs g = (gs ++ [g], (gs.length : Int)) := by
  unfold gGate; rw [if_neg (by rw [List.idxOf_lt_length_iff]; exact hn)]
theorem gGate_nodup_found {gs : List Gt} {g : Gt} {i : Nat} (hd : gs.Nodup) (h : gs[i]? = some g) : gGate gs g = (gs, (i : Int)) :=
  gGate_found h fun j hj e => by
    obtain ⟨h1, h2⟩ := List.getElem?_eq_some_iff.1 h
    obtain ⟨h3, h4⟩ := List.getElem?_eq_some_iff.1 e
    have := (List.getElem_inj hd (h₀ := h3) (h₁ := h1)).1 (h4.trans h2.symm)
    omega

def valC (gs : List Gt) (w : Int) : Int := match gs[w.toNat]? with
  | some g => if g.kd = 2 then g.ga else -1
  | none => -1
def gNot (gs : List Gt) (w : Int) : List Gt × Int := match gs[w.toNat]? with
  | some g => if g.kd = 2 then gGate gs ⟨2, 1 - g.ga, 0⟩ else if g.kd = 5 then (gs, g.ga) else gGate gs ⟨5, w, 0⟩
  | none => (gs, 0)
def gXor (gs : List Gt) (a b : Int) : List Gt × Int :=
  if a = b then gGate gs ⟨2, 0, 0⟩ else if valC gs a = 0 then (gs, b) else if valC gs a = 1 then gNot gs b else if valC gs b = 0 then (gs, a) else if valC gs b = 1 then gNot gs a else gGate gs ⟨3, min a b, max a b⟩
def gAnd (gs : List Gt) (a b : Int) : List Gt × Int :=
  if a = b then (gs, a) else if valC gs a = 0 then gGate gs ⟨2, 0, 0⟩ else if valC gs a = 1 then (gs, b) else if valC gs b = 0 then gGate gs ⟨2, 0, 0⟩ else if valC gs b = 1 then (gs, a) else gGate gs ⟨4, min a b, max a b⟩
def simpS (gs : List Gt) (to : List Int) (g : Gt) : List Gt × Int :=
  if g.kd = 3 then gXor gs (at0 to g.ga) (at0 to g.gb) else if g.kd = 4 then gAnd gs (at0 to g.ga) (at0 to g.gb) else if g.kd = 5 then gNot gs (at0 to g.ga) else gGate gs g
def simpT (gs : List Gt) : List Gt × List Int := gs.foldl (fun s g => ((simpS s.1 s.2 g).1, s.2 ++ [(simpS s.1 s.2 g).2])) ([], [])
def simpG (gs : List Gt) : List Gt := (simpT gs).1
def simpO (gs : List Gt) (os : List Int) : List Int := outsOf (simpT gs).2 os
theorem simpT_append (gs : List Gt) (g : Gt) : simpT (gs ++ [g]) = ((simpS (simpT gs).1 (simpT gs).2 g).1, (simpT gs).2 ++ [(simpS (simpT gs).1 (simpT gs).2 g).2]) := by
  unfold simpT; rw [List.foldl_append]; rfl
theorem simpT_snoc {gs : List Gt} {k : Nat} {g : Gt} (h : gs[k]? = some g) : simpT (gs.take (k + 1)) = ((simpS (simpT (gs.take k)).1 (simpT (gs.take k)).2 g).1, (simpT (gs.take k)).2 ++ [(simpS (simpT (gs.take k)).1 (simpT (gs.take k)).2 g).2]) := by
  rw [take_snoc h, simpT_append]

/-- What a step leaves: the gates that were there, at most one more, no gate twice. -/
structure Stp (gs : List Gt) (r : List Gt × Int) (n : Nat) (v : List Int → Int) : Prop where
  pre : ∃ t, r.1 = gs ++ t ∧ t.length ≤ 1
  ok : gtsOk 0 r.1 = true
  nd : r.1.Nodup
  lo : 0 ≤ r.2
  hi : r.2 < r.1.length
  cnt : cntG 4 r.1 ≤ cntG 4 gs + n
  val : ∀ bs : List Int, allB bs 0 1 = true → at0 (evalW bs r.1) r.2 = v bs

theorem evalW_pre (bs : List Int) (gs t : List Gt) {a : Int} (h0 : 0 ≤ a) (h1 : a < gs.length) : at0 (evalW bs (gs ++ t)) a = at0 (evalW bs gs) a := by
  have := at0_evalW_take (gs := gs ++ t) (bs := bs) (k := gs.length) h0 h1 (by simp)
  rwa [List.take_left' rfl] at this
theorem nodup_snoc {gs : List Gt} {g : Gt} (h : gs.Nodup) (hn : g ∉ gs) : (gs ++ [g]).Nodup := by
  rw [List.nodup_append]
  exact ⟨h, by simp, fun a ha b hb => by simp at hb; subst hb; rintro rfl; exact hn ha⟩
/-- Staying where one is. -/
theorem Stp.same {gs : List Gt} {a : Int} {n : Nat} {v : List Int → Int} (hok : gtsOk 0 gs = true) (hd : gs.Nodup) (h0 : 0 ≤ a) (h1 : a < gs.length) (hn : 0 ≤ n) (hv : ∀ bs : List Int, allB bs 0 1 = true → at0 (evalW bs gs) a = v bs) : Stp gs (gs, a) n v :=
  ⟨⟨[], by simp, by simp⟩, hok, hd, h0, h1, by show cntG 4 gs ≤ cntG 4 gs + n; omega, hv⟩
theorem gGate_stp {gs : List Gt} {g : Gt} {n : Nat} {v : List Int → Int} (hok : gtsOk 0 gs = true) (hd : gs.Nodup) (hg : gateOk g.kd g.ga g.gb gs.length = true) (hn : (if g.kd = 4 then 1 else 0) ≤ n)
    (hv : ∀ bs : List Int, allB bs 0 1 = true → gval bs (evalW bs gs) g = v bs) : Stp gs (gGate gs g) n v := by
  have hn0 : 0 ≤ n := by split at hn <;> omega
  by_cases hm : g ∈ gs
  · obtain ⟨i, hi⟩ := List.getElem?_of_mem hm
    rw [gGate_nodup_found hd hi]
    have hl : i < gs.length := (List.getElem?_eq_some_iff.1 hi).1
    refine Stp.same hok hd (by omega) (by omega) hn0 fun bs hb => ?_
    rw [evalW_at bs hi hl, ← hv bs hb]
    have h1 := refs_lt (gtsOk_get hok hi)
    exact gval_same bs rfl (fun _ => rfl) (fun ha => (at0_evalW_take (h1.1 ha).1 (h1.1 ha).2 (by omega)).symm) (fun hb => (at0_evalW_take (h1.2 hb).2.1 (h1.2 hb).2.2 (by omega)).symm) hg
  · rw [gGate_new hm]
    refine ⟨⟨[g], rfl, by simp⟩, ?_, nodup_snoc hd hm, by show (0 : Int) ≤ (gs.length : Int); omega, by show (gs.length : Int) < ((gs ++ [g]).length : Int); simp <;> omega, ?_, fun bs hb => ?_⟩
    · show gtsOk 0 (gs ++ [g]) = true
      rw [gtsOk_append, hok]; simp [gtsOk, hg]
    · show cntG 4 (gs ++ [g]) ≤ cntG 4 gs + n
      rw [cntG_append]; omega
    · show at0 (evalW bs (gs ++ [g])) (gs.length : Int) = _
      rw [evalW_append, at0_nat, ← hv bs hb]
      simp [List.getD, List.getElem?_append_right, evalW_len]
theorem valC_at {gs : List Gt} {w : Int} (hok : gtsOk 0 gs = true) (h0 : 0 ≤ w) (h1 : w < gs.length) : valC gs w = -1 ∨ ((valC gs w = 0 ∨ valC gs w = 1) ∧ ∀ bs, at0 (evalW bs gs) w = valC gs w) := by
  have hg := get_of (gs := gs) w.toNat (by omega)
  have hgk := gtsOk_get hok hg
  have hc := gate_cases hgk
  have e : ((w.toNat : Nat) : Int) = w := by omega
  by_cases h2 : (gs[w.toNat]'(by omega)).kd = 2
  · have hv : valC gs w = (gs[w.toNat]'(by omega)).ga := by unfold valC; rw [hg]; simp [h2]
    right
    refine ⟨by rw [hv]; omega, fun bs => ?_⟩
    have := evalW_at bs hg (by omega)
    rw [e] at this
    rw [this, hv]
    simp [gval, h2]
  · left; unfold valC; rw [hg]; simp [h2]
theorem evalW_bit {gs : List Gt} {bs : List Int} (hok : gtsOk 0 gs = true) (hb : allB bs 0 1 = true) (w : Int) : 0 ≤ at0 (evalW bs gs) w ∧ at0 (evalW bs gs) w ≤ 1 := at0_b (evalW_b hb gs hok) (by omega) (by omega)
theorem gNot_stp {gs : List Gt} {w : Int} {n : Nat} (hok : gtsOk 0 gs = true) (hd : gs.Nodup) (h0 : 0 ≤ w) (h1 : w < gs.length) (hn : 0 ≤ n) : Stp gs (gNot gs w) n fun bs => 1 - at0 (evalW bs gs) w := by
  have hg := get_of (gs := gs) w.toNat (by omega)
  have hgk := gtsOk_get hok hg
  have hc := gate_cases hgk
  have e : ((w.toNat : Nat) : Int) = w := by omega
  have hev : ∀ bs, at0 (evalW bs gs) w = gval bs (evalW bs (gs.take w.toNat)) (gs[w.toNat]'(by omega)) := fun bs => by
    have := evalW_at bs hg (by omega); rwa [e] at this
  unfold gNot
  rw [hg]
  generalize gs[w.toNat]'(by omega) = g at hg hgk hc hev
  simp only
  by_cases h2 : g.kd = 2
  · rw [if_pos h2]
    refine gGate_stp hok hd (by simp [gateOk, inB]; omega) (by simp) fun bs hb => ?_
    rw [hev bs]; simp [gval, h2]
  · rw [if_neg h2]
    by_cases h5 : g.kd = 5
    · rw [if_pos h5]
      refine Stp.same hok hd (by omega) (by omega) hn fun bs hb => ?_
      rw [hev bs]
      have : gval bs (evalW bs (gs.take w.toNat)) g = 1 - at0 (evalW bs (gs.take w.toNat)) g.ga := by simp [gval, h5]
      rw [this, at0_evalW_take (k := w.toNat) (gs := gs) (by omega) (by omega) (by omega)]; omega
    · rw [if_neg h5]
      refine gGate_stp hok hd (by simp [gateOk]; omega) (by simp) fun bs hb => ?_
      simp [gval]
theorem gXor_stp {gs : List Gt} {a b : Int} {n : Nat} (hok : gtsOk 0 gs = true) (hd : gs.Nodup) (h0 : 0 ≤ a) (h1 : a < gs.length) (h2 : 0 ≤ b) (h3 : b < gs.length) (hn : 0 ≤ n) : Stp gs (gXor gs a b) n fun bs => xorI (at0 (evalW bs gs) a) (at0 (evalW bs gs) b) := by
  have va := valC_at hok h0 h1
  have vb := valC_at hok h2 h3
  have not1 : ∀ {w : Int}, 0 ≤ w → w < gs.length → ∀ v : List Int → Int, (∀ bs : List Int, allB bs 0 1 = true → 1 - at0 (evalW bs gs) w = v bs) → Stp gs (gNot gs w) n v := fun hw0 hw1 v hv => by
    have := gNot_stp hok hd hw0 hw1 hn
    exact ⟨this.pre, this.ok, this.nd, this.lo, this.hi, this.cnt, fun bs hb => (this.val bs hb).trans (hv bs hb)⟩
  unfold gXor
  by_cases e : a = b
  · rw [if_pos e]; subst e
    refine gGate_stp hok hd (by simp [gateOk, inB]) (by simp) fun bs hb => ?_
    have := evalW_bit hok hb a
    rw [xorI_bit this this]; simp [gval]
  rw [if_neg e]
  by_cases e0 : valC gs a = 0
  · rw [if_pos e0]
    refine Stp.same hok hd h2 h3 hn fun bs hb => ?_
    have q1 := evalW_bit hok hb a
    have q2 := evalW_bit hok hb b
    have q3 : at0 (evalW bs gs) a = 0 := by rcases va with h | h; · omega
                                            · rw [h.2 bs, e0]
    rw [xorI_bit q1 q2]; split <;> omega
  rw [if_neg e0]
  by_cases e1 : valC gs a = 1
  · rw [if_pos e1]
    refine not1 h2 h3 _ fun bs hb => ?_
    have q1 := evalW_bit hok hb a
    have q2 := evalW_bit hok hb b
    have q3 : at0 (evalW bs gs) a = 1 := by rcases va with h | h; · omega
                                            · rw [h.2 bs, e1]
    rw [xorI_bit q1 q2]; split <;> omega
  rw [if_neg e1]
  by_cases f0 : valC gs b = 0
  · rw [if_pos f0]
    refine Stp.same hok hd h0 h1 hn fun bs hb => ?_
    have q1 := evalW_bit hok hb a
    have q2 := evalW_bit hok hb b
    have q3 : at0 (evalW bs gs) b = 0 := by rcases vb with h | h; · omega
                                            · rw [h.2 bs, f0]
    rw [xorI_bit q1 q2]; split <;> omega
  rw [if_neg f0]
  by_cases f1 : valC gs b = 1
  · rw [if_pos f1]
    refine not1 h0 h1 _ fun bs hb => ?_
    have q1 := evalW_bit hok hb a
    have q2 := evalW_bit hok hb b
    have q3 : at0 (evalW bs gs) b = 1 := by rcases vb with h | h; · omega
                                            · rw [h.2 bs, f1]
    rw [xorI_bit q1 q2]; split <;> omega
  rw [if_neg f1]
  refine gGate_stp hok hd (by simp [gateOk]; omega) (by simp) fun bs hb => ?_
  have q1 := evalW_bit hok hb a
  have q2 := evalW_bit hok hb b
  have hm : gval bs (evalW bs gs) ⟨3, min a b, max a b⟩ = xorI (at0 (evalW bs gs) (min a b)) (at0 (evalW bs gs) (max a b)) := by simp [gval]
  rw [hm]
  by_cases hab : a ≤ b
  · rw [Int.min_eq_left hab, Int.max_eq_right hab]
  · rw [Int.min_eq_right (by omega), Int.max_eq_left (by omega), xorI_bit q1 q2, xorI_bit q2 q1]
    split <;> split <;> omega
theorem gAnd_stp {gs : List Gt} {a b : Int} (hok : gtsOk 0 gs = true) (hd : gs.Nodup) (h0 : 0 ≤ a) (h1 : a < gs.length) (h2 : 0 ≤ b) (h3 : b < gs.length) : Stp gs (gAnd gs a b) 1 fun bs => andI (at0 (evalW bs gs) a) (at0 (evalW bs gs) b) := by
  have va := valC_at hok h0 h1
  have vb := valC_at hok h2 h3
  unfold gAnd
  by_cases e : a = b
  · rw [if_pos e]; subst e
    refine Stp.same hok hd h0 h1 (by omega) fun bs hb => ?_
    have := evalW_bit hok hb a
    rw [andI_bit this this]; split <;> omega
  rw [if_neg e]
  by_cases e0 : valC gs a = 0
  · rw [if_pos e0]
    refine gGate_stp hok hd (by simp [gateOk, inB]) (by simp) fun bs hb => ?_
    have q1 := evalW_bit hok hb a
    have q2 := evalW_bit hok hb b
    have q3 : at0 (evalW bs gs) a = 0 := by rcases va with h | h; · omega
                                            · rw [h.2 bs, e0]
    rw [andI_bit q1 q2, if_neg (by omega)]; simp [gval]
  rw [if_neg e0]
  by_cases e1 : valC gs a = 1
  · rw [if_pos e1]
    refine Stp.same hok hd h2 h3 (by omega) fun bs hb => ?_
    have q1 := evalW_bit hok hb a
    have q2 := evalW_bit hok hb b
    have q3 : at0 (evalW bs gs) a = 1 := by rcases va with h | h; · omega
                                            · rw [h.2 bs, e1]
    rw [andI_bit q1 q2]; split <;> omega
  rw [if_neg e1]
  by_cases f0 : valC gs b = 0
  · rw [if_pos f0]
    refine gGate_stp hok hd (by simp [gateOk, inB]) (by simp) fun bs hb => ?_
    have q1 := evalW_bit hok hb a
    have q2 := evalW_bit hok hb b
    have q3 : at0 (evalW bs gs) b = 0 := by rcases vb with h | h; · omega
                                            · rw [h.2 bs, f0]
    rw [andI_bit q1 q2, if_neg (by omega)]; simp [gval]
  rw [if_neg f0]
  by_cases f1 : valC gs b = 1
  · rw [if_pos f1]
    refine Stp.same hok hd h0 h1 (by omega) fun bs hb => ?_
    have q1 := evalW_bit hok hb a
    have q2 := evalW_bit hok hb b
    have q3 : at0 (evalW bs gs) b = 1 := by rcases vb with h | h; · omega
                                            · rw [h.2 bs, f1]
    rw [andI_bit q1 q2]; split <;> omega
  rw [if_neg f1]
  refine gGate_stp hok hd (by simp [gateOk]; omega) (by simp) fun bs hb => ?_
  have q1 := evalW_bit hok hb a
  have q2 := evalW_bit hok hb b
  have hm : gval bs (evalW bs gs) ⟨4, min a b, max a b⟩ = andI (at0 (evalW bs gs) (min a b)) (at0 (evalW bs gs) (max a b)) := by simp [gval]
  rw [hm]
  by_cases hab : a ≤ b
  · rw [Int.min_eq_left hab, Int.max_eq_right hab]
  · rw [Int.min_eq_right (by omega), Int.max_eq_left (by omega), andI_bit q1 q2, andI_bit q2 q1]
    split <;> split <;> omega

/-- A gate whose wires have been numbered. -/
def reG3 (to : List Int) (g : Gt) : Gt := reG to g
theorem simpS_stp {gs : List Gt} {to : List Int} {g : Gt} {k : Nat} (hok : gtsOk 0 gs = true) (hd : gs.Nodup) (hg : gateOk g.kd g.ga g.gb k = true) (ht : ∀ i : Int, 0 ≤ i → i < k → 0 ≤ at0 to i ∧ at0 to i < gs.length) :
    Stp gs (simpS gs to g) (if g.kd = 4 then 1 else 0) fun bs => gval bs (evalW bs gs) (reG to g) := by
  obtain ⟨kd, ga, gb⟩ := g
  have hc := gate_cases hg
  simp only at hc
  unfold simpS
  by_cases h3 : kd = 3
  · subst h3
    have ha := ht ga (by omega) (by omega)
    have hb := ht gb (by omega) (by omega)
    simp only [if_true]
    have := gXor_stp (n := 0) hok hd ha.1 ha.2 hb.1 hb.2 (by omega)
    exact ⟨this.pre, this.ok, this.nd, this.lo, this.hi, by have := this.cnt; simpa using this, fun bs hb => (this.val bs hb).trans (by simp [gval, reG, usesA, usesB])⟩
  by_cases h4 : kd = 4
  · subst h4
    have ha := ht ga (by omega) (by omega)
    have hb := ht gb (by omega) (by omega)
    simp only [h3, if_false, if_true]
    have := gAnd_stp hok hd ha.1 ha.2 hb.1 hb.2
    exact ⟨this.pre, this.ok, this.nd, this.lo, this.hi, this.cnt, fun bs hb => (this.val bs hb).trans (by simp [gval, reG, usesA, usesB])⟩
  by_cases h5 : kd = 5
  · subst h5
    have ha := ht ga (by omega) (by omega)
    simp only [h3, h4, if_false, if_true]
    have := gNot_stp (n := 0) hok hd ha.1 ha.2 (by omega)
    exact ⟨this.pre, this.ok, this.nd, this.lo, this.hi, this.cnt, fun bs hb => (this.val bs hb).trans (by simp [gval, reG, usesA, usesB])⟩
  simp only [h3, h4, h5, if_false]
  refine gGate_stp hok hd ?_ (by simp [h4]) fun bs hb => ?_
  · show gateOk kd ga gb gs.length = true
    have : (kd = 1 ∧ gb = 0 ∧ 0 ≤ ga ∧ ga ≤ 79) ∨ (kd = 2 ∧ gb = 0 ∧ 0 ≤ ga ∧ ga ≤ 1) := by omega
    rcases this with ⟨rfl, rfl, h⟩ | ⟨rfl, rfl, h⟩ <;> simp [gateOk, inB] <;> omega
  · have ea : usesA ⟨kd, ga, gb⟩ = false := by simp [usesA, h3, h4, h5]
    have eb : usesB ⟨kd, ga, gb⟩ = false := by simp [usesB, h3, h4]
    show gval bs (evalW bs gs) ⟨kd, ga, gb⟩ = gval bs (evalW bs gs) (reG to ⟨kd, ga, gb⟩)
    simp [reG, ea, eb]

structure SimpInv (gs : List Gt) (s : List Gt × List Int) : Prop where
  ok : gtsOk 0 s.1 = true
  nd : s.1.Nodup
  len : s.2.length = gs.length
  le : s.1.length ≤ gs.length
  to : ∀ i : Int, 0 ≤ i → i < gs.length → 0 ≤ at0 s.2 i ∧ at0 s.2 i < s.1.length
  cnt : cntG 4 s.1 ≤ cntG 4 gs
  val : ∀ bs : List Int, allB bs 0 1 = true → ∀ i : Int, 0 ≤ i → i < gs.length → at0 (evalW bs s.1) (at0 s.2 i) = at0 (evalW bs gs) i
theorem simpT_inv (gs : List Gt) : gtsOk 0 gs = true → SimpInv gs (simpT gs) := by
  induction gs using snocRec with
  | h0 => intro _; exact ⟨rfl, List.nodup_nil, rfl, Nat.le_refl _, by intro i h0 h1; simp at h1; omega, Nat.le_refl _, by intro bs hb i h0 h1; simp at h1; omega⟩
  | h1 gs g ih =>
    intro h
    obtain ⟨h1, h2⟩ := gtsOk_last h
    have I := ih h1
    rw [simpT_append]
    have S := simpS_stp I.ok I.nd h2 (fun i a b => I.to i a b)
    generalize simpS (simpT gs).1 (simpT gs).2 g = r at S
    generalize simpT gs = s at I S
    obtain ⟨s1, s2⟩ := s
    obtain ⟨r1, r2⟩ := r
    obtain ⟨⟨t, e, ht⟩, q1, q2, q3, q4, q5, q6⟩ := S
    simp only at e q1 q2 q3 q4 q5 q6
    have hlr : r1.length = s1.length + t.length := by rw [e]; simp
    have Il := I.len
    have Ile := I.le
    simp only at Il Ile
    have at_old : ∀ i : Int, 0 ≤ i → i < gs.length → at0 (s2 ++ [r2]) i = at0 s2 i := fun i a b => at0_append (by omega)
    have at_new : at0 (s2 ++ [r2]) (gs.length : Int) = r2 := by rw [at0_nat, ← Il]; simp [List.getD, List.getElem?_append_right]
    refine ⟨q1, q2, by simp [Il], by simp; omega, ?_, ?_, ?_⟩
    · intro i a b
      simp only
      by_cases hi : i < gs.length
      · rw [at_old i a hi]; have := I.to i a hi; simp only at this; omega
      · have : i = (gs.length : Int) := by simp at b; omega
        subst this
        rw [at_new]; exact ⟨q3, q4⟩
    · simp only
      rw [cntG_append]; have := I.cnt; simp only at this; split at q5 <;> (rename_i hk; first | rw [if_pos hk] | rw [if_neg hk]) <;> omega
    · intro bs hb i a b
      simp only
      by_cases hi : i < gs.length
      · have := I.to i a hi
        simp only at this
        rw [at_old i a hi, e, evalW_pre bs _ _ this.1 this.2, evalW_pre bs _ _ a hi]
        exact I.val bs hb i a hi
      · have : i = (gs.length : Int) := by simp at b; omega
        subst this
        rw [at_new, q6 bs hb, evalW_append]
        have e2 : at0 (evalW bs gs ++ [gval bs (evalW bs gs) g]) (gs.length : Int) = gval bs (evalW bs gs) g := by
          rw [at0_nat]; simp [List.getD, List.getElem?_append_right, evalW_len]
        rw [e2]
        have h3 := refs_lt h2
        refine (gval_same bs (g1 := g) (g2 := reG s2 g) rfl (fun e => by unfold reG; rw [if_neg (by simp [e])]) (fun e => ?_) (fun e => ?_) h2).symm
        · have e' : (reG s2 g).ga = at0 s2 g.ga := by unfold reG; rw [if_pos e]
          rw [e']; exact (I.val bs hb g.ga (h3.1 e).1 (h3.1 e).2).symm
        · have e' : (reG s2 g).gb = at0 s2 g.gb := by unfold reG; rw [if_pos e]
          rw [e']; exact (I.val bs hb g.gb (h3.2 e).2.1 (h3.2 e).2.2).symm
theorem simp_ok {gs : List Gt} {os : List Int} (h : circOk gs os = true) : circOk (simpG gs) (simpO gs os) = true := by
  obtain ⟨h1, h2, h3⟩ := circ_parts h
  have I := simpT_inv gs h1
  have hle : (simpG gs).length ≤ gs.length := I.le
  have h4 : allB (simpO gs os) 0 (((simpG gs).length : Int) - 1) = true := by
    rw [allB_iff]
    intro x hx
    obtain ⟨o, ho, rfl⟩ := List.mem_map.1 hx
    have := allB_iff.1 h2 o ho
    have := I.to o this.1 (by omega)
    unfold simpG; omega
  unfold circOk
  rw [h4, show gtsOk 0 (simpG gs) = true from I.ok]
  have h5 : (simpG gs).length ≤ 6000 := by omega
  simp [h5]
theorem simp_eval {gs : List Gt} {os : List Int} (h : circOk gs os = true) (bs : List Int) : evalOuts (simpG gs) (simpO gs os) bs = evalOuts gs os bs ∧ evalB (simpG gs) (simpO gs os) bs = evalB gs os bs := by
  have e2 : evalB (simpG gs) (simpO gs os) bs = evalB gs os bs := by unfold evalB; rw [simp_ok h, h]
  refine ⟨?_, e2⟩
  unfold evalOuts
  rw [e2]
  obtain ⟨h1, h2, h3⟩ := circ_parts h
  have I := simpT_inv gs h1
  cases hb : evalB gs os bs
  · rfl
  · have hbb : allB bs 0 1 = true := by
      unfold evalB bitsB at hb
      simp only [Bool.and_eq_true] at hb
      exact hb.2.2
    simp only [if_true]
    unfold simpO outsOf
    rw [List.map_map]
    refine List.map_congr_left fun o ho => ?_
    have := allB_iff.1 h2 o ho
    exact I.val bs hbb o this.1 (by omega)
theorem simp_cnt {gs : List Gt} {os : List Int} (h : circOk gs os = true) : cntG 4 (simpG gs) ≤ cntG 4 gs := (simpT_inv gs (circ_parts h).1).cnt
theorem simp_len {gs : List Gt} {os : List Int} (h : circOk gs os = true) : (simpG gs).length ≤ gs.length := (simpT_inv gs (circ_parts h).1).le
end Go.Proofs.Ytfpblgbokmpmjaa
