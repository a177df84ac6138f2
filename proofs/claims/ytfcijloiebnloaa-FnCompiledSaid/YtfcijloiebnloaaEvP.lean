/- Values and depths of wires, plainly. -/
import Derived.Test.YtfcijloiebnloaaGts
import Derived.Test.YtfcijloiebnloaaArith
namespace Go.Proofs.Ytfcijloiebnloaa
open Go.RowKit
set_option linter.unusedVariables false
set_option linter.unusedSimpArgs false

/-- What a valid gate is. -/
theorem gate_cases {kd ga gb : Int} {k : Nat} (h : gateOk kd ga gb k = true) :
    (kd = 1 ∧ gb = 0 ∧ 0 ≤ ga ∧ ga ≤ 79) ∨ (kd = 2 ∧ gb = 0 ∧ 0 ≤ ga ∧ ga ≤ 1) ∨ (kd = 3 ∧ 0 ≤ ga ∧ ga < k ∧ 0 ≤ gb ∧ gb < k) ∨ (kd = 4 ∧ 0 ≤ ga ∧ ga < k ∧ 0 ≤ gb ∧ gb < k) ∨ (kd = 5 ∧ gb = 0 ∧ 0 ≤ ga ∧ ga < k) := by
  unfold gateOk at h
  by_cases h1 : kd = 1
  · simp [h1, inB] at h; omega
  by_cases h2 : kd = 2
  · simp [h2, inB] at h; omega
  by_cases h3 : kd = 3
  · simp [h3] at h; omega
  by_cases h4 : kd = 4
  · simp [h4] at h; omega
  by_cases h5 : kd = 5
  · simp [h5] at h; omega
  simp [h1, h2, h3, h4, h5] at h

def xorI (a b : Int) : Int := bits .xor .i64 a b
def andI (a b : Int) : Int := bits .and .i64 a b
theorem xorI_bit {a b : Int} (ha : 0 ≤ a ∧ a ≤ 1) (hb : 0 ≤ b ∧ b ≤ 1) : xorI a b = if a = b then 0 else 1 := by
  have h1 : a = 0 ∨ a = 1 := by omega
  have h2 : b = 0 ∨ b = 1 := by omega
  rcases h1 with rfl | rfl <;> rcases h2 with rfl | rfl <;> decide
theorem andI_bit {a b : Int} (ha : 0 ≤ a ∧ a ≤ 1) (hb : 0 ≤ b ∧ b ≤ 1) : andI a b = if a = 1 ∧ b = 1 then 1 else 0 := by
  have h1 : a = 0 ∨ a = 1 := by omega
  have h2 : b = 0 ∨ b = 1 := by omega
  rcases h1 with rfl | rfl <;> rcases h2 with rfl | rfl <;> decide
theorem xorI_b {a b : Int} (ha : 0 ≤ a ∧ a ≤ 1) (hb : 0 ≤ b ∧ b ≤ 1) : 0 ≤ xorI a b ∧ xorI a b ≤ 1 := by
  rw [xorI_bit ha hb]; split <;> omega
theorem andI_b {a b : Int} (ha : 0 ≤ a ∧ a ≤ 1) (hb : 0 ≤ b ∧ b ≤ 1) : 0 ≤ andI a b ∧ andI a b ≤ 1 := by
  rw [andI_bit ha hb]; split <;> omega

/-- An element that is there, and nought else. -/
def at0 (xs : List Int) (i : Int) : Int := xs.getD i.toNat 0
theorem at0_get {xs : List Int} {i : Int} (h : i.toNat < xs.length) : xs[i.toNat] = at0 xs i := by simp [at0, List.getD, List.getElem?_eq_getElem h]
theorem at0_nat (xs : List Int) (i : Nat) : at0 xs (i : Int) = xs.getD i 0 := by simp [at0]
theorem at0_b {xs : List Int} {i a b : Int} (h : allB xs a b = true) (ha : a ≤ 0) (hb : 0 ≤ b) : a ≤ at0 xs i ∧ at0 xs i ≤ b := by
  unfold at0
  by_cases hi : i.toNat < xs.length
  · simp only [List.getD, List.getElem?_eq_getElem hi, Option.getD_some]; exact allB_iff.1 h _ (List.getElem_mem hi)
  · simp only [List.getD, List.getElem?_eq_none (by omega : xs.length ≤ i.toNat), Option.getD_none]; omega
theorem at0_append {xs ys : List Int} {i : Int} (h : i.toNat < xs.length) : at0 (xs ++ ys) i = at0 xs i := by
  simp [at0, List.getD, List.getElem?_append_left h]

/-- The value of a gate. -/
def gval (bs out : List Int) (g : Gt) : Int :=
  if g.kd = 1 then at0 bs g.ga else if g.kd = 2 then g.ga else if g.kd = 3 then xorI (at0 out g.ga) (at0 out g.gb)
  else if g.kd = 4 then andI (at0 out g.ga) (at0 out g.gb) else 1 - at0 out g.ga
def evalW (bs : List Int) (gs : List Gt) : List Int := gs.foldl (fun out g => out ++ [gval bs out g]) []
theorem evalW_append (bs : List Int) (gs : List Gt) (g : Gt) : evalW bs (gs ++ [g]) = evalW bs gs ++ [gval bs (evalW bs gs) g] := by
  unfold evalW; rw [List.foldl_append]; rfl
theorem evalW_snoc {bs : List Int} {gs : List Gt} {k : Nat} {g : Gt} (h : gs[k]? = some g) : evalW bs (gs.take (k + 1)) = evalW bs (gs.take k) ++ [gval bs (evalW bs (gs.take k)) g] := by
  rw [take_snoc h, evalW_append]
theorem evalW_len (bs : List Int) (gs : List Gt) : (evalW bs gs).length = gs.length := by
  suffices H : ∀ out : List Int, (gs.foldl (fun out g => out ++ [gval bs out g]) out).length = out.length + gs.length by have := H []; rw [List.length_nil, Nat.zero_add] at this; exact this
  induction gs with
  | nil => intro out; simp
  | cons g r ih => intro out; rw [List.foldl_cons, ih]; simp; omega
/-- Induction from the left. -/
theorem snocRec {α : Type} {P : List α → Prop} (h0 : P []) (h1 : ∀ xs x, P xs → P (xs ++ [x])) (xs : List α) : P xs := by
  rw [← List.reverse_reverse xs]
  induction xs.reverse with
  | nil => exact h0
  | cons x r ih => rw [List.reverse_cons]; exact h1 _ _ ih
theorem gtsOk_last {gs : List Gt} {g : Gt} (h : gtsOk 0 (gs ++ [g]) = true) : gtsOk 0 gs = true ∧ gateOk g.kd g.ga g.gb gs.length = true := by
  rw [gtsOk_append] at h
  simpa [gtsOk] using h
theorem gval_b {bs out : List Int} {g : Gt} {k : Nat} (hg : gateOk g.kd g.ga g.gb k = true) (hb : allB bs 0 1 = true) (ho : allB out 0 1 = true) : 0 ≤ gval bs out g ∧ gval bs out g ≤ 1 := by
  obtain ⟨kd, ga, gb⟩ := g
  have a1 := at0_b (i := ga) hb (by omega) (by omega)
  have a2 := at0_b (i := ga) ho (by omega) (by omega)
  have a3 := at0_b (i := gb) ho (by omega) (by omega)
  have hg' : gateOk kd ga gb k = true := hg
  rcases gate_cases hg' with h | h | h | h | h
  · obtain ⟨rfl, _⟩ := h; exact a1
  · obtain ⟨rfl, h⟩ := h; show 0 ≤ ga ∧ ga ≤ 1; omega
  · obtain ⟨rfl, _⟩ := h; exact xorI_b a2 a3
  · obtain ⟨rfl, _⟩ := h; exact andI_b a2 a3
  · obtain ⟨rfl, _⟩ := h; show 0 ≤ 1 - at0 out ga ∧ 1 - at0 out ga ≤ 1; omega
theorem evalW_b {bs : List Int} (hb : allB bs 0 1 = true) (gs : List Gt) : gtsOk 0 gs = true → allB (evalW bs gs) 0 1 = true := by
  induction gs using snocRec with
  | h0 => intro _; rfl
  | h1 gs g ih =>
    intro h
    obtain ⟨h1, h2⟩ := gtsOk_last h
    rw [evalW_append, allB_iff]
    intro x hx
    rcases List.mem_append.1 hx with hx | hx
    · exact allB_iff.1 (ih h1) x hx
    · simp at hx; subst hx; exact gval_b h2 hb (ih h1)
theorem gtsOk_take {gs : List Gt} (h : gtsOk 0 gs = true) (k : Nat) : gtsOk 0 (gs.take k) = true := by
  rw [← List.take_append_drop k gs, gtsOk_append] at h
  simp only [Bool.and_eq_true] at h; exact h.1

def bitsB (bs : List Int) : Bool := decide (bs.length = 80) && allB bs 0 1
def evalB (gs : List Gt) (os bs : List Int) : Bool := circOk gs os && bitsB bs
def evalWires (gs : List Gt) (os bs : List Int) : List Int := if evalB gs os bs then evalW bs gs else []
def outsOf (ws os : List Int) : List Int := os.map fun o => at0 ws o
def evalOuts (gs : List Gt) (os bs : List Int) : List Int := if evalB gs os bs then outsOf (evalW bs gs) os else []
theorem outsOf_snoc {ws os : List Int} {k : Nat} (hk : k < os.length) : outsOf ws (os.take (k + 1)) = outsOf ws (os.take k) ++ [at0 ws os[k]] := by
  rw [List.take_succ_eq_append_getElem hk]; unfold outsOf; rw [List.map_append]; rfl
@[simp] theorem outsOf_len (ws os : List Int) : (outsOf ws os).length = os.length := by simp [outsOf]
theorem evalWires_len (gs : List Gt) (os bs : List Int) : (evalWires gs os bs).length ≤ gs.length := by
  unfold evalWires; split
  · rw [evalW_len]; omega
  · simp
theorem evalOuts_len (gs : List Gt) (os bs : List Int) : (evalOuts gs os bs).length ≤ os.length := by
  unfold evalOuts; split <;> simp

/-- The depth of a gate. -/
def dval (ds : List Int) (g : Gt) : Int :=
  if g.kd = 3 then max (at0 ds g.ga) (at0 ds g.gb) else if g.kd = 4 then max (at0 ds g.ga) (at0 ds g.gb) + 1 else if g.kd = 5 then at0 ds g.ga else 0
def depL (gs : List Gt) : List Int := gs.foldl (fun ds g => ds ++ [dval ds g]) []
def depM (gs : List Gt) : Int := (depL gs).foldl max 0
theorem depL_append (gs : List Gt) (g : Gt) : depL (gs ++ [g]) = depL gs ++ [dval (depL gs) g] := by unfold depL; rw [List.foldl_append]; rfl
theorem depL_snoc {gs : List Gt} {k : Nat} {g : Gt} (h : gs[k]? = some g) : depL (gs.take (k + 1)) = depL (gs.take k) ++ [dval (depL (gs.take k)) g] := by
  rw [take_snoc h, depL_append]
theorem depM_append (gs : List Gt) (g : Gt) : depM (gs ++ [g]) = max (depM gs) (dval (depL gs) g) := by
  unfold depM; rw [depL_append, List.foldl_append]; rfl
theorem depM_snoc {gs : List Gt} {k : Nat} {g : Gt} (h : gs[k]? = some g) : depM (gs.take (k + 1)) = max (depM (gs.take k)) (dval (depL (gs.take k)) g) := by
  rw [take_snoc h, depM_append]
theorem depL_len (gs : List Gt) : (depL gs).length = gs.length := by
  induction gs using snocRec with
  | h0 => rfl
  | h1 gs g ih => rw [depL_append]; simp [ih]
theorem dval_b {ds : List Int} {g : Gt} {b : Int} (hb : 0 ≤ b) (h : allB ds 0 b = true) : 0 ≤ dval ds g ∧ dval ds g ≤ b + 1 := by
  have a2 := at0_b (i := g.ga) h (by omega) hb
  have a3 := at0_b (i := g.gb) h (by omega) hb
  unfold dval
  split
  · omega
  · split
    · omega
    · split <;> omega
theorem allB_mono {xs : List Int} {a b c : Int} (h : allB xs a b = true) (hc : b ≤ c) : allB xs a c = true := allB_iff.2 fun x hx => by have := allB_iff.1 h x hx; omega
theorem allB_one {xs : List Int} {a b x : Int} (h : allB xs a b = true) (hx : a ≤ x ∧ x ≤ b) : allB (xs ++ [x]) a b = true := allB_iff.2 fun y hy => by
  rcases List.mem_append.1 hy with hy | hy
  · exact allB_iff.1 h y hy
  · simp at hy; subst hy; exact hx
theorem depL_b (gs : List Gt) : allB (depL gs) 0 gs.length = true := by
  induction gs using snocRec with
  | h0 => rfl
  | h1 gs g ih =>
    rw [depL_append, List.length_append, List.length_singleton]
    have := dval_b (g := g) (by omega) ih
    exact allB_one (allB_mono ih (by omega)) (by omega)
theorem depM_b (gs : List Gt) : 0 ≤ depM gs ∧ depM gs ≤ gs.length := by
  induction gs using snocRec with
  | h0 => simp [depM, depL]
  | h1 gs g ih =>
    rw [depM_append, List.length_append, List.length_singleton]
    have := dval_b (g := g) (by omega) (depL_b gs)
    omega
def andDepth (gs : List Gt) (os : List Int) : Int := if circOk gs os then depM gs else -1
theorem circ_parts {gs : List Gt} {os : List Int} (h : circOk gs os = true) : gtsOk 0 gs = true ∧ allB os 0 ((gs.length : Int) - 1) = true ∧ gs.length ≤ 6000 := by
  simp only [circOk, Bool.and_eq_true, decide_eq_true_eq] at h; exact ⟨h.1.1, h.1.2, h.2⟩
end Go.Proofs.Ytfcijloiebnloaa
