/- Facts on flows. -/
import Derived.Test.YtfeffofoofmgcaaUnrFacts
import Derived.Test.YtfeffofoofmgcaaFlowOk
namespace Go.Proofs.Ytfeffofoofmgcaa
open Go.RowKit
set_option linter.unusedVariables false
set_option linter.unusedSimpArgs false

def b32 (x : Int) : Prop := 0 ≤ x ∧ x ≤ 31
theorem or_all : ∀ x : Fin 32, ∀ y : Fin 32, (inB (bits .or .i64 (x.val : Int) (y.val : Int)) 0 31 && ((bits .or .i64 (x.val : Int) (y.val : Int) == 0) == (((x.val : Int) == 0) && ((y.val : Int) == 0)))) = true := by decide +kernel
theorem an_all : ∀ x : Fin 32, ((bits .andNot .i64 (x.val : Int) (x.val : Int) == 0) && (bits .andNot .i64 (x.val : Int) (bits .or .i64 (x.val : Int) 4) == 0) && inB (bits .or .i64 (x.val : Int) 4) 0 31 && (bits .andNot .i64 (x.val : Int) 0 == (x.val : Int))) = true := by decide +kernel
theorem or_b {x y : Int} (hx : b32 x) (hy : b32 y) : b32 (bits .or .i64 x y) ∧ (bits .or .i64 x y = 0 ↔ x = 0 ∧ y = 0) := by
  obtain ⟨a, rfl⟩ := Int.eq_ofNat_of_zero_le hx.1
  obtain ⟨b, rfl⟩ := Int.eq_ofNat_of_zero_le hy.1
  have h := or_all ⟨a, by have := hx.2; omega⟩ ⟨b, by have := hy.2; omega⟩
  simp only [Bool.and_eq_true, beq_iff_eq] at h
  refine ⟨inB_iff.1 h.1, ?_⟩
  have h2 := h.2
  rw [Bool.eq_iff_iff] at h2
  simpa using h2
theorem an_b {x : Int} (hx : b32 x) : bits .andNot .i64 x x = 0 ∧ bits .andNot .i64 x (bits .or .i64 x 4) = 0 ∧ b32 (bits .or .i64 x 4) ∧ bits .andNot .i64 x 0 = x := by
  obtain ⟨a, rfl⟩ := Int.eq_ofNat_of_zero_le hx.1
  have h := an_all ⟨a, by have := hx.2; omega⟩
  simp only [Bool.and_eq_true, beq_iff_eq] at h
  exact ⟨h.1.1.1, h.1.1.2, inB_iff.1 h.1.2, h.2⟩
theorem getD_b {rs : List Int} (h : ∀ x ∈ rs, b32 x) (i : Nat) : b32 (rs.getD i 0) := by
  by_cases hi : i < rs.length
  · simp only [List.getD, List.getElem?_eq_getElem hi, Option.getD_some]; exact h _ (List.getElem_mem hi)
  · simp only [List.getD, List.getElem?_eq_none (by omega : rs.length ≤ i), Option.getD_none]; exact ⟨by omega, by omega⟩
theorem deps_b {rs : List Int} (h : ∀ x ∈ rs, b32 x) (l : List Int) : b32 (depsOf rs l) := by
  have : ∀ (l : List Int) (n : Int), b32 n → b32 (l.foldl (fun n r => bits .or .i64 n (rs.getD r.toNat 0)) n) := by
    intro l
    induction l with
    | nil => intro n hn; exact hn
    | cons r l ih => intro n hn; exact ih _ (or_b hn (getD_b h _)).1
  exact this l 0 ⟨by omega, by omega⟩
theorem pow_b {a : Int} (h0 : 0 ≤ a) (h4 : a ≤ 4) : b32 (2 ^ a.toNat) := by
  obtain ⟨n, rfl⟩ := Int.eq_ofNat_of_zero_le h0
  have : n = 0 ∨ n = 1 ∨ n = 2 ∨ n = 3 ∨ n = 4 := by omega
  rcases this with rfl | rfl | rfl | rfl | rfl <;> exact ⟨by decide +kernel, by decide +kernel⟩
theorem flow_b {p : List Int × List Int} (h1 : ∀ x ∈ p.1, b32 x) (h2 : ∀ x ∈ p.2, b32 x) (s : St) : (∀ x ∈ flowRegs p.1 s, b32 x) ∧ (∀ x ∈ flowOuts p.1 p.2 s, b32 x) := by
  constructor
  · intro x hx
    unfold flowRegs at hx
    split at hx
    case isFalse => exact h1 x hx
    case isTrue hb =>
      split at hx
      · exact h1 x hx
      · split at hx
        · rename_i h2'
          rcases List.mem_or_eq_of_mem_set hx with hx | rfl
          · exact h1 x hx
          · have hst : stOk s = true := by simp [flowB, plainB] at hb; exact hb.1.1
            have := stok_input hst h2'
            exact pow_b this.1 this.2
        · rcases List.mem_or_eq_of_mem_set hx with hx | rfl
          · exact h1 x hx
          · exact deps_b h1 _
  · intro x hx
    unfold flowOuts at hx
    split at hx
    · rcases List.mem_append.1 hx with hx | hx
      · exact h2 x hx
      · simp at hx; subst hx; exact deps_b h1 _
    · exact h2 x hx
theorem flowF_all (us : List St) : (∀ s ∈ us, stOk s = true ∧ s.op ≠ 12 ∧ s.op ≠ 13) → (∀ x ∈ (flowF us).2, b32 x) ∧ (flowF us).2.length = cntOut us := by
  have : ∀ (us : List St) (p : List Int × List Int), (∀ s ∈ us, stOk s = true ∧ s.op ≠ 12 ∧ s.op ≠ 13) → (∀ x ∈ p.1, b32 x) → (∀ x ∈ p.2, b32 x) → p.1.length = 8 →
      (∀ x ∈ (us.foldl (fun p s => (flowRegs p.1 s, flowOuts p.1 p.2 s)) p).2, b32 x) ∧ (us.foldl (fun p s => (flowRegs p.1 s, flowOuts p.1 p.2 s)) p).2.length = p.2.length + cntOut us := by
    intro us
    induction us with
    | nil => intro p _ _ h2 _; exact ⟨h2, by simp [cntOut]⟩
    | cons s r ih =>
      intro p hp h1 h2 h8
      have hs := hp s (List.mem_cons_self ..)
      have hh := stok_regs hs.1
      have hB : flowB s p.1 = true := by simp [flowB, plainB, hs.1, h8]; omega
      have hf := flow_b h1 h2 s
      obtain ⟨q1, q2⟩ := ih (flowRegs p.1 s, flowOuts p.1 p.2 s) (fun x hx => hp x (List.mem_cons_of_mem _ hx)) hf.1 hf.2 (by simp [flowRegs_len, h8])
      refine ⟨q1, ?_⟩
      rw [List.foldl_cons, q2]
      simp only [flowOuts, hB, Bool.true_and, cntOut, List.filter_cons]
      by_cases h11 : s.op = 11 <;> simp [h11] <;> omega
  intro h
  have := this us (List.replicate 8 0, []) h (fun x hx => by rw [List.eq_of_mem_replicate hx]; exact ⟨by omega, by omega⟩) (fun x hx => by cases hx) (by simp)
  exact ⟨this.1, by simpa [flowF] using this.2⟩
def allOr (d : List Int) : Int := d.foldl (fun n x => bits .or .i64 n x) 0
theorem allOr_snoc {d : List Int} {k : Nat} (hk : k < d.length) : allOr (d.take (k + 1)) = bits .or .i64 (allOr (d.take k)) d[k] := by
  unfold allOr; rw [List.take_succ_eq_append_getElem hk, List.foldl_append]; rfl
theorem allOr_zero {d : List Int} (h : ∀ x ∈ d, b32 x) : b32 (allOr d) ∧ (allOr d = 0 ↔ ∀ x ∈ d, x = 0) := by
  have : ∀ (d : List Int) (n : Int), b32 n → (∀ x ∈ d, b32 x) → b32 (d.foldl (fun n x => bits .or .i64 n x) n) ∧ (d.foldl (fun n x => bits .or .i64 n x) n = 0 ↔ n = 0 ∧ ∀ x ∈ d, x = 0) := by
    intro d
    induction d with
    | nil => intro n hn _; exact ⟨hn, by simp⟩
    | cons x r ih =>
      intro n hn h
      have ho := or_b hn (h x (List.mem_cons_self ..))
      obtain ⟨q1, q2⟩ := ih _ ho.1 (fun y hy => h y (List.mem_cons_of_mem _ hy))
      refine ⟨q1, ?_⟩
      rw [List.foldl_cons, q2, ho.2]
      simp [and_assoc]
  have := this d 0 ⟨by omega, by omega⟩ h
  exact ⟨this.1, by simpa [allOr] using this.2⟩
theorem flows_self {d : List Int} (h : ∀ x ∈ d, b32 x) : flowOkB d d true = true := by
  simp only [flowOkB, bne_self_eq_false, Bool.not_false, Bool.and_self, Bool.true_and, flowAll, List.all_eq_true]
  rintro ⟨x, y⟩ hxy
  obtain ⟨i, hi⟩ := List.getElem?_of_mem hxy
  rw [List.getElem?_zip_eq_some] at hi
  have e : x = y := Option.some.inj (hi.1.symm.trans hi.2)
  subst e
  have hb := h x (List.mem_of_getElem? hi.1)
  simp [allowB, (an_b hb).1]; exact hb.1
theorem flows_more {d : List Int} (h : ∀ x ∈ d, b32 x) : flowOkB d (d.map fun x => bits .or .i64 x 4) true = true := by
  have hl : (!((d.length : Int) != ((d.map fun x => bits .or .i64 x 4).length : Int))) = true := by simp
  simp only [flowOkB, hl, Bool.true_and, flowAll, List.all_eq_true]
  rintro ⟨x, y⟩ hxy
  obtain ⟨i, hi⟩ := List.getElem?_of_mem hxy
  rw [List.getElem?_zip_eq_some] at hi
  have hi2 : (d.map fun x => bits .or .i64 x 4)[i]? = some y := hi.2
  rw [List.getElem?_map, hi.1] at hi2
  have e : bits .or .i64 x 4 = y := Option.some.inj hi2
  subst e
  have hb := h x (List.mem_of_getElem? hi.1)
  simp [allowB, (an_b hb).2.1]; exact (an_b hb).2.2.1.1
theorem flows_none {d : List Int} (h : ∀ x ∈ d, b32 x) : flowOkB d (List.replicate d.length 0) true = (allOr d == 0) := by
  have hl : (!((d.length : Int) != ((List.replicate d.length (0 : Int)).length : Int))) = true := by simp
  simp only [flowOkB, hl, Bool.true_and]
  rw [Bool.eq_iff_iff]
  simp only [flowAll, List.all_eq_true, beq_iff_eq]
  rw [(allOr_zero h).2]
  constructor
  · intro ha x hx
    obtain ⟨i, hi⟩ := List.getElem?_of_mem hx
    obtain ⟨hlt, _⟩ := List.getElem?_eq_some_iff.1 hi
    have := ha (x, 0) (List.mem_of_getElem? (i := i) (by rw [List.getElem?_zip_eq_some]; exact ⟨hi, by simp [hlt]⟩))
    simpa [allowB, (an_b (h x hx)).2.2.2] using this
  · rintro ha ⟨x, y⟩ hxy
    obtain ⟨i, hi⟩ := List.getElem?_of_mem hxy
    rw [List.getElem?_zip_eq_some] at hi
    have hx := ha x (List.mem_of_getElem? hi.1)
    have hy : y = 0 := List.eq_of_mem_replicate (List.mem_of_getElem? hi.2)
    subst hx; subst hy
    decide +kernel

end Go.Proofs.Ytfeffofoofmgcaa
