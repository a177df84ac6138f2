/- The lengths of what the builders of words give. -/
import Derived.Test.YtfcijloiebnloaaWordS0
import Derived.StillTailTactics
import Derived.Deep.RegionHeld3
import Derived.Deep.RegionLaw
namespace Go.Proofs.Ytfcijloiebnloaa
open Go.RowKit
set_option linter.unusedVariables false
set_option linter.unusedSimpArgs false

theorem askB_room {gs : List Gt} {os xs ys : List Int} (h : askB gs os xs ys = true) : gs.length ≤ 5900 := (askB_len h).2.2
theorem roomB_room {gs : List Gt} {os : List Int} (h : roomB gs os = true) : gs.length ≤ 5900 := by
  simp [roomB] at h; omega
theorem wP_len {A : Type} {b : Bool} {p : List Gt × A} {gs : List Gt} {z : A} {n : Nat} (h : b = true → p.1.length ≤ n) (hg : gs.length ≤ n) : (wP b p gs z).1.length ≤ n := by
  unfold wP; split
  · exact h (by assumption)
  · exact hg
theorem wP_len2 {b : Bool} {p : List Gt × List Int} {gs : List Gt} {n : Nat} (h : b = true → p.2.length ≤ n) : (wP b p gs []).2.length ≤ n := by
  unfold wP; split
  · exact h (by assumption)
  · simp
theorem fullsP_len2 (a b : List Int) (c : Int) (gs : List Gt) : ∀ k, (fullsP a b c gs k).2.2.length = k
  | 0 => rfl
  | k + 1 => by simp [fullsP, fullsP_len2 a b c gs k]
theorem sumP_len (a b : List Int) (f : Int) (n : Nat) (gs : List Gt) : (sumP a b f n gs).1.length = gs.length + 5 * n + 3 ∧ (sumP a b f n gs).2.length = n + 1 := by
  have h1 := fullsP_le a b gs.length (gs ++ [⟨2, f, 0⟩]) n
  have h2 := fullsP_len2 a b gs.length (gs ++ [⟨2, f, 0⟩]) n
  simp only [List.length_append, List.length_cons, List.length_nil] at h1
  constructor
  · show (_ ++ _ : List Gt).length = _
    rw [List.length_append, h1]; simp only [List.length_cons, List.length_nil]; omega
  · show (_ ++ _ : List Int).length = _
    rw [List.length_append, h2]; rfl
theorem lessP_len (a b : List Int) (gs : List Gt) : (lessP a b gs).1.length ≤ gs.length + 26 := by
  have h1 := (notsP_len b gs).1
  have h2 := fullsP_le a (notsP b gs).2 (notsP b gs).1.length ((notsP b gs).1 ++ [⟨2, 1, 0⟩]) 4
  simp only [List.length_append, List.length_cons, List.length_nil] at h2
  unfold lessP
  simp only [List.length_append, List.length_cons, List.length_nil, h2]
  omega
theorem andsP_len (l : List Int) (gs : List Gt) : ∀ k, (andsP l gs k).1.length = gs.length + k
  | 0 => rfl
  | k + 1 => by simp [andsP, andsP_len l gs k]; omega
theorem equalP_len (a b : List Int) (gs : List Gt) : (equalP a b gs).1.length ≤ gs.length + 11 := by
  have h1 := rnds_le (f := fun h k => (h ++ [⟨3, at0 a k, at0 b k⟩, ⟨5, h.length, 0⟩], (h.length : Int) + 1)) (m := 2) (by intro h k; simp) gs 4
  unfold equalP
  rw [andsP_len]
  unfold eqsP
  omega
theorem muxP_len (s : Int) (a b : List Int) (gs : List Gt) : (muxP s a b gs).1.length ≤ gs.length + 12 ∧ (muxP s a b gs).2.length = 4 :=
  ⟨rnds_le (m := 3) (by intro h k; simp) gs 4, rnds_len _ _ _⟩
theorem constP_len (n : Int) (gs : List Gt) : (constP n gs).1.length ≤ gs.length + 4 ∧ (constP n gs).2.length = 4 :=
  ⟨rnds_le (m := 1) (by intro h k; simp [put1]) gs 4, rnds_len _ _ _⟩
theorem rowP_len (y : Int) (a : List Int) (n : Nat) (gs : List Gt) : (rowP y a n gs).1.length ≤ gs.length + n ∧ (rowP y a n gs).2.length = n :=
  ⟨by have := rnds_le (f := fun h k => put1 h ⟨4, y, at0 a k⟩) (m := 1) (by intro h k; simp [put1]) gs n; simpa [rowP] using this, rnds_len _ _ _⟩
theorem mulR_len (a b : List Int) (gs : List Gt) : ∀ i, i ≤ 3 → (mulR a b gs i).1.length ≤ gs.length + 4 + 30 * i ∧ (mulR a b gs i).2.length = 4
  | 0, _ => by have := rowP_len (at0 b 0) a 4 gs; simp only [mulR]; omega
  | i + 1, h => by
    obtain ⟨h1, h2⟩ := mulR_len a b gs i (by omega)
    have h3 := rowP_len (at0 b (i + 1 : Nat)) a (3 - i) (mulR a b gs i).1
    have h4 := sumP_len ((mulR a b gs i).2.drop (i + 1)) (rowP (at0 b (i + 1 : Nat)) a (3 - i) (mulR a b gs i).1).2 0 (2 - i) (rowP (at0 b (i + 1 : Nat)) a (3 - i) (mulR a b gs i).1).1
    simp only [mulR, List.length_append, List.length_take]
    rw [h4.1, h4.2, h2]
    omega
theorem mulP_len (a b : List Int) (gs : List Gt) : (mulP a b gs).1.length ≤ gs.length + 94 ∧ (mulP a b gs).2.length = 4 := mulR_len a b gs 3 (by omega)

end Go.Proofs.Ytfcijloiebnloaa
