/- Words of input bits. -/
import Derived.Test.YtfpblgbokmpmjaaInputBits
import Derived.Test.YtfpblgbokmpmjaaWordsOf
namespace Go.Proofs.Ytfpblgbokmpmjaa
open Go.RowKit
set_option linter.unusedVariables false
set_option linter.unusedSimpArgs false

theorem words_append (xs : List Int) : ∀ ys : List Int, xs.length % 4 = 0 → words (xs ++ ys) = words xs ++ words ys := by
  match xs with
  | a :: b :: c :: d :: r =>
    intro ys h
    have := words_append r ys (by simp at h; omega)
    simp [words, this]
  | [] => intro ys _; simp [words]
  | [_] => intro ys h; simp at h
  | [_, _] => intro ys h; simp at h
  | [_, _, _] => intro ys h; simp at h
theorem bits_sum {x : Int} (h0 : 0 ≤ x) (h1 : x ≤ 15) : bitI x 0 + 2 * bitI x 1 + 4 * bitI x 2 + 8 * bitI x 3 = x := by
  simp [bitI]; omega
def valAt (xss : List (List Int)) (j : Nat) : Int := (xss.getD (j / 4) []).getD (j % 4) 0
theorem bitsT_four (xss : List (List Int)) (m : Nat) : bitsT xss (4 * (m + 1)) = bitsT xss (4 * m) ++ [bitI (valAt xss m) 0, bitI (valAt xss m) 1, bitI (valAt xss m) 2, bitI (valAt xss m) 3] := by
  have e : ∀ b, b < 4 → (4 * m + b) / 16 = m / 4 ∧ (4 * m + b) / 4 % 4 = m % 4 ∧ (4 * m + b) % 4 = b := by intro b hb; omega
  have h0 := e 0 (by omega)
  have h1 := e 1 (by omega)
  have h2 := e 2 (by omega)
  have h3 := e 3 (by omega)
  simp only [Nat.add_zero] at h0
  unfold bitsT valAt
  rw [show 4 * (m + 1) = 4 * m + 1 + 1 + 1 + 1 by omega]
  simp only [List.range_succ, List.map_append, List.map_cons, List.map_nil, List.append_assoc, List.cons_append, List.nil_append, Nat.add_assoc, Nat.reduceAdd, h0, h1, h2, h3]
theorem words_bitsT (xss : List (List Int)) (hv : ∀ j, 0 ≤ valAt xss j ∧ valAt xss j ≤ 15) : ∀ m, words (bitsT xss (4 * m)) = (List.range m).map (valAt xss) := by
  intro m
  induction m with
  | zero => simp [bitsT, words]
  | succ m ih =>
    rw [bitsT_four, words_append _ _ (by rw [bitsT_length]; omega), ih, List.range_succ, List.map_append]
    simp [words, bits_sum (hv m).1 (hv m).2]
theorem allB_bitsT (xss : List (List Int)) (t : Nat) : allB (bitsT xss t) 0 1 = true := by
  rw [allB_iff]
  intro x hx
  obtain ⟨i, _, rfl⟩ := List.mem_map.1 hx
  have h1 := Int.emod_nonneg ((((xss.getD (i / 16) []).getD (i / 4 % 4) 0)) / 2 ^ (i % 4)) (show (2 : Int) ≠ 0 by omega)
  have h2 := Int.emod_lt_of_pos ((((xss.getD (i / 16) []).getD (i / 4 % 4) 0)) / 2 ^ (i % 4)) (show (0 : Int) < 2 by omega)
  unfold bitI; omega
theorem valAt_b {rs : List Rw} (h : inputsOk (rs.map Rw.xs) = true) (j : Nat) : 0 ≤ valAt (rs.map Rw.xs) j ∧ valAt (rs.map Rw.xs) j ≤ 15 := by
  unfold valAt
  by_cases hj : j / 4 < (rs.map Rw.xs).length
  · have hm : (rs.map Rw.xs)[j / 4] ∈ rs.map Rw.xs := List.getElem_mem hj
    obtain ⟨r, hr, e⟩ := List.mem_map.1 hm
    have := (inputsOk_parts h).2 r hr
    rw [show (rs.map Rw.xs).getD (j / 4) [] = r.xs by simp only [List.getD, List.getElem?_eq_getElem hj, Option.getD_some]; exact e.symm]
    by_cases hk : j % 4 < r.xs.length
    · simp only [List.getD, List.getElem?_eq_getElem hk, Option.getD_some]; exact this.2 _ (List.getElem_mem hk)
    · simp only [List.getD, List.getElem?_eq_none (by omega : r.xs.length ≤ j % 4), Option.getD_none]; omega
  · simp only [List.getD, List.getElem?_eq_none (by omega : (rs.map Rw.xs).length ≤ j / 4), Option.getD_none]; simp
theorem input_words {rs : List Rw} (h : inputsOk (rs.map Rw.xs) = true) : (inputBits (rs.map Rw.xs)).length = 80 ∧ wordsOf (inputBits (rs.map Rw.xs)) = (List.range 20).map (valAt (rs.map Rw.xs)) := by
  have e : inputBits (rs.map Rw.xs) = bitsT (rs.map Rw.xs) (4 * 20) := by simp [inputBits, h]
  rw [e]
  refine ⟨bitsT_length _ _, ?_⟩
  rw [← words_bitsT _ (valAt_b h) 20]
  unfold wordsOf
  rw [if_pos ⟨by rw [bitsT_length], allB_bitsT _ _⟩]
theorem iInputBits_n (rs : List Rw) (nn : Nat) (hn : rs.length = nn) (xss : List (List Int)) (hx : rs.map Rw.xs = xss) (ad : Option Addr) (cp : Nat) (w : World) (hm : nn ≤ maxLen) (hml : rowsLe rs) (hr : RdR w ad rs) :
    Calls Try.prog 85 #[.slice ad nn cp] w fun e w' => ∃ a' c', e = .returned (.slice a' (inputBits xss).length c') ∧ Own w' w.heap.size 3 1 a' (inputBits xss).length c' (I64 (inputBits xss)) ∧ Below w.heap.size w w' := by
  subst hn; subst hx
  exact iInputBits_any rs ad cp w hm hml hr

end Go.Proofs.Ytfpblgbokmpmjaa
