/- Facts for products. -/
import Derived.Test.YtfcijloiebnloaaWordF0
import Derived.StillTailTactics
import Derived.Deep.RegionHeld3
import Derived.Deep.RegionLaw
namespace Go.Proofs.Ytfcijloiebnloaa
open Go.RowKit
set_option linter.unusedVariables false
set_option linter.unusedSimpArgs false

theorem RdC.elemAt {w : World} {b off : Nat} {xs : List Int} (h : RdC w (some ⟨b, off, none⟩) (I64 xs)) (k : Nat) (hk : k < xs.length) : w.cell? ⟨b, off + k, none⟩ = some (.int .i64 (at0 xs (k : Int))) := by
  obtain ⟨b', off', e, _, hc⟩ := h.elem k hk
  cases e
  exact hc
theorem Bs.then {w W W2 : World} {lo bx g k c g' k' c' : Nat} {G G' : List Gt} {v : Value} {T T' : List Int} (h : Bs w W lo bx G v g k c T) (h2 : Bs W W2 lo bx G' v g' k' c' T') : Bs w W2 lo bx G' v g' k' c' T' :=
  ⟨h2.b, h2.o.lo h.l.size, h2.f, h.r.trans h2.r, h.l.trans h2.l, h.z⟩
theorem rd_drop {w : World} {g : Nat} {T : List Int} (h : RdC w (some ⟨g, 0, none⟩) (I64 T)) (i : Nat) : RdC w (some ⟨g, i, none⟩) (I64 (T.drop i)) := by
  rcases h with h | ⟨b, off, h1, h2⟩
  · have : T = [] := by have := congrArg List.length h; simp at this; exact this
    subst this; exact .inl (by simp)
  · cases h1
    refine .inr ⟨g, i, rfl, fun j hj => ?_⟩
    have hj' : i + j < T.length := by simp at hj; omega
    have := h2 (i + j) (by simpa using hj')
    rw [Nat.zero_add] at this
    rw [this]
    simp [I64]
theorem own_cap' {w : World} {lo e size g n cap : Nat} {cs : List Value} (h : Own w lo e size (some ⟨g, 0, none⟩) n cap cs) : n ≤ cap := by
  rcases h.2 with ⟨hv, _⟩ | ⟨g', cap', cur, hv, _, _, hn, _⟩
  · cases hv
  · cases hv; exact hn
theorem Bs.set {w0 w : World} {lo bx gt k ct : Nat} {G : List Gt} {v : Value} {T : List Int} (h : Bs w0 w lo bx G v gt k ct T) (j : Nat) (x : Int) : Bs w0 (w.setCell ⟨gt, j, none⟩ (.int .i64 x)) lo bx G v gt k ct (T.set j x) := by
  have hs : (w.setCell ⟨gt, j, none⟩ (.int .i64 x)).heap.size = w.heap.size := by simp [World.setCell]
  have hk : ∀ b, b ≠ gt → (w.setCell ⟨gt, j, none⟩ (.int .i64 x)).heap[b]? = w.heap[b]? := fun b hb => Below.heap_setCell _ _ _ _ hb
  have hm : ∀ b, b = bx ∨ gblk w bx = some b → (w.setCell ⟨gt, j, none⟩ (.int .i64 x)).heap[b]? = w.heap[b]? := fun b hb => hk b (by
    rintro rfl
    rcases hb with e | e
    · exact h.f.2.1 e
    · exact h.f.2.2 e)
  have hge := h.ge
  have hz := h.z
  refine ⟨h.b.other hm (by omega), ?_, frn_other h.b hm (by omega) h.f, fun b hb => ?_, h.l.trans ((Below.refl _ _).setCell (by show lo ≤ gt; omega) _), h.z⟩
  · have := h.o.put j (.int .i64 x)
    rwa [show (I64 T).set j (.int .i64 x) = I64 (T.set j x) by simp [I64, List.map_set]] at this
  · have h1 := h.r b hb
    exact ⟨(hk b (by have := hb.1; omega)).trans h1.1, frn_other h.b hm (by omega) h1.2⟩
theorem fill_succ {P R : List Int} {i k : Nat} {x : Int} (hk : i + k < P.length) (h : (P.drop i).take k = R) : ((P.set (i + k) x).drop i).take (k + 1) = R ++ [x] := by
  have hl : R.length = k := by rw [← h]; simp; omega
  apply List.ext_getElem
  · simp [hl]; omega
  · intro j h1 h2
    simp at h1
    rw [List.getElem_take, List.getElem_drop, List.getElem_set]
    by_cases e : j = k
    · subst e; simp [hl]
    · have hj : j < R.length := by omega
      rw [if_neg (by omega), List.getElem_append_left hj]
      simp only [← h, List.getElem_take, List.getElem_drop]
theorem mulR_succ (a b : List Int) (gs : List Gt) (i : Nat) {G G1 : List Gt} {T P : List Int} (h : mulR a b gs i = (G, T)) (hp : rowP (at0 b (i + 1 : Nat)) a (3 - i) G = (G1, P)) :
    mulR a b gs (i + 1) = ((sumP (T.drop (i + 1)) P 0 (2 - i) G1).1, T.take (i + 1) ++ (sumP (T.drop (i + 1)) P 0 (2 - i) G1).2) := by
  simp only [mulR]
  rw [h]
  simp only
  rw [hp]

end Go.Proofs.Ytfcijloiebnloaa
