/- A written program is found again: plain. -/
import Derived.Test.YtigefmobejclaaaDoorPp
namespace Go.Proofs.YtigefmobejclaaaDoor
set_option linter.unusedVariables false

theorem fmtS_no10 (s : St) : (10 : UInt8) ∉ fmtS s := fun h => by have := fmtS_bytes s 10 h; simp at this
theorem spl_prog : ∀ (l : List St) (t : Bs), (10 : UInt8) ∉ t → spl 10 (progText l ++ t) = l.map fmtS ++ [t]
  | [], t, h => by simpa [progText] using spl_none h
  | s :: r, t, h => by
    have ih := spl_prog r t h
    have e : progText (s :: r) ++ t = fmtS s ++ 10 :: (progText r ++ t) := by simp [progText]
    rw [e, spl_first (fmtS_no10 s), ih]
    rfl
theorem fmtS_ne {s : St} (h : stOk s = true) : ¬ fmtS s = [] := fun e => by
  have h1 := spl_fmtS s
  rw [e] at h1
  have h2 : ([] : Bs) = wordB s.op := by
    have : spl 32 ([] : Bs) = [[]] := rfl
    rw [this] at h1
    exact (List.cons.inj h1).1
  obtain ⟨g1, g2⟩ := stok_op h
  have h3 := opOf_word g1 g2
  rw [← h2] at h3
  have : opOf ([] : Bs) = 0 := by decide
  omega
theorem ppL_prog : ∀ (l : List St) (r : List Bs) (i : Nat) (acc : List St), (∀ s ∈ l, stOk s = true) → ppL (l.map fmtS ++ r) i acc = ppL r (i + l.length) (acc ++ l)
  | [], r, i, acc, _ => by simp
  | s :: t, r, i, acc, h => by
    have hs := h s (by simp)
    rw [List.map_cons, List.cons_append, ppL_ok _ _ _ (fmtS_ne hs) (by rw [pst_fmtS hs]), pst_fmtS hs, ppL_prog t r (i + 1) _ (fun x hx => h x (List.mem_cons_of_mem _ hx))]
    simp only [List.length_cons, List.append_assoc, List.cons_append, List.nil_append]
    congr 1
    omega
theorem ok_all {l : List St} (h : progOk l = true) : ∀ s ∈ l, stOk s = true := fun s hs => by
  obtain ⟨i, hi⟩ := List.getElem?_of_mem hs
  exact stok_atF h hi
theorem progText_le {l : List St} (h : progOk l = true) : (progText l).length ≤ 2440 := by
  have := progText_len_take h l.length
  rwa [List.take_length] at this
theorem pp_prog {l : List St} (h : progOk l = true) : pp (progText l) = (l, 0) := by
  have hl := progText_le h
  unfold pp
  rw [if_pos (by omega)]
  have e := spl_prog l [] (by simp)
  rw [List.append_nil] at e
  rw [e, ppL_prog l _ _ _ (ok_all h), ppL_skip _ _ _ rfl, List.nil_append, ppL_end _ _ h]
def wrongB : Bs := [119, 114, 111, 110, 103]
theorem pst_wrong : (pst wrongB).2 = false := by
  cases hb : (pst wrongB).2
  · rfl
  · obtain ⟨h1, h2⟩ := pst_true hb
    have h3 := (fmt_head h2 (show spl 32 wrongB = wrongB :: [] by decide)).1
    obtain ⟨g1, g2⟩ := stok_op h1
    have h4 := opOf_word g1 g2
    rw [← h3] at h4
    have : opOf wrongB = 0 := by decide
    omega
theorem pp_wrong {l : List St} (h : progOk l = true) : pp (progText l ++ wrongB) = ([], (l.length : Int) + 1) := by
  have hl := progText_le h
  unfold pp
  rw [if_pos (by rw [List.length_append]; show _ + 5 ≤ _; omega), spl_prog l wrongB (by decide), ppL_prog l _ _ _ (ok_all h), ppL_bad _ _ _ (by decide) pst_wrong]
  simp
end Go.Proofs.YtigefmobejclaaaDoor
