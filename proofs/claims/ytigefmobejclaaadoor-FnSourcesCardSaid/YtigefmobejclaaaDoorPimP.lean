/- What the program's ParseStmt makes of a line's pieces: plain; and the box, the map of forms. -/
import Derived.Test.YtigefmobejclaaaDoorPst
import Derived.Maps.OwnSet
import Derived.Maps.StringElems
namespace Go.Proofs.YtigefmobejclaaaDoor
open Go.RowKit Go.Maps
set_option linter.unusedVariables false
set_option linter.unusedSimpArgs false

/-! ### the plain law -/
theorem spl_mem_len (c : UInt8) : ∀ (l : Bs), ∀ y ∈ spl c l, y.length ≤ l.length
  | [], y, h => by simp [spl] at h; subst h; simp
  | b :: l, y, h => by
    have ih := spl_mem_len c l
    unfold spl at h
    split at h
    · rcases List.mem_cons.1 h with rfl | h
      · simp
      · have := ih y h; simp; omega
    · split at h
      · next he => exact absurd he (spl_ne c l)
      · next x t he =>
        rcases List.mem_cons.1 h with rfl | h
        · have := ih x (by rw [he]; simp); simp; omega
        · have := ih y (by rw [he]; simp [h]); simp; omega

/-- The form of an operation's arguments. -/
def formM (k : Int) : Bs := if k = 1 then [114, 110] else if k = 2 then [114, 112, 110] else if k = 10 then [114, 114, 114, 114] else if k = 11 then [114] else if k = 12 then [110] else []
def formA (k : Int) : Bs := if 3 ≤ k ∧ k ≤ 9 then [114, 114, 114] else formM k
theorem formA_len (k : Int) : (formA k).length ≤ 4 := by
  unfold formA formM
  repeat' split
  all_goals simp
def St.put (s : St) (o : Nat) (v : Int) : St := match o with
  | 0 => { s with op := v } | 1 => { s with dst := v } | 2 => { s with a := v } | 3 => { s with b := v } | 4 => { s with c := v } | _ => { s with n := v }
/-- The registers' places. -/
def regO (k : Int) (i : Nat) : Nat := if k = 11 then 2 else i + 1
/-- One argument taken. -/
def one (k : Int) (ts : List Bs) (s : St) (i : Nat) : St :=
  if (formA k).getD i 0 = 114 then s.put (regO k i) (numF [114] (ts.getD i [])) else if (formA k).getD i 0 = 112 then s.put 2 (numF [112] (ts.getD i [])) else s.put 5 (numF [] (ts.getD i []))
def asg (k : Int) (ts : List Bs) : Nat → St
  | 0 => ⟨k, 0, 0, 0, 0, 0⟩
  | i + 1 => one k ts (asg k ts i) i

theorem cand_of {l p0 : Bs} {ts : List Bs} (e : spl 32 l = p0 :: ts) {s : St} (hs : stOk s = true) (hf : fmtS s = l) :
    opOf p0 ≠ 0 ∧ ts.length = (formA (opOf p0)).length ∧ asg (opOf p0) ts ts.length = s := by
  obtain ⟨h1, h2⟩ := fmt_head hf e
  obtain ⟨g1, g2⟩ := stok_op hs
  have ho : opOf p0 = s.op := by rw [h1]; exact opOf_word g1 g2
  rw [ho]
  refine ⟨by omega, ?_⟩
  subst h2
  have : s.op = 1 ∨ s.op = 2 ∨ s.op = 10 ∨ s.op = 11 ∨ s.op = 12 ∨ s.op = 13 ∨ (3 ≤ s.op ∧ s.op ≤ 9) := by omega
  rcases this with e1 | e1 | e1 | e1 | e1 | e1 | e1
  · obtain ⟨e2, a1, a2, a3, a4⟩ := ok1 hs e1
    rw [args_op1 e1, e1]
    refine ⟨rfl, ?_⟩
    conv => rhs; rw [e2]
    have q1 := num_r a1 a2
    have q2 := num_n a3 a4
    simp [asg, one, formA, formM, regO, St.put, q1, q2]
  · obtain ⟨e2, a1, a2, a3, a4, a5, a6⟩ := ok2 hs e1
    rw [args_op2 e1, e1]
    refine ⟨rfl, ?_⟩
    conv => rhs; rw [e2]
    have q1 := num_r a1 a2
    have q2 := num_p a3 a4
    have q3 := num_n a5 a6
    simp [asg, one, formA, formM, regO, St.put, q1, q2, q3]
  · obtain ⟨e2, a1, a2, a3, a4, a5, a6, a7, a8⟩ := ok10 hs e1
    rw [args_op10 e1, e1]
    refine ⟨rfl, ?_⟩
    conv => rhs; rw [e2]
    have q1 := num_r a1 a2
    have q2 := num_r a3 a4
    have q3 := num_r a5 a6
    have q4 := num_r a7 a8
    simp [asg, one, formA, formM, regO, St.put, q1, q2, q3, q4]
  · obtain ⟨e2, a1, a2⟩ := ok11 hs e1
    rw [args_op11 e1, e1]
    refine ⟨rfl, ?_⟩
    conv => rhs; rw [e2]
    have q1 := num_r a1 a2
    simp [asg, one, formA, formM, regO, St.put, q1]
  · obtain ⟨e2, a1, a2⟩ := ok12 hs e1
    rw [args_op12 e1, e1]
    refine ⟨rfl, ?_⟩
    conv => rhs; rw [e2]
    have q1 := num_n a1 a2
    simp [asg, one, formA, formM, regO, St.put, q1]
  · have e2 := ok13 hs e1
    rw [args_op13 e1, e1]
    refine ⟨rfl, ?_⟩
    conv => rhs; rw [e2]
    simp [asg]
  · obtain ⟨e2, a1, a2, a3, a4, a5, a6⟩ := ok39 hs e1.1 e1.2
    rw [args_op39 e1.1 e1.2]
    have hfm : formA s.op = [114, 114, 114] := by unfold formA; rw [if_pos e1]
    refine ⟨by rw [hfm]; rfl, ?_⟩
    conv => rhs; rw [e2]
    have q1 := num_r a1 a2
    have q2 := num_r a3 a4
    have q3 := num_r a5 a6
    have hn : ¬ s.op = 11 := by omega
    simp [asg, one, hfm, regO, St.put, q1, q2, q3, hn]

/-! ### the box -/
def SB (b : Nat) (s : St) (w : World) : Prop := w.heap[b]? = some (.cells #[.int .i64 s.op, .int .i64 s.dst, .int .i64 s.a, .int .i64 s.b, .int .i64 s.c, .int .i64 s.n] 26 (0, 0))
theorem ZBox.sb {b : Nat} {w : World} (h : ZBox b w) : SB b ⟨0, 0, 0, 0, 0, 0⟩ w := h
theorem SB.lt {b : Nat} {s : St} {w : World} (h : SB b s w) : b < w.heap.size := (Array.getElem?_eq_some_iff.1 h).1
theorem SB.below {b : Nat} {s : St} {w w' : World} (h : SB b s w) (hb : Below w.heap.size w w') : SB b s w' := (hb.block b h.lt).trans h
theorem SB.alloc {b : Nat} {s : St} {w : World} (h : SB b s w) (o : Obj) : SB b s (w.alloc o) := (Below.heap_alloc _ _ _ h.lt).trans h
theorem SB.drew {b : Nat} {s : St} {w : World} (h : SB b s w) : SB b s w.drew := h
theorem SB.other {b : Nat} {s : St} {w : World} (h : SB b s w) (a : Addr) (v : Value) (hne : b ≠ a.block) : SB b s (w.setCell a v) := (Below.heap_setCell _ _ _ _ hne).trans h
theorem SB.set {b : Nat} {s : St} {w : World} (h : SB b s w) (o : Nat) (ho : o ≤ 5) (v : Int) : SB b (s.put o v) (w.setCell ⟨b, o, none⟩ (.int .i64 v)) := by
  have := heap_setCell_same w b o _ _ (.int .i64 v) h
  unfold SB
  rw [this]
  have : o = 0 ∨ o = 1 ∨ o = 2 ∨ o = 3 ∨ o = 4 ∨ o = 5 := by omega
  rcases this with rfl | rfl | rfl | rfl | rfl | rfl <;> rfl
theorem SB.at {b : Nat} {s : St} {w : World} (h : SB b s w) (o : Nat) (ho : o ≤ 5) : (∃ v, w.cell? ⟨b, o, none⟩ = some (.int .i64 v)) ∧ w.frozen? ⟨b, o, none⟩ = false := by
  unfold SB at h
  have : o = 0 ∨ o = 1 ∨ o = 2 ∨ o = 3 ∨ o = 4 ∨ o = 5 := by omega
  rcases this with rfl | rfl | rfl | rfl | rfl | rfl <;> exact ⟨⟨_, by simp [World.cell?, h]; rfl⟩, by simp [World.frozen?, h]⟩
theorem SB.cells {b : Nat} {s : St} {w : World} (h : SB b s w) : (w.cell? ⟨b, 0, none⟩ = some (.int .i64 s.op) ∧ w.cell? ⟨b, 1, none⟩ = some (.int .i64 s.dst) ∧ w.cell? ⟨b, 2, none⟩ = some (.int .i64 s.a) ∧ w.cell? ⟨b, 3, none⟩ = some (.int .i64 s.b) ∧ w.cell? ⟨b, 4, none⟩ = some (.int .i64 s.c) ∧ w.cell? ⟨b, 5, none⟩ = some (.int .i64 s.n)) ∧
    (w.frozen? ⟨b, 0, none⟩ = false ∧ w.frozen? ⟨b, 1, none⟩ = false ∧ w.frozen? ⟨b, 2, none⟩ = false ∧ w.frozen? ⟨b, 3, none⟩ = false ∧ w.frozen? ⟨b, 4, none⟩ = false ∧ w.frozen? ⟨b, 5, none⟩ = false) := by
  unfold SB at h
  refine ⟨⟨?_, ?_, ?_, ?_, ?_, ?_⟩, ?_, ?_, ?_, ?_, ?_, ?_⟩ <;> simp [World.cell?, World.frozen?, h]

/-! ### the places of the registers -/
theorem regO_le (k : Int) (i : Nat) (h : i < 4) : regO k i ≤ 5 := by unfold regO; split <;> omega
def RG (q : Int) (B rb nr : Nat) (w : World) : Prop := rb < w.heap.size ∧ B < rb ∧ ∀ i, i < nr → w.cell? ⟨rb, i, none⟩ = some (.pointer (some ⟨B, regO q i, none⟩))
theorem RG.below {q : Int} {B rb nr : Nat} {w w' : World} (h : RG q B rb nr w) (hb : Below w.heap.size w w') : RG q B rb nr w' :=
  ⟨Nat.lt_of_lt_of_le h.1 hb.size, h.2.1, fun i hi => bel_keeps hb (h.2.2 i hi)⟩
theorem RG.drew {q : Int} {B rb nr : Nat} {w : World} (h : RG q B rb nr w) : RG q B rb nr w.drew := h
theorem RG.other {q : Int} {B rb nr : Nat} {w : World} (h : RG q B rb nr w) (o : Nat) (v : Value) : RG q B rb nr (w.setCell ⟨B, o, none⟩ v) := by
  refine ⟨by rw [World.size_setCell]; exact h.1, h.2.1, fun i hi => ?_⟩
  have e := Below.heap_setCell w ⟨B, o, none⟩ v rb (by have := h.2.1; simp only; omega)
  have := h.2.2 i hi
  simp only [World.cell?] at this ⊢
  rw [e]
  exact this
theorem RG.four (w : World) (q : Int) (B : Nat) (t : TypeId) (hB : B < w.heap.size) (h : q ≠ 11) : RG q B w.heap.size 4 (w.alloc (.cells #[.pointer (some ⟨B, 1, none⟩), .pointer (some ⟨B, 2, none⟩), .pointer (some ⟨B, 3, none⟩), .pointer (some ⟨B, 4, none⟩)] t)) := by
  refine ⟨by simp, hB, fun i hi => ?_⟩
  have : i = 0 ∨ i = 1 ∨ i = 2 ∨ i = 3 := by omega
  unfold regO
  rw [if_neg h]
  rcases this with rfl | rfl | rfl | rfl <;> (simp only [World.cell?, heap_alloc_new]; rfl)
theorem RG.out (w : World) (B : Nat) (t : TypeId) (hB : B < w.heap.size) : RG 11 B w.heap.size 1 (w.alloc (.cells #[.pointer (some ⟨B, 2, none⟩)] t)) := by
  refine ⟨by simp, hB, fun i hi => ?_⟩
  obtain rfl : i = 0 := by omega
  simp only [World.cell?, heap_alloc_new]
  rfl

/-! ### the map of forms -/
theorem lawK : Keyed Tryd.prog 3 := int_keyed Tryd.underlying3
abbrev DM := DataW Unit
/-- A map of the call's own that reads as D, all else as it was. -/
def Mp (lo : Nat) (w0 w : World) (b n : Nat) (D : DM) : Prop := w.ownsMap Tryd.prog 3 (plainElem Tryd.prog 9) b n D ∧ Below lo w0 w ∧ lo ≤ b
theorem Mp.made (w0 : World) : Mp w0.heap.size w0 (w0.alloc (.map #[] 0)) w0.heap.size 0 (.map []) :=
  ⟨World.ownsMap_made _ _ _ _, (Below.refl _ _).alloc (Nat.le_refl _) _, Nat.le_refl _⟩
theorem wf_small {k : Int} (h0 : 0 ≤ k) (h1 : k ≤ 100) : (Lit.int .i64 k).wf = true := WalkArith.wf_i64 (by omega)

section
variable {ops : Array Oper} {rest : List Oper} {o : Oper} {a : Act} {Q : Exit → Act → World → Prop}
theorem wpList_mapPut (lo : Nat) (w0 w : World) (hg : o.guard = none) (m x v : Operand) (hop : o.op = Op.mapUpdate 65 m x v) (b n : Nat) (D : DM) (hm : a.eval m = .map (some b)) (hown : Mp lo w0 w b n D) (hn : n ≤ 100)
    (k : Int) (l : Bs) (hx : a.eval x = .int .i64 k) (hv : a.eval v = .string (bA l)) (h0 : 0 ≤ k) (h1 : k ≤ 100) (hl : l.length ≤ 100)
    (hK : ∀ w', Mp lo w0 w' b (n + 1) (D.put (.int .i64 k) (.lit (.string l))) → wpList Tryd.prog ops Q rest (a.put o.dst undef) w') :
    wpList Tryd.prog ops Q (o :: rest) a w :=
  wpList_mapUpdate_own w hg m x v 65 hop 3 9 lawK Tryd.underlying65 _ b n D hm hown.1 (by unfold maxLen; omega) _ _ _ hx hv (keyOf_int_mk Tryd.underlying3 (wf_small h0 h1)) _ [] (plainElem_string Tryd.underlying9 (by rw [bA_size]; unfold maxLen; omega))
    fun w' h1 h2 => hK w' ⟨h1, Below.grown hown.2.1 h2 (Nat.le_of_lt (Nat.lt_of_le_of_lt hown.2.2 hown.1.lt)) (fun i hi => by cases hi; exact hown.2.2), hown.2.2⟩
theorem wpList_mapIns (lo : Nat) (w0 w : World) (hg : o.guard = none) (m x v : Operand) (hop : o.op = Op.insert 65 m x v) (b n : Nat) (D : DM) (hm : a.eval m = .map (some b)) (hown : Mp lo w0 w b n D) (hn : n ≤ 100)
    (k : Int) (l : Bs) (hx : a.eval x = .int .i64 k) (hv : a.eval v = .string (bA l)) (h0 : 0 ≤ k) (h1 : k ≤ 100) (hl : l.length ≤ 100)
    (hK : ∀ w', Mp lo w0 w' b (n + 1) (D.put (.int .i64 k) (.lit (.string l))) → wpList Tryd.prog ops Q rest (a.put o.dst undef) w') :
    wpList Tryd.prog ops Q (o :: rest) a w := by
  refine wpList_plain hg fun K' hK' => ?_
  obtain ⟨w', hrun, r1, r2⟩ := hown.1.update lawK Tryd.underlying65 (by unfold maxLen; omega) (keyOf_int_mk Tryd.underlying3 (wf_small h0 h1)) (plainElem_string Tryd.underlying9 (s := bA l) (by rw [bA_size]; unfold maxLen; omega))
  unfold Oper.wp
  simp [execOp, hop, hm, hx, hv, hrun, Result.andThen]
  exact hK' _ _ (hK w' ⟨r1, Below.grown hown.2.1 r2 (Nat.le_of_lt (Nat.lt_of_le_of_lt hown.2.2 hown.1.lt)) (fun i hi => by cases hi; exact hown.2.2), hown.2.2⟩)
theorem wpList_mapGet (lo : Nat) (w0 w : World) (hg : o.guard = none) (m x : Operand) (hop : o.op = Op.lookup 65 m x false) (b n : Nat) (D : DM) (hm : a.eval m = .map (some b)) (hown : Mp lo w0 w b n D)
    (k : Int) (l : Bs) (hx : a.eval x = .int .i64 k) (h0 : 0 ≤ k) (h1 : k ≤ 100) (hat : D.atKey (.int .i64 k) (.lit (.string [])) = .lit (.string l))
    (hK : wpList Tryd.prog ops Q rest (a.put o.dst (.string (bA l))) w) :
    wpList Tryd.prog ops Q (o :: rest) a w := by
  refine wpList_plain hg fun K' hK' => ?_
  obtain ⟨v, ps, hrun, hR⟩ := hown.1.lookup lawK Tryd.underlying65 (z := .string (bA [])) (by kernel_rfl) (zd := .lit (.string [])) (zp := []) (plainElem_string Tryd.underlying9 (by rw [bA_size]; unfold maxLen; simp)) (keyOf_int_mk Tryd.underlying3 (wf_small h0 h1))
  rw [hat] at hR
  obtain ⟨s, rfl, hz, _⟩ := plainElem_string_inv Tryd.underlying9 hR
  have hs : s = bA l := by
    simp at hz
    exact ba_ext (by rw [← hz.1])
  unfold Oper.wp
  simp [execOp, hop, hm, hx, hrun, Result.andThen]
  rw [hs]
  exact hK' _ _ hK
end
/-- What the map of forms reads as. -/
def formD : DM := (((((((DataW.map []).put (.int .i64 1) (.lit (.string [114, 110]))).put (.int .i64 2) (.lit (.string [114, 112, 110]))).put (.int .i64 10) (.lit (.string [114, 114, 114, 114]))).put (.int .i64 11) (.lit (.string [114]))).put (.int .i64 12) (.lit (.string [110]))).put (.int .i64 13) (.lit (.string [])))
theorem formD_at {k : Int} (h0 : 0 ≤ k) (h1 : k ≤ 13) : formD.atKey (.int .i64 k) (.lit (.string [])) = .lit (.string (formM k)) := by
  have : k = 0 ∨ k = 1 ∨ k = 2 ∨ k = 3 ∨ k = 4 ∨ k = 5 ∨ k = 6 ∨ k = 7 ∨ k = 8 ∨ k = 9 ∨ k = 10 ∨ k = 11 ∨ k = 12 ∨ k = 13 := by omega
  rcases this with rfl | rfl | rfl | rfl | rfl | rfl | rfl | rfl | rfl | rfl | rfl | rfl | rfl | rfl <;> first | rfl | kernel_rfl | decide
end Go.Proofs.YtigefmobejclaaaDoor
