/- From what the rows list to what the walks ask of the world; the wrap that hands on the world's shape. -/
import Derived.Test.YtigefmobejclaaaDoorRows
import Derived.Test.YtigefmobejclaaaDoorLib
import Derived.Handed
import Derived.LaidMore
import Derived.Lib.LaidU8
import Derived.SliceStrings
import Derived.Stop.LaidErr
import Derived.Shelf.Vars
namespace Go.Proofs.YtigefmobejclaaaDoor
open Go.ChangeShapes Go.WideShapes Go.RowKit Go.ChangeShapes
set_option linter.unusedVariables false

section
variable {H : Type} {enc : TypeId × Value → H}
/-- The wrap: a condition on the world beside, and the world's shape handed on. -/
theorem returnsS {a : Assume} {C : Checked} {os : Os} {f : FuncId} {fn : Func} {s : ChangeSpec} {conds : List PathCond} {apart fresh handsOn again : Bool} {X : World → Array Value → Prop}
    (hX : ∀ (w w' : World) (args : Array Value), w.heap = w'.heap → X w args → X w' args)
    (own : ownKnob C.prog.godebug = none) (started : os.Started) (noInit : C.prog.inits.idxOf? f = none) (hfn : C.prog.funcs[f]? = some fn)
    (witness : ∃ (w : World) (tape : Tape) (i : Input), w.os = os ∧ (w.forCall tape i).Shaped C.prog ∧ i.vars = [] ∧ Input.okWide C.prog (w.forCall tape i) .any w.heap.size f i ∧
      ((s.pre enc C.prog fn conds apart (w.forCall tape i).memory i.args ∧ X (w.forCall tape i).memory i.args) ∧ sizedMet enc C.prog fn (OpenSpec.ofChange s) apart (w.forCall tape i).memory i.args) ∧ a.holds C.prog (lone (Frame.enter C.prog f i.args .normal) [] (w.forCall tape i)))
    (contract : ∀ (W : World) (base : Nat) (args : Array Value) (ds gs : List (DataW H)) (before : List MemPlace),
      (∀ (j : Nat) t v, fn.params[j]? = some t → args[j]? = some v → Value.okWide C.prog W .any base t v) →
      DataW.Whole enc C.prog fn.params.toList s.vars apart W args.toList ds gs before →
      X W args → W.ShapedOpen C.prog →
      Calls C.prog f args W fun e W' => ∃ v, e = .returned v ∧ s.post enc C.prog fn apart fresh handsOn again W args v W') :
    ReturnsInHanded a C os f .any (fun w args => (s.pre enc C.prog fn conds apart w args ∧ X w args) ∧ sizedMet enc C.prog fn (OpenSpec.ofChange s) apart w args) (s.post enc C.prog fn apart fresh handsOn again) := by
  refine returnsInHanded_of_calls own started noInit witness ?_
  intro w tape i _ hsh _ hok hpre _
  obtain ⟨_, _, _, fn', hfn', _, _, _, _, hval⟩ := hok
  have e : fn' = fn := Option.some.inj (hfn'.symm.trans hfn)
  subst e
  obtain ⟨⟨⟨ds, gs, before, hw, hc⟩, hx⟩, hz⟩ := hpre
  have hw' := DataW.Whole.of_heap (w' := w.forCall tape i) (by rfl) hw
  refine (contract (w.forCall tape i) w.heap.size i.args ds gs before hval hw' (hX _ _ _ (by rfl) hx) hsh).mono fun e W' ⟨v, he, hp⟩ => ?_
  subst he
  exact ChangeSpec.post_blind hp
end

theorem strs_inj {xs : List ByteArray} {ys : List Bs} (h : (ChangeShapes.strs xs : List (DataW Unit)) = ys.map fun l => .lit (.string l)) : xs = ys.map bA := by
  induction xs generalizing ys with
  | nil => cases ys with
    | nil => rfl
    | cons y r => simp [ChangeShapes.strs] at h
  | cons x xs ih => cases ys with
    | nil => simp [ChangeShapes.strs] at h
    | cons y r =>
      simp only [ChangeShapes.strs, List.map_cons, List.cons.injEq, DataW.lit.injEq, Lit.string.injEq] at h
      rw [List.map_cons, ← h.1, ih (ys := r) (by simpa [ChangeShapes.strs] using h.2)]

theorem laidW_of {W : World} (h : Lib.VarReads Tryd.prog W "loop.example/g00979/impl.opWords" Rows.laid_loop_example_g00979_impl_opWords) : LaidW W := by
  obtain ⟨g, t, cs, fuel, p, h1, h2, h3, h4⟩ := h
  obtain rfl := Option.some.inj ((show Tryd.prog.globalNamed "loop.example/g00979/impl.opWords" = some 0 by kernel_rfl).symm.trans h1)
  obtain rfl := Option.some.inj ((show (Tryd.prog.globals[0]?).map (·.type) = some 50 by kernel_rfl).symm.trans h2)
  rcases open_strings Tryd.underlying50 Tryd.underlying9 (by kernel_rfl) h4 with ⟨_, hx⟩ | ⟨a, len, cap, ss, hcs, _, hl, hm, hss, hx, hcell, _⟩
  · simp [Rows.laid_loop_example_g00979_impl_opWords] at hx
  have hx1 := congrArg Prod.fst hx
  simp only [Rows.laid_loop_example_g00979_impl_opWords, DataW.slice.injEq] at hx1
  have hw : ss.take len = opW.map bA := strs_inj (by rw [← hx1.1]; rfl)
  have hlen : len = 14 := by
    have := congrArg List.length hw
    rw [List.length_take, List.length_map, show opW.length = 14 from rfl] at this
    simp only [if_true] at hss
    omega
  subst hlen
  have hc0 : W.cell? ⟨0, 0, none⟩ = some (.slice (some a) 14 cap) := by
    have := World.var?_cell h1 h3 0
    rw [this]
    obtain ⟨l⟩ := cs
    simp only at hcs
    subst hcs
    rfl
  have hsp : a.spot = none := by
    have := hcell 0 (by simp only [if_true] at hss; omega)
    obtain ⟨b, o, sp⟩ := a
    cases sp with
    | none => rfl
    | some x =>
      exfalso
      simp only [Addr.add, World.cell?] at this
      revert this
      split
      · intro h; simp at h
      · intro h; cases h
  obtain ⟨b, o, sp⟩ := a
  simp only at hsp
  subst hsp
  refine ⟨b, o, cap, hc0, .inr ⟨b, o, rfl, fun i hi => ?_⟩⟩
  have hi' : i < 14 := by simpa [opW] using hi
  have := hcell i (by simp only [if_true] at hss; omega)
  have e : (ss.getD i ByteArray.empty) = bA (opW[i]'hi') := by
    have h0 : (ss.take 14)[i]? = some (bA (opW[i]'hi')) := by rw [hw, List.getElem?_map, List.getElem?_eq_getElem (show i < opW.length from hi')]; rfl
    rw [List.getElem?_take, if_pos hi'] at h0
    rw [List.getD_eq_getElem?_getD, h0]; rfl
  rw [e, show (⟨b, o, none⟩ : Addr).add i = ⟨b, o + i, none⟩ from by simp [Addr.add]] at this
  rw [this]
  simp only [strV, List.getElem_map]
  rfl

theorem errRow (u : TypeId) (h : Tryd.prog.typeName? 3 u = some "*errors.errorString") : u = 130 :=
  typeName_ptr_named (nm := "errors.errorString") (by rw [show "*" ++ "errors.errorString" = "*errors.errorString" by decide]; kernel_rfl) (by kernel_rfl) (by decide) u (by rw [show "*" ++ "errors.errorString" = "*errors.errorString" by decide]; exact h)

theorem cell_of_sentinel {W : World} {n : String} {g : Nat} {text : List UInt8} {r : List (String × DataW Unit)} (h : laidMet Tryd.prog ((n, .iface "*errors.errorString" (.ptr (.agg [.lit (.string text)]))) :: r) W)
    (hg : Tryd.prog.globalNamed n = some g) (ht : (Tryd.prog.globals[g]?).map (·.type) = some 57) : ∃ t p, W.cell? ⟨g, 0, none⟩ = some (.iface t p) := by
  obtain ⟨a0, s0, hv0, _⟩ := laid_sentinel h hg ht Tryd.underlying57 errRow Tryd.underlying130 Tryd.underlying132 rfl rfl Tryd.underlying9 (by kernel_rfl) (by kernel_rfl)
  exact ⟨_, _, by have h0 := World.var?_cell hg hv0 0; simpa using h0⟩

/-- What the rows of FormatStmt and FormatProgram list. -/
theorem laidW_row {W : World} (h : laidMetH Tryd.prog Rows.fnExactFormatStmtRow.laid W) : LaidW W := by
  rw [MakeChecks.laidMetH_plain _ _ _ (by kernel_rfl)] at h
  exact laidW_of (Lib.laidMet.reads h (by simp [Rows.fnExactFormatStmtRow]))

/-- What the rows of the parsers list. -/
theorem laid_row {W : World} (h : laidMetH Tryd.prog Rows.fnExactParseStmtRow.laid W) (hS : W.ShapedOpen Tryd.prog) : Laid W := by
  rw [MakeChecks.laidMetH_plain _ _ _ (by kernel_rfl)] at h
  have h3 := h.tail.tail
  have h5 := h3.tail.tail
  have h6 := h5.tail
  refine ⟨laidW_of (Lib.laidMet.reads h (by simp [Rows.fnExactParseStmtRow])), ?_, ?_, cell_of_sentinel h6 (by kernel_rfl) (by kernel_rfl), cell_of_sentinel h5 (by kernel_rfl) (by kernel_rfl)⟩
  · exact cell_of_shapedOpen_int (zero := #[.int .i64 0]) (t := 3) hS (of_decide_eq_true (by kernel_rfl)) (by kernel_rfl) rfl (by kernel_rfl) (by kernel_rfl) Tryd.underlying3
  · exact Lib.tabIs_of_head (t := 112) (e := 99) (n := 20) (g := 2) (by kernel_rfl) (by kernel_rfl) Tryd.underlying112 Tryd.underlying99 (by kernel_rfl) (by kernel_rfl)
      (show laidMet Tryd.prog ( ("internal/strconv.uint64pow10", Lib.tabData .u64 Lib.pow10Tab) :: Rows.fnExactParseStmtRow.laid.tail.tail.tail) W from h3)
end Go.Proofs.YtigefmobejclaaaDoor
