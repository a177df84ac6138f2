/- The law FnCompiled: for every input the call returns true, and each argument reads afterwards as it read before. No condition. -/
import Derived.Test.YtfcijloiebnloaaLawCompiled2
import Derived.Test.YtfcijloiebnloaaFacts
import Derived.Test.YtfcijloiebnloaaOpen
import Derived.Below
import Derived.ChangeOld
import Derived.OpenShut
import Derived.ProofKit
import Derived.ShutString
import Derived.WalkKit
namespace Go.Proofs.Ytfcijloiebnloaa.fnCompiled
open Go.ChangeShapes Go.WideShapes Go.ChangeAt Go.RowKit
open Go.ChangeMaps (open_string shut_string)
set_option linter.unusedVariables false

theorem own : ownKnob Try.prog.godebug = none := by kernel_rfl
theorem laidOut : laidOutB Try.prog = true := by kernel_rfl

set_option maxRecDepth 100000 in
theorem lifted (os : Os) (started : os.Started) (H : Type) (enc : TypeId × Value → H) :
    ReturnsInHanded {} Try.checked os 11 .any (Rows.fnCompiledSpec.pre6 enc Try.prog Try.f11 Rows.fnCompiledRow.domain false) (Rows.fnCompiledSpec.post enc Try.prog Try.f11 false true false false) := by
  refine returnsInHanded_of_change (C := Try.checked) own started (by kernel_rfl) Try.func11
    (ChangeSpec.witness6 (enc := enc) (C := Try.checked) false ⟨#[], #[.slice none 0 0], []⟩ 8 (by kernel_rfl) (by kernel_rfl) (by kernel_rfl) (by kernel_rfl)) ?_
  intro W base args ds gs before hval0 hW hcnd _
  have hval : ∀ (j : Nat) t v, Try.f11.params[j]? = some t → args[j]? = some v → Value.okWide Try.prog W .any base t v := hval0
  have hW' := hW
  obtain ⟨p, q, hA0, hV, rfl, hfz, hnd⟩ := hW
  have hA : DataW.TrodAll enc Try.prog W 0 (fun _ => true) true Try.f11.params.toList args.toList ds p := hA0
  rw [Try.params11] at hA hval
  obtain ⟨v0, vs0, d0, ds0, p0, q0, hargs, rfl, rfl, h0, r0⟩ := trodAll_cons hA
  obtain ⟨rfl, rfl, rfl⟩ := trodAll_nil r0
  obtain rfl : args = #[v0] := by cases args; simp_all
  obtain ⟨rfl, rfl⟩ := trodVars_none hV
  obtain ⟨ad0, len0, cap0, rfl⟩ := okWide_slice Try.underlying54 (hval 0 54 v0 rfl rfl)
  have k0 := h0
  have lt0 : ∀ x ∈ p0, x.block < W.heap.size := by obtain ⟨m, hm⟩ := k0; exact DataW.trod_lt m _ _ _ hm
  obtain ⟨fu0, tr0⟩ := h0
  obtain ⟨xs0, e0, hr0, hm0, hb0, _⟩ := trod_bytes Try.underlying54 Try.underlying5 (by kernel_rfl) tr0
  subst e0
  clear hA0 hval0
  refine (walk_FnCompiled W xs0 ad0 cap0 hm0 hr0 hb0).mono fun e W' ⟨he, bel⟩ => ?_
  subst he
  exact ⟨_, rfl, _, _, _, [], _, [], hW', trodAll_mk1 (shut_bool Try.underlying4 _), (trodAll_cons_mk (Below.trod laidOut (by kernel_rfl) (of_decide_eq_true (by kernel_rfl)) k0 bel lt0) trodAll_mk0), rfl, bel.frame _, fun h => by cases h⟩

theorem and_mk {a b : Bool} (h : a = true) (h' : b = true) : (a && b) = true := by rw [h, h']; rfl
set_option maxHeartbeats 100000000 in
theorem closed : joinedFacts Try.checked.prog 11 Try.f11 Rows.fnCompiledSpec Rows.fnCompiledRow = true := by
  show joinedFacts Try.prog 11 Try.f11 Rows.fnCompiledSpec Rows.fnCompiledRow = true
  unfold joinedFacts
  rw [show Try.f11.params.toList ++ Rows.fnCompiledSpec.plain.varTypes Try.prog = [54] from by kernel_rfl, show [54] ++ Try.f11.resultTypes.toList = [54, 4] from by kernel_rfl]
  repeat' (with_reducible refine and_mk ?_ ?_)
  all_goals first | with_reducible exact fact_enter | (rw [fact_lifts]; kernel_rfl) | (rw [fact_make]; kernel_rfl) | (as_aux_lemma => kernel_rfl)
theorem inst : Func.isInstance Try.checked.prog Try.f11 Rows.fnCompiledRow.origin Rows.fnCompiledRow.targs := of_decide_eq_true (by kernel_rfl)

theorem over : Rows.fnCompiledRow.holds Try.pinned (OpenSpec.ofChange Rows.fnCompiledSpec) :=
  OpenClaim.holds_of_wide 11 Try.f11 rfl rfl rfl rfl rfl rfl rfl ⟨rfl, rfl, rfl, rfl, rfl⟩ rfl rfl rfl rfl rfl (by kernel_rfl) Try.func11 closed
    inst (by unfold Func.isWrapper; first | (rw [if_pos (by decide +kernel)]; kernel_rfl) | (rw [if_neg (by decide +kernel)]; exact ⟨rfl, rfl⟩))
    (fun os started H enc _ => lifted os started H enc)

theorem proved : Rows.FnCompiledSaid := over
#print axioms proved
end Go.Proofs.Ytfcijloiebnloaa.fnCompiled
