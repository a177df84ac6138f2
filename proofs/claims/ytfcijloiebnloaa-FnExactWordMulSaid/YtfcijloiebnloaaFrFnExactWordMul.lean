/- The law FnExactWordMul: for every input the call returns true, and each argument reads afterwards as it read before. No condition. -/
import Derived.Test.YtfcijloiebnloaaLawExactWordMul
import Derived.Test.YtfcijloiebnloaaFacts
import Derived.Test.YtfcijloiebnloaaOpen
import Derived.Below
import Derived.ChangeOld
import Derived.Lib.SmallJoins
import Derived.OpenShut
import Derived.ProofKit
import Derived.ShutString
import Derived.WalkKit
namespace Go.Proofs.Ytfcijloiebnloaa.fnExactWordMul
open Go.ChangeShapes Go.WideShapes Go.ChangeAt Go.RowKit
open Go.ChangeMaps (open_string shut_string)
set_option linter.unusedVariables false

theorem own : ownKnob Try.prog.godebug = none := by kernel_rfl
theorem laidOut : laidOutB Try.prog = true := by kernel_rfl

set_option maxRecDepth 100000 in
theorem lifted (os : Os) (started : os.Started) (H : Type) (enc : TypeId × Value → H) :
    ReturnsInHanded {} Try.checked os 9 .any (Rows.fnExactWordMulSpec.pre6 enc Try.prog Try.f9 Rows.fnExactWordMulRow.domain false) (Rows.fnExactWordMulSpec.post enc Try.prog Try.f9 false true false false) := by
  refine returnsInHanded_of_change (C := Try.checked) own started (by kernel_rfl) Try.func9
    (ChangeSpec.witness6 (enc := enc) (C := Try.checked) false ⟨#[], #[.agg #[.slice none 0 0, .slice none 0 0], .slice none 0 0, .slice none 0 0], []⟩ 8 (by kernel_rfl) (by kernel_rfl) (by kernel_rfl) (by kernel_rfl)) ?_
  intro W base args ds gs before hval0 hW hcnd _
  have hval : ∀ (j : Nat) t v, Try.f9.params[j]? = some t → args[j]? = some v → Value.okWide Try.prog W .any base t v := hval0
  have hW' := hW
  obtain ⟨p, q, hA0, hV, rfl, hfz, hnd⟩ := hW
  have hA : DataW.TrodAll enc Try.prog W 0 (fun _ => true) true Try.f9.params.toList args.toList ds p := hA0
  rw [Try.params9] at hA hval
  obtain ⟨v0, vs0, d0, ds0, p0, q0, hargs, rfl, rfl, h0, r0⟩ := trodAll_cons hA
  obtain ⟨v1, vs1, d1, ds1, p1, q1, rfl, rfl, rfl, h1, r1⟩ := trodAll_cons r0
  obtain ⟨v2, vs2, d2, ds2, p2, q2, rfl, rfl, rfl, h2, r2⟩ := trodAll_cons r1
  obtain ⟨rfl, rfl, rfl⟩ := trodAll_nil r2
  obtain rfl : args = #[v0, v1, v2] := by cases args; simp_all
  obtain ⟨rfl, rfl⟩ := trodVars_none hV
  have k0 := h0
  have lt0 : ∀ x ∈ p0, x.block < W.heap.size := by obtain ⟨m, hm⟩ := k0; exact DataW.trod_lt m _ _ _ hm
  obtain ⟨c00, c01, y00, y01, m0, rfl, _, _, g00, g01⟩ := Go.Joins.open_agg2 Try.underlying25 (by kernel_rfl) (show Try.prog.cellsOf 25 = 2 by kernel_rfl) (hval 0 25 v0 rfl rfl) h0
  obtain ⟨ad00, len00, cap00, rfl⟩ := trod_is_slice Try.underlying22 g00
  obtain ⟨ns00, e00, hr00, hm00, _⟩ := trod_structs Try.underlying22 Try.underlying114 (by kernel_rfl) (by decide) (fun i f h => match i, h with | 0, h => (by obtain rfl : _ = f := Option.some.inj h; exact ⟨rfl, Try.underlying3, by kernel_rfl⟩) | 1, h => (by obtain rfl : _ = f := Option.some.inj h; exact ⟨rfl, Try.underlying3, by kernel_rfl⟩) | 2, h => (by obtain rfl : _ = f := Option.some.inj h; exact ⟨rfl, Try.underlying3, by kernel_rfl⟩) | (j + 3), h => absurd (Array.getElem?_eq_some_iff.1 h).1 (by simp)) g00
  obtain ⟨ad01, len01, cap01, rfl⟩ := trod_is_slice Try.underlying23 g01
  obtain ⟨xs01, e01, hr01, hm01, _⟩ := trod_ints Try.underlying23 Try.underlying3 (by kernel_rfl) g01
  subst e01
  obtain ⟨ad1, len1, cap1, rfl⟩ := okWide_slice Try.underlying23 (hval 1 23 v1 rfl rfl)
  have k1 := h1
  have lt1 : ∀ x ∈ p1, x.block < W.heap.size := by obtain ⟨m, hm⟩ := k1; exact DataW.trod_lt m _ _ _ hm
  obtain ⟨fu1, tr1⟩ := h1
  obtain ⟨xs1, e1, hr1, hm1, _⟩ := trod_ints Try.underlying23 Try.underlying3 (by kernel_rfl) tr1
  subst e1
  obtain ⟨ad2, len2, cap2, rfl⟩ := okWide_slice Try.underlying23 (hval 2 23 v2 rfl rfl)
  have k2 := h2
  have lt2 : ∀ x ∈ p2, x.block < W.heap.size := by obtain ⟨m, hm⟩ := k2; exact DataW.trod_lt m _ _ _ hm
  obtain ⟨fu2, tr2⟩ := h2
  obtain ⟨xs2, e2, hr2, hm2, _⟩ := trod_ints Try.underlying23 Try.underlying3 (by kernel_rfl) tr2
  subst e2
  clear hA0 hval0
  refine (walk_FnExactWordMul W ns00 len00 ad00 cap00 e00 hm00 hr00 xs01 ad01 cap01 hm01 hr01 xs1 ad1 cap1 hm1 hr1 xs2 ad2 cap2 hm2 hr2).mono fun e W' ⟨he, bel⟩ => ?_
  subst he
  exact ⟨_, rfl, _, _, _, [], _, [], hW', trodAll_mk1 (shut_bool Try.underlying4 _), (trodAll_cons_mk (Below.trod laidOut (by kernel_rfl) (of_decide_eq_true (by kernel_rfl)) k0 bel lt0) (trodAll_cons_mk (Below.trod laidOut (by kernel_rfl) (of_decide_eq_true (by kernel_rfl)) k1 bel lt1) (trodAll_cons_mk (Below.trod laidOut (by kernel_rfl) (of_decide_eq_true (by kernel_rfl)) k2 bel lt2) trodAll_mk0))), rfl, bel.frame _, fun h => by cases h⟩

theorem and_mk {a b : Bool} (h : a = true) (h' : b = true) : (a && b) = true := by rw [h, h']; rfl
set_option maxHeartbeats 100000000 in
theorem closed : joinedFacts Try.checked.prog 9 Try.f9 Rows.fnExactWordMulSpec Rows.fnExactWordMulRow = true := by
  show joinedFacts Try.prog 9 Try.f9 Rows.fnExactWordMulSpec Rows.fnExactWordMulRow = true
  unfold joinedFacts
  rw [show Try.f9.params.toList ++ Rows.fnExactWordMulSpec.plain.varTypes Try.prog = [25, 23, 23] from by kernel_rfl, show [25, 23, 23] ++ Try.f9.resultTypes.toList = [25, 23, 23, 4] from by kernel_rfl]
  repeat' (with_reducible refine and_mk ?_ ?_)
  all_goals first | with_reducible exact fact_enter | (rw [fact_lifts]; kernel_rfl) | (rw [fact_make]; kernel_rfl) | (as_aux_lemma => kernel_rfl)
theorem inst : Func.isInstance Try.checked.prog Try.f9 Rows.fnExactWordMulRow.origin Rows.fnExactWordMulRow.targs := of_decide_eq_true (by kernel_rfl)

theorem over : Rows.fnExactWordMulRow.holds Try.pinned (OpenSpec.ofChange Rows.fnExactWordMulSpec) :=
  OpenClaim.holds_of_wide 9 Try.f9 rfl rfl rfl rfl rfl rfl rfl ⟨rfl, rfl, rfl, rfl, rfl⟩ rfl rfl rfl rfl rfl (by kernel_rfl) Try.func9 closed
    inst (by unfold Func.isWrapper; first | (rw [if_pos (by decide +kernel)]; kernel_rfl) | (rw [if_neg (by decide +kernel)]; exact ⟨rfl, rfl⟩))
    (fun os started H enc _ => lifted os started H enc)

theorem proved : Rows.FnExactWordMulSaid := over
#print axioms proved
end Go.Proofs.Ytfcijloiebnloaa.fnExactWordMul
