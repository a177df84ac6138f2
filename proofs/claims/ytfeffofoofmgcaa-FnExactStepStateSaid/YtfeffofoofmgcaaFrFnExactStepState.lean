/- The law FnExactStepState: for every input the call returns true, and each argument reads afterwards as it read before. No condition. -/
import Derived.Test.YtfeffofoofmgcaaLawStepState
import Derived.Test.YtfeffofoofmgcaaFacts
import Derived.Test.YtfeffofoofmgcaaOpen
import Derived.Test.YtfeffofoofmgcaaOpenSix
import Derived.Below
import Derived.ChangeOld
import Derived.Lib.SmallJoins
import Derived.OpenShut
import Derived.ProofKit
import Derived.ShutString
import Derived.WalkKit
namespace Go.Proofs.Ytfeffofoofmgcaa.fnExactStepState
open Go.ChangeShapes Go.WideShapes Go.ChangeAt Go.RowKit
open Go.ChangeMaps (open_string shut_string)
set_option linter.unusedVariables false

theorem own : ownKnob Try.prog.godebug = none := by kernel_rfl
theorem laidOut : laidOutB Try.prog = true := by kernel_rfl

set_option maxRecDepth 100000 in
theorem lifted (os : Os) (started : os.Started) (H : Type) (enc : TypeId × Value → H) :
    ReturnsInHanded {} Try.checked os 11 .any (Rows.fnExactStepStateSpec.pre6 enc Try.prog Try.f11 Rows.fnExactStepStateRow.domain false) (Rows.fnExactStepStateSpec.post enc Try.prog Try.f11 false true false false) := by
  refine returnsInHanded_of_change (C := Try.checked) own started (by kernel_rfl) Try.func11
    (ChangeSpec.witness6 (enc := enc) (C := Try.checked) false ⟨#[], #[.agg #[.slice none 0 0, .slice none 0 0], .agg #[.int .i64 0, .int .i64 0, .int .i64 0, .int .i64 0, .int .i64 0, .int .i64 0], .slice none 0 0], []⟩ 8 (by kernel_rfl) (by kernel_rfl) (by kernel_rfl) (by kernel_rfl)) ?_
  intro W base args ds gs before hval0 hW hcnd _
  have hval : ∀ (j : Nat) t v, Try.f11.params[j]? = some t → args[j]? = some v → Value.okWide Try.prog W .any base t v := hval0
  have hW' := hW
  obtain ⟨p, q, hA0, hV, rfl, hfz, hnd⟩ := hW
  have hA : DataW.TrodAll enc Try.prog W 0 (fun _ => true) true Try.f11.params.toList args.toList ds p := hA0
  rw [Try.params11] at hA hval
  obtain ⟨v0, vs0, d0, ds0, p0, q0, hargs, rfl, rfl, h0, r0⟩ := trodAll_cons hA
  obtain ⟨v1, vs1, d1, ds1, p1, q1, rfl, rfl, rfl, h1, r1⟩ := trodAll_cons r0
  obtain ⟨v2, vs2, d2, ds2, p2, q2, rfl, rfl, rfl, h2, r2⟩ := trodAll_cons r1
  obtain ⟨rfl, rfl, rfl⟩ := trodAll_nil r2
  obtain rfl : args = #[v0, v1, v2] := by cases args; simp_all
  obtain ⟨rfl, rfl⟩ := trodVars_none hV
  have k0 := h0
  have lt0 : ∀ x ∈ p0, x.block < W.heap.size := by obtain ⟨m, hm⟩ := k0; exact DataW.trod_lt m _ _ _ hm
  obtain ⟨c00, c01, y00, y01, m0, rfl, _, _, g00, g01⟩ := Go.Joins.open_agg2 Try.underlying53 (by kernel_rfl) (show Try.prog.cellsOf 53 = 2 by kernel_rfl) (hval 0 53 v0 rfl rfl) h0
  obtain ⟨ad00, len00, cap00, rfl⟩ := trod_is_slice Try.underlying29 g00
  obtain ⟨xs00, e00, hr00, hm00, _⟩ := trod_ints Try.underlying29 Try.underlying3 (by kernel_rfl) g00
  subst e00
  obtain ⟨ad01, len01, cap01, rfl⟩ := trod_is_slice Try.underlying29 g01
  obtain ⟨xs01, e01, hr01, hm01, _⟩ := trod_ints Try.underlying29 Try.underlying3 (by kernel_rfl) g01
  subst e01
  have k1 := h1
  have lt1 : ∀ x ∈ p1, x.block < W.heap.size := by obtain ⟨m, hm⟩ := k1; exact DataW.trod_lt m _ _ _ hm
  obtain ⟨a10, a11, a12, a13, a14, a15, rfl⟩ := open_six Try.underlying33 rfl (show Try.prog.cellsOf 33 = 6 by kernel_rfl) (fun i f h => match i, h with | 0, h => (by obtain rfl : _ = f := Option.some.inj h; exact ⟨rfl, Try.underlying3, by kernel_rfl⟩) | 1, h => (by obtain rfl : _ = f := Option.some.inj h; exact ⟨rfl, Try.underlying3, by kernel_rfl⟩) | 2, h => (by obtain rfl : _ = f := Option.some.inj h; exact ⟨rfl, Try.underlying3, by kernel_rfl⟩) | 3, h => (by obtain rfl : _ = f := Option.some.inj h; exact ⟨rfl, Try.underlying3, by kernel_rfl⟩) | 4, h => (by obtain rfl : _ = f := Option.some.inj h; exact ⟨rfl, Try.underlying3, by kernel_rfl⟩) | 5, h => (by obtain rfl : _ = f := Option.some.inj h; exact ⟨rfl, Try.underlying3, by kernel_rfl⟩) | (j + 6), h => absurd (Array.getElem?_eq_some_iff.1 h).1 (by simp)) (hval 1 33 v1 rfl rfl) h1
  obtain ⟨ad2, len2, cap2, rfl⟩ := okWide_slice Try.underlying54 (hval 2 54 v2 rfl rfl)
  have k2 := h2
  have lt2 : ∀ x ∈ p2, x.block < W.heap.size := by obtain ⟨m, hm⟩ := k2; exact DataW.trod_lt m _ _ _ hm
  obtain ⟨fu2, tr2⟩ := h2
  obtain ⟨rs2, e2, hr2, hrs2, hm2, _⟩ := trod_rows Try.underlying54 Try.underlying29 (by kernel_rfl) Try.underlying3 (by kernel_rfl) tr2
  subst e2
  clear hA0 hval0
  refine (walk_FnExactStepState W xs00 ad00 cap00 hm00 hr00 xs01 ad01 cap01 hm01 hr01 a10 a11 a12 a13 a14 a15 rs2 ad2 cap2 hm2 hr2 hrs2).mono fun e W' ⟨he, bel⟩ => ?_
  subst he
  exact ⟨_, rfl, _, _, _, [], _, [], hW', trodAll_mk1 (shut_bool Try.underlying4 _), (trodAll_cons_mk (Below.trod laidOut (by kernel_rfl) (of_decide_eq_true (by kernel_rfl)) k0 bel lt0) (trodAll_cons_mk (Below.trod laidOut (by kernel_rfl) (of_decide_eq_true (by kernel_rfl)) k1 bel lt1) (trodAll_cons_mk (Below.trod laidOut (by kernel_rfl) (of_decide_eq_true (by kernel_rfl)) k2 bel lt2) trodAll_mk0))), rfl, bel.frame _, fun h => by cases h⟩

theorem and_mk {a b : Bool} (h : a = true) (h' : b = true) : (a && b) = true := by rw [h, h']; rfl
set_option maxHeartbeats 100000000 in
theorem closed : joinedFacts Try.checked.prog 11 Try.f11 Rows.fnExactStepStateSpec Rows.fnExactStepStateRow = true := by
  show joinedFacts Try.prog 11 Try.f11 Rows.fnExactStepStateSpec Rows.fnExactStepStateRow = true
  unfold joinedFacts
  rw [show Try.f11.params.toList ++ Rows.fnExactStepStateSpec.plain.varTypes Try.prog = [53, 33, 54] from by kernel_rfl, show [53, 33, 54] ++ Try.f11.resultTypes.toList = [53, 33, 54, 4] from by kernel_rfl]
  repeat' (with_reducible refine and_mk ?_ ?_)
  all_goals first | with_reducible exact fact_enter | (rw [fact_lifts]; kernel_rfl) | (rw [fact_make]; kernel_rfl) | (as_aux_lemma => kernel_rfl)
theorem inst : Func.isInstance Try.checked.prog Try.f11 Rows.fnExactStepStateRow.origin Rows.fnExactStepStateRow.targs := of_decide_eq_true (by kernel_rfl)

theorem over : Rows.fnExactStepStateRow.holds Try.pinned (OpenSpec.ofChange Rows.fnExactStepStateSpec) :=
  OpenClaim.holds_of_wide 11 Try.f11 rfl rfl rfl rfl rfl rfl rfl ⟨rfl, rfl, rfl, rfl, rfl⟩ rfl rfl rfl rfl rfl (by kernel_rfl) Try.func11 closed
    inst (by unfold Func.isWrapper; first | (rw [if_pos (by decide +kernel)]; kernel_rfl) | (rw [if_neg (by decide +kernel)]; exact ⟨rfl, rfl⟩))
    (fun os started H enc _ => lifted os started H enc)

theorem proved : Rows.FnExactStepStateSaid := over
#print axioms proved
end Go.Proofs.Ytfeffofoofmgcaa.fnExactStepState
