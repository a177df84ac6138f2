/- The law FnSources: for every input the call returns true, and each argument reads afterwards as it read before. The package-level variables that the row lists hold what the program lays in them (the card ties that). -/
import Derived.Test.YtigefmobejclaaaDoorLawSources
import Derived.Test.YtigefmobejclaaaDoorFacts
import Derived.Test.YtigefmobejclaaaDoorLaid
import Derived.Test.YtigefmobejclaaaDoorTie
import Derived.Test.YtigefmobejclaaaDoorCards
import Derived.Test.YtigefmobejclaaaDoorOpen
import Derived.Below
import Derived.ChangeOld
import Derived.OpenShut
import Derived.ProofKit
import Derived.ShutString
import Derived.WalkKit
import Derived.OpenVars
import Derived.ChangeVars
import Derived.Lay
import Derived.MakeChecks
import Derived.SevenTiedAt
namespace Go.Proofs.YtigefmobejclaaaDoor.fnSources
open Go.ChangeShapes Go.WideShapes Go.RowKit
open Go.ChangeMaps (open_string shut_string)
set_option linter.unusedVariables false

theorem own : ownKnob Tryd.prog.godebug = none := by kernel_rfl
theorem laidOut : laidOutB Tryd.prog = true := by kernel_rfl

set_option maxRecDepth 100000 in
theorem lifted (os : Os) (started : os.Started) (H : Type) (enc : TypeId × Value → H) :
    ReturnsInHanded {} Tryd.checked os 7 .any (fun w args => (Rows.fnSourcesSpec.pre enc Tryd.prog Tryd.f7 Rows.fnSourcesRow.domain false w args ∧ laidMetH Tryd.prog Rows.fnSourcesRow.laid w) ∧ sizedMet enc Tryd.prog Tryd.f7 (OpenSpec.ofChange Rows.fnSourcesSpec) false w args) (Rows.fnSourcesSpec.post enc Tryd.prog Tryd.f7 false true false false) := by
  refine returnsS (C := Tryd.checked) (X := fun w _ => laidMetH Tryd.prog Rows.fnSourcesRow.laid w) (fun _ _ _ hh h => h.of_heap hh) own started (by kernel_rfl) Tryd.func7
    (ChangeSpec.witness_shaped (enc := enc) (C := Tryd.checked) (os := os) (X := fun w _ => laidMetH Tryd.prog Rows.fnSourcesRow.laid w) false (World.laidAll Tryd.prog os Rows.fnSourcesRow.laid) #[.slice none 0 0] 8 (World.laidAll_os _ _ _)
      (World.shaped_of_ZipB (by kernel_rfl) (by kernel_rfl)) (by kernel_rfl) (by kernel_rfl) (by kernel_rfl)
      (by rw [MakeChecks.laidMetH_plain _ _ _ (by kernel_rfl)]; exact laidMet_laidAll _ (by kernel_rfl) (by kernel_rfl))) ?_
  intro W base args ds gs before hval0 hW hL hS
  have hval : ∀ (j : Nat) t v, Tryd.f7.params[j]? = some t → args[j]? = some v → Value.okWide Tryd.prog W .any base t v := hval0
  have hW' := hW
  obtain ⟨p, q, hA0, hV, rfl, hfz, hnd⟩ := hW
  have hA : DataW.TrodAll enc Tryd.prog W 0 (fun _ => true) true Tryd.f7.params.toList args.toList ds p := hA0
  rw [Tryd.params7] at hA hval
  obtain ⟨v0, vs0, d0, ds0, p0, q0, hargs, rfl, rfl, h0, r0⟩ := trodAll_cons hA
  obtain ⟨rfl, rfl, rfl⟩ := trodAll_nil r0
  obtain rfl : args = #[v0] := by cases args; simp_all
  have hV0 := hV
  obtain ⟨gg, tt, ccs, ff, dd, pp, rfl, _, _, _, _, _⟩ := trodVars_one hV0
  obtain ⟨ad0, len0, cap0, rfl⟩ := okWide_slice Tryd.underlying43 (hval 0 43 v0 rfl rfl)
  have k0 := h0
  have lt0 : ∀ x ∈ p0, x.block < W.heap.size := by obtain ⟨m, hm⟩ := k0; exact DataW.trod_lt m _ _ _ hm
  obtain ⟨fu0, tr0⟩ := h0
  obtain ⟨xs0, e0, hr0, hm0, hb0, _⟩ := trod_bytes Tryd.underlying43 Tryd.underlying5 (by kernel_rfl) tr0
  subst e0
  clear hA0 hval0
  refine (walk_FnSources W xs0 ad0 cap0 hm0 hr0 hb0 (laid_row (show laidMetH Tryd.prog Rows.fnExactParseStmtRow.laid W from hL) hS)).mono fun e W' ⟨he, bel⟩ => ?_
  subst he
  exact ⟨_, rfl, _, _, _, [], _, _, hW', trodAll_mk1 (shut_bool Tryd.underlying4 _), (trodAll_cons_mk (Below.trod laidOut (by kernel_rfl) (of_decide_eq_true (by kernel_rfl)) k0 bel lt0) trodAll_mk0), bel.trodVars laidOut (by kernel_rfl) hV, bel.frame _, fun h => by cases h⟩

theorem and_mk {a b : Bool} (h : a = true) (h' : b = true) : (a && b) = true := by rw [h, h']; rfl
set_option maxHeartbeats 100000000 in
theorem closed : joinedFacts Tryd.checked.prog 7 Tryd.f7 Rows.fnSourcesSpec Rows.fnSourcesRow = true := by
  show joinedFacts Tryd.prog 7 Tryd.f7 Rows.fnSourcesSpec Rows.fnSourcesRow = true
  unfold joinedFacts
  rw [show Tryd.f7.params.toList ++ Rows.fnSourcesSpec.plain.varTypes Tryd.prog = [43, 50] from by kernel_rfl, show [43, 50] ++ Tryd.f7.resultTypes.toList = [43, 50, 4] from by kernel_rfl]
  repeat' (with_reducible refine and_mk ?_ ?_)
  all_goals first | with_reducible exact fact_enter | (rw [fact_lifts]; kernel_rfl) | (rw [fact_make]; kernel_rfl) | (as_aux_lemma => kernel_rfl)
theorem inst : Func.isInstance Tryd.checked.prog Tryd.f7 Rows.fnSourcesRow.origin Rows.fnSourcesRow.targs := of_decide_eq_true (by kernel_rfl)

theorem over : Rows.fnSourcesRow.holds Tryd.pinned (OpenSpec.ofChange Rows.fnSourcesSpec) :=
  OpenClaim.holds_of_wide 7 Tryd.f7 rfl rfl rfl rfl rfl rfl rfl ⟨rfl, rfl, rfl, rfl, rfl⟩ rfl rfl rfl rfl rfl (by kernel_rfl) Tryd.func7 closed
    inst (by unfold Func.isWrapper; first | (rw [if_pos (by decide +kernel)]; kernel_rfl) | (rw [if_neg (by decide +kernel)]; exact ⟨rfl, rfl⟩))
    (fun os started H enc _ => lifted os started H enc)

theorem proved : Rows.FnSourcesCardSaid :=
  Claim7.holds_tied_plain_at .later [] [.data, .data, .data, .data, .sentinel, .sentinel, .data, .pinned] true (true, "92fe8ebbc3b4b9b7c9ddcb93d45e86ff84d709edf887df51962e22d1dcf875f5") true
    over (fun _ h => by cases h) (by kernel_rfl) (fun _ h => by cases h) fnSources_row_tie rfl ⟨rfl, rfl⟩ (by kernel_rfl) rfl
    (fun f fn hf hfn => by
      obtain rfl : f = 7 := Option.some.inj ((show Tryd.prog.funcNamed "loop.example/g00979/laws.FnSources" = some 7 by kernel_rfl).symm.trans hf) |>.symm
      obtain rfl : fn = Tryd.f7 := (Option.some.inj (Tryd.func7.symm.trans hfn)).symm
      exact ⟨by kernel_rfl, fun j t ht => by
        rw [Tryd.params7] at ht
        have hm : t ∈ [43] := by simpa using Array.mem_of_getElem? ht
        have hall : ([43].all fun u => !Tryd.prog.wantsStandIn u) = true := by kernel_rfl
        exact (show Tryd.prog.wantsStandIn t = false by simpa using List.all_eq_true.1 hall t hm)⟩)
    (by kernel_rfl)
#print axioms proved
end Go.Proofs.YtigefmobejclaaaDoor.fnSources
