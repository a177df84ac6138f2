/- Simplify: what both need. -/
import Derived.Test.YtfpblgbokmpmjaaSimpS
import Derived.Test.YtfpblgbokmpmjaaPruneD
import Derived.Test.YtfpblgbokmpmjaaPruneL
import Derived.Deep.RegionHeld3
import Derived.Deep.RegionLaw
namespace Go.Proofs.Ytfpblgbokmpmjaa
open Go.RowKit
set_option linter.unusedVariables false
set_option linter.unusedSimpArgs false

theorem lo_keeps {lo : Nat} {W w' : World} (h : Below lo W w') {b o : Nat} {v : Value} (hb : b < lo) (hc : W.cell? ⟨b, o, none⟩ = some v) : w'.cell? ⟨b, o, none⟩ = some v := (h.cell (p := ⟨b, o, none⟩) hb).trans hc
theorem lo_free {lo : Nat} {W w' : World} (h : Below lo W w') {b o : Nat} (hb : b < lo) (hc : W.frozen? ⟨b, o, none⟩ = false) : w'.frozen? ⟨b, o, none⟩ = false := (h.frozen (p := ⟨b, o, none⟩) hb).trans hc
theorem Fr.dr {w : World} {lo bx : Nat} {gs : List Gt} {v : Value} (h : Bld w lo bx gs v) : Fr bx w w.drew := Fr.below h ((Below.refl _ _).drew)
theorem Bld.dr {w : World} {lo bx : Nat} {gs : List Gt} {v : Value} (h : Bld w lo bx gs v) : Bld w.drew lo bx gs v := h.below ((Below.refl _ _).drew)
/-- A row of others has grown. -/
theorem Bld.push_to {w w' : World} {lo bx : Nat} {gs : List Gt} {v : Value} (h : Bld w lo bx gs v) {gt g : Nat} (hf : Frn w bx gt) (o : Obj) (hg : (w.alloc o).grownBy w' (some gt)) (hat : g = gt ∨ g = (w.alloc o).heap.size) (hlt : g < w'.heap.size) :
    Bld w' lo bx gs v ∧ Frn w' bx g ∧ ∀ b, Frn w bx b → b ≠ gt → Kp b w w' ∧ Frn w' bx b := by
  have h' := h.al o
  have hF := Fr.al h o
  have hr : ∀ q, some gt = some q → Frn (w.alloc o) bx q := fun q e => by obtain rfl := Option.some.inj e; exact (hF _ hf).2
  refine ⟨h'.grown hg hr, ?_, fun b hb hne => ⟨((Kp.refl _ _).alloc o).grown hg (fun e => hne (Option.some.inj e).symm), frn_grown h' hg hr (hF _ hb).2⟩⟩
  rcases hat with rfl | e
  · exact frn_grown h' hg hr (hF _ hf).2
  · exact frn_grown_new h' hg hr (by omega) hlt
/-- A new list of others. -/
theorem Bld.new_list {w : World} {lo bx : Nat} {gs : List Gt} {v : Value} (h : Bld w lo bx gs v) (o : Obj) : Frn (w.alloc o) bx w.heap.size :=
  frn_new h (fun b hb => Below.heap_alloc _ _ _ (h.mine hb)) (Nat.le_refl _) (by simp)
def smG (gs : List Gt) (os : List Int) : List Gt := if circOk gs os then simpG gs else gs
def smO (gs : List Gt) (os : List Int) : List Int := if circOk gs os then simpO gs os else os
theorem simp_round {gs : List Gt} {os : List Int} {k : Nat} {g : Gt} {G : List Gt} {T : List Int} (h : circOk gs os = true) (hx : gs[k]? = some g) (hS : simpT (gs.take k) = (G, T)) :
    gtsOk 0 G = true ∧ G.Nodup ∧ T.length = k ∧ G.length ≤ k ∧ (∀ n : Nat, n < k → 0 ≤ at0 T n ∧ at0 T n < G.length) ∧ simpT (gs.take (k + 1)) = ((simpS G T g).1, T ++ [(simpS G T g).2]) := by
  have hk : k < gs.length := (List.getElem?_eq_some_iff.1 hx).1
  have I := simpT_inv (gs.take k) (gtsOk_take (circ_parts h).1 k)
  have e := simpT_snoc hx
  rw [hS] at I e
  have hl : (gs.take k).length = k := by rw [List.length_take]; omega
  refine ⟨I.ok, I.nd, by have := I.len; rw [hl] at this; exact this, by have := I.le; rw [hl] at this; exact this, fun n hn => I.to n (by omega) (by rw [hl]; omega), e⟩
theorem simpS_3 (G : List Gt) (T : List Int) (a b : Int) : simpS G T ⟨3, a, b⟩ = gXor G (at0 T a) (at0 T b) := rfl
theorem simpS_4 (G : List Gt) (T : List Int) (a b : Int) : simpS G T ⟨4, a, b⟩ = gAnd G (at0 T a) (at0 T b) := rfl
theorem simpS_5 (G : List Gt) (T : List Int) (a b : Int) : simpS G T ⟨5, a, b⟩ = gNot G (at0 T a) := rfl
theorem simpS_1 (G : List Gt) (T : List Int) (a b : Int) : simpS G T ⟨1, a, b⟩ = gGate G ⟨1, a, b⟩ := rfl
theorem simpS_2 (G : List Gt) (T : List Int) (a b : Int) : simpS G T ⟨2, a, b⟩ = gGate G ⟨2, a, b⟩ := rfl

end Go.Proofs.Ytfpblgbokmpmjaa
