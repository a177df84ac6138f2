/- Words, the reference. -/
import Derived.Test.YtfcijloiebnloaaWb
import Derived.Test.YtfcijloiebnloaaBldA
import Derived.Test.YtfcijloiebnloaaBldB
import Derived.Test.YtfcijloiebnloaaBldC
import Derived.Test.YtfcijloiebnloaaAsk
import Derived.StillTailTactics
import Derived.Deep.RegionHeld3
import Derived.Deep.RegionLaw
namespace Go.Proofs.Ytfcijloiebnloaa
open Go.RowKit
set_option linter.unusedVariables false
set_option linter.unusedSimpArgs false

theorem askB_len {gs : List Gt} {os xs ys : List Int} (h : askB gs os xs ys = true) : xs.length = 4 ∧ ys.length = 4 ∧ gs.length ≤ 5900 := by
  simp [askB, roomB, wordB] at h
  omega
theorem notsP_len (b : List Int) (gs : List Gt) : (notsP b gs).1.length ≤ gs.length + 4 ∧ (notsP b gs).2.length = 4 := by
  have h1 := rnds_le (f := fun h k => put1 h ⟨5, at0 b k, 0⟩) (m := 1) (by intro h k; simp [put1]) gs 4
  have h2 := rnds_len (fun h k => put1 h ⟨5, at0 b k, 0⟩) gs 4
  exact ⟨by simpa [notsP] using h1, by simpa [notsP] using h2⟩
theorem own_nil (w : World) (lo e size : Nat) : Own w lo e size none 0 0 [] := ⟨by simp, .inl ⟨rfl, rfl⟩⟩

end Go.Proofs.Ytfcijloiebnloaa
