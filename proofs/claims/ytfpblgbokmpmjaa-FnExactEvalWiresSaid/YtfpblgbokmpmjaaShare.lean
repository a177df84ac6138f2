/- One way out of a drawn region: what follows it is walked once. -/
import Derived.Test.YtfpblgbokmpmjaaHeap
import Derived.Deep.RegionHeld3
namespace Go.Proofs.Ytfpblgbokmpmjaa
open Go.RowKit

theorem wp_share1 {P : Program} {c : Code} {Q : Exit → Act → World → Prop} {a : Act} {w : World} (F : World → Nat → Prop) (f : World → Nat → Act)
    (h1 : c.wp P (fun e a' w' => e = .normal ∧ ∃ x0, F w' x0 ∧ a' = f w' x0) a w) (h2 : ∀ W x0, F W x0 → Q .normal (f W x0) W) : c.wp P Q a w :=
  Code.wp_mono (fun e a' w' ⟨he, x0, hF, ha⟩ => by subst he; subst ha; exact h2 w' x0 hF) h1
theorem wp_share2 {P : Program} {c : Code} {Q : Exit → Act → World → Prop} {a : Act} {w : World} (F : World → Nat → Nat → Prop) (f : World → Nat → Nat → Act)
    (h1 : c.wp P (fun e a' w' => e = .normal ∧ ∃ x0 x1, F w' x0 x1 ∧ a' = f w' x0 x1) a w) (h2 : ∀ W x0 x1, F W x0 x1 → Q .normal (f W x0 x1) W) : c.wp P Q a w :=
  Code.wp_mono (fun e a' w' ⟨he, x0, x1, hF, ha⟩ => by subst he; subst ha; exact h2 w' x0 x1 hF) h1
theorem wp_share3 {P : Program} {c : Code} {Q : Exit → Act → World → Prop} {a : Act} {w : World} (F : World → Nat → Nat → Nat → Prop) (f : World → Nat → Nat → Nat → Act)
    (h1 : c.wp P (fun e a' w' => e = .normal ∧ ∃ x0 x1 x2, F w' x0 x1 x2 ∧ a' = f w' x0 x1 x2) a w) (h2 : ∀ W x0 x1 x2, F W x0 x1 x2 → Q .normal (f W x0 x1 x2) W) : c.wp P Q a w :=
  Code.wp_mono (fun e a' w' ⟨he, x0, x1, x2, hF, ha⟩ => by subst he; subst ha; exact h2 w' x0 x1 x2 hF) h1
theorem wp_share4 {P : Program} {c : Code} {Q : Exit → Act → World → Prop} {a : Act} {w : World} (F : World → Nat → Nat → Nat → Nat → Prop) (f : World → Nat → Nat → Nat → Nat → Act)
    (h1 : c.wp P (fun e a' w' => e = .normal ∧ ∃ x0 x1 x2 x3, F w' x0 x1 x2 x3 ∧ a' = f w' x0 x1 x2 x3) a w) (h2 : ∀ W x0 x1 x2 x3, F W x0 x1 x2 x3 → Q .normal (f W x0 x1 x2 x3) W) : c.wp P Q a w :=
  Code.wp_mono (fun e a' w' ⟨he, x0, x1, x2, x3, hF, ha⟩ => by subst he; subst ha; exact h2 w' x0 x1 x2 x3 hF) h1
theorem wp_share5 {P : Program} {c : Code} {Q : Exit → Act → World → Prop} {a : Act} {w : World} (F : World → Nat → Nat → Nat → Nat → Nat → Prop) (f : World → Nat → Nat → Nat → Nat → Nat → Act)
    (h1 : c.wp P (fun e a' w' => e = .normal ∧ ∃ x0 x1 x2 x3 x4, F w' x0 x1 x2 x3 x4 ∧ a' = f w' x0 x1 x2 x3 x4) a w) (h2 : ∀ W x0 x1 x2 x3 x4, F W x0 x1 x2 x3 x4 → Q .normal (f W x0 x1 x2 x3 x4) W) : c.wp P Q a w :=
  Code.wp_mono (fun e a' w' ⟨he, x0, x1, x2, x3, x4, hF, ha⟩ => by subst he; subst ha; exact h2 w' x0 x1 x2 x3 x4 hF) h1
theorem wp_share6 {P : Program} {c : Code} {Q : Exit → Act → World → Prop} {a : Act} {w : World} (F : World → Nat → Nat → Nat → Nat → Nat → Nat → Prop) (f : World → Nat → Nat → Nat → Nat → Nat → Nat → Act)
    (h1 : c.wp P (fun e a' w' => e = .normal ∧ ∃ x0 x1 x2 x3 x4 x5, F w' x0 x1 x2 x3 x4 x5 ∧ a' = f w' x0 x1 x2 x3 x4 x5) a w) (h2 : ∀ W x0 x1 x2 x3 x4 x5, F W x0 x1 x2 x3 x4 x5 → Q .normal (f W x0 x1 x2 x3 x4 x5) W) : c.wp P Q a w :=
  Code.wp_mono (fun e a' w' ⟨he, x0, x1, x2, x3, x4, x5, hF, ha⟩ => by subst he; subst ha; exact h2 w' x0 x1 x2 x3 x4 x5 hF) h1
theorem wp_share7 {P : Program} {c : Code} {Q : Exit → Act → World → Prop} {a : Act} {w : World} (F : World → Nat → Nat → Nat → Nat → Nat → Nat → Nat → Prop) (f : World → Nat → Nat → Nat → Nat → Nat → Nat → Nat → Act)
    (h1 : c.wp P (fun e a' w' => e = .normal ∧ ∃ x0 x1 x2 x3 x4 x5 x6, F w' x0 x1 x2 x3 x4 x5 x6 ∧ a' = f w' x0 x1 x2 x3 x4 x5 x6) a w) (h2 : ∀ W x0 x1 x2 x3 x4 x5 x6, F W x0 x1 x2 x3 x4 x5 x6 → Q .normal (f W x0 x1 x2 x3 x4 x5 x6) W) : c.wp P Q a w :=
  Code.wp_mono (fun e a' w' ⟨he, x0, x1, x2, x3, x4, x5, x6, hF, ha⟩ => by subst he; subst ha; exact h2 w' x0 x1 x2 x3 x4 x5 x6 hF) h1
theorem wp_share8 {P : Program} {c : Code} {Q : Exit → Act → World → Prop} {a : Act} {w : World} (F : World → Nat → Nat → Nat → Nat → Nat → Nat → Nat → Nat → Prop) (f : World → Nat → Nat → Nat → Nat → Nat → Nat → Nat → Nat → Act)
    (h1 : c.wp P (fun e a' w' => e = .normal ∧ ∃ x0 x1 x2 x3 x4 x5 x6 x7, F w' x0 x1 x2 x3 x4 x5 x6 x7 ∧ a' = f w' x0 x1 x2 x3 x4 x5 x6 x7) a w) (h2 : ∀ W x0 x1 x2 x3 x4 x5 x6 x7, F W x0 x1 x2 x3 x4 x5 x6 x7 → Q .normal (f W x0 x1 x2 x3 x4 x5 x6 x7) W) : c.wp P Q a w :=
  Code.wp_mono (fun e a' w' ⟨he, x0, x1, x2, x3, x4, x5, x6, x7, hF, ha⟩ => by subst he; subst ha; exact h2 w' x0 x1 x2 x3 x4 x5 x6 x7 hF) h1
theorem wp_share9 {P : Program} {c : Code} {Q : Exit → Act → World → Prop} {a : Act} {w : World} (F : World → Nat → Nat → Nat → Nat → Nat → Nat → Nat → Nat → Nat → Prop) (f : World → Nat → Nat → Nat → Nat → Nat → Nat → Nat → Nat → Nat → Act)
    (h1 : c.wp P (fun e a' w' => e = .normal ∧ ∃ x0 x1 x2 x3 x4 x5 x6 x7 x8, F w' x0 x1 x2 x3 x4 x5 x6 x7 x8 ∧ a' = f w' x0 x1 x2 x3 x4 x5 x6 x7 x8) a w) (h2 : ∀ W x0 x1 x2 x3 x4 x5 x6 x7 x8, F W x0 x1 x2 x3 x4 x5 x6 x7 x8 → Q .normal (f W x0 x1 x2 x3 x4 x5 x6 x7 x8) W) : c.wp P Q a w :=
  Code.wp_mono (fun e a' w' ⟨he, x0, x1, x2, x3, x4, x5, x6, x7, x8, hF, ha⟩ => by subst he; subst ha; exact h2 w' x0 x1 x2 x3 x4 x5 x6 x7 x8 hF) h1
theorem wp_share10 {P : Program} {c : Code} {Q : Exit → Act → World → Prop} {a : Act} {w : World} (F : World → Nat → Nat → Nat → Nat → Nat → Nat → Nat → Nat → Nat → Nat → Prop) (f : World → Nat → Nat → Nat → Nat → Nat → Nat → Nat → Nat → Nat → Nat → Act)
    (h1 : c.wp P (fun e a' w' => e = .normal ∧ ∃ x0 x1 x2 x3 x4 x5 x6 x7 x8 x9, F w' x0 x1 x2 x3 x4 x5 x6 x7 x8 x9 ∧ a' = f w' x0 x1 x2 x3 x4 x5 x6 x7 x8 x9) a w) (h2 : ∀ W x0 x1 x2 x3 x4 x5 x6 x7 x8 x9, F W x0 x1 x2 x3 x4 x5 x6 x7 x8 x9 → Q .normal (f W x0 x1 x2 x3 x4 x5 x6 x7 x8 x9) W) : c.wp P Q a w :=
  Code.wp_mono (fun e a' w' ⟨he, x0, x1, x2, x3, x4, x5, x6, x7, x8, x9, hF, ha⟩ => by subst he; subst ha; exact h2 w' x0 x1 x2 x3 x4 x5 x6 x7 x8 x9 hF) h1
theorem wp_share11 {P : Program} {c : Code} {Q : Exit → Act → World → Prop} {a : Act} {w : World} (F : World → Nat → Nat → Nat → Nat → Nat → Nat → Nat → Nat → Nat → Nat → Nat → Prop) (f : World → Nat → Nat → Nat → Nat → Nat → Nat → Nat → Nat → Nat → Nat → Nat → Act)
    (h1 : c.wp P (fun e a' w' => e = .normal ∧ ∃ x0 x1 x2 x3 x4 x5 x6 x7 x8 x9 x10, F w' x0 x1 x2 x3 x4 x5 x6 x7 x8 x9 x10 ∧ a' = f w' x0 x1 x2 x3 x4 x5 x6 x7 x8 x9 x10) a w) (h2 : ∀ W x0 x1 x2 x3 x4 x5 x6 x7 x8 x9 x10, F W x0 x1 x2 x3 x4 x5 x6 x7 x8 x9 x10 → Q .normal (f W x0 x1 x2 x3 x4 x5 x6 x7 x8 x9 x10) W) : c.wp P Q a w :=
  Code.wp_mono (fun e a' w' ⟨he, x0, x1, x2, x3, x4, x5, x6, x7, x8, x9, x10, hF, ha⟩ => by subst he; subst ha; exact h2 w' x0 x1 x2 x3 x4 x5 x6 x7 x8 x9 x10 hF) h1
theorem wp_share12 {P : Program} {c : Code} {Q : Exit → Act → World → Prop} {a : Act} {w : World} (F : World → Nat → Nat → Nat → Nat → Nat → Nat → Nat → Nat → Nat → Nat → Nat → Nat → Prop) (f : World → Nat → Nat → Nat → Nat → Nat → Nat → Nat → Nat → Nat → Nat → Nat → Nat → Act)
    (h1 : c.wp P (fun e a' w' => e = .normal ∧ ∃ x0 x1 x2 x3 x4 x5 x6 x7 x8 x9 x10 x11, F w' x0 x1 x2 x3 x4 x5 x6 x7 x8 x9 x10 x11 ∧ a' = f w' x0 x1 x2 x3 x4 x5 x6 x7 x8 x9 x10 x11) a w) (h2 : ∀ W x0 x1 x2 x3 x4 x5 x6 x7 x8 x9 x10 x11, F W x0 x1 x2 x3 x4 x5 x6 x7 x8 x9 x10 x11 → Q .normal (f W x0 x1 x2 x3 x4 x5 x6 x7 x8 x9 x10 x11) W) : c.wp P Q a w :=
  Code.wp_mono (fun e a' w' ⟨he, x0, x1, x2, x3, x4, x5, x6, x7, x8, x9, x10, x11, hF, ha⟩ => by subst he; subst ha; exact h2 w' x0 x1 x2 x3 x4 x5 x6 x7 x8 x9 x10 x11 hF) h1
end Go.Proofs.Ytfpblgbokmpmjaa
