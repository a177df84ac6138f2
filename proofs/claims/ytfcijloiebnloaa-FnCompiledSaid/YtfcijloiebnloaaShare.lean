/- One way out of a drawn region: what follows it is walked once. -/
import Derived.Test.YtfcijloiebnloaaHeap
import Derived.Deep.RegionHeld3
namespace Go.Proofs.Ytfcijloiebnloaa
open Go.RowKit

theorem wp_share1 {T0 : Type} {P : Program} {c : Code} {Q : Exit → Act → World → Prop} {a : Act} {w : World} (F : World → T0 → Prop) (f : World → T0 → Act)
    (h1 : c.wp P (fun e a' w' => e = .normal ∧ ∃ x0, F w' x0 ∧ a' = f w' x0) a w) (h2 : ∀ W x0, F W x0 → Q .normal (f W x0) W) : c.wp P Q a w :=
  Code.wp_mono (fun e a' w' ⟨he, x0, hF, ha⟩ => by subst he; subst ha; exact h2 w' x0 hF) h1
theorem wp_share2 {T0 T1 : Type} {P : Program} {c : Code} {Q : Exit → Act → World → Prop} {a : Act} {w : World} (F : World → T0 → T1 → Prop) (f : World → T0 → T1 → Act)
    (h1 : c.wp P (fun e a' w' => e = .normal ∧ ∃ x0 x1, F w' x0 x1 ∧ a' = f w' x0 x1) a w) (h2 : ∀ W x0 x1, F W x0 x1 → Q .normal (f W x0 x1) W) : c.wp P Q a w :=
  Code.wp_mono (fun e a' w' ⟨he, x0, x1, hF, ha⟩ => by subst he; subst ha; exact h2 w' x0 x1 hF) h1
theorem wp_share3 {T0 T1 T2 : Type} {P : Program} {c : Code} {Q : Exit → Act → World → Prop} {a : Act} {w : World} (F : World → T0 → T1 → T2 → Prop) (f : World → T0 → T1 → T2 → Act)
    (h1 : c.wp P (fun e a' w' => e = .normal ∧ ∃ x0 x1 x2, F w' x0 x1 x2 ∧ a' = f w' x0 x1 x2) a w) (h2 : ∀ W x0 x1 x2, F W x0 x1 x2 → Q .normal (f W x0 x1 x2) W) : c.wp P Q a w :=
  Code.wp_mono (fun e a' w' ⟨he, x0, x1, x2, hF, ha⟩ => by subst he; subst ha; exact h2 w' x0 x1 x2 hF) h1
theorem wp_share4 {T0 T1 T2 T3 : Type} {P : Program} {c : Code} {Q : Exit → Act → World → Prop} {a : Act} {w : World} (F : World → T0 → T1 → T2 → T3 → Prop) (f : World → T0 → T1 → T2 → T3 → Act)
    (h1 : c.wp P (fun e a' w' => e = .normal ∧ ∃ x0 x1 x2 x3, F w' x0 x1 x2 x3 ∧ a' = f w' x0 x1 x2 x3) a w) (h2 : ∀ W x0 x1 x2 x3, F W x0 x1 x2 x3 → Q .normal (f W x0 x1 x2 x3) W) : c.wp P Q a w :=
  Code.wp_mono (fun e a' w' ⟨he, x0, x1, x2, x3, hF, ha⟩ => by subst he; subst ha; exact h2 w' x0 x1 x2 x3 hF) h1
theorem wp_share5 {T0 T1 T2 T3 T4 : Type} {P : Program} {c : Code} {Q : Exit → Act → World → Prop} {a : Act} {w : World} (F : World → T0 → T1 → T2 → T3 → T4 → Prop) (f : World → T0 → T1 → T2 → T3 → T4 → Act)
    (h1 : c.wp P (fun e a' w' => e = .normal ∧ ∃ x0 x1 x2 x3 x4, F w' x0 x1 x2 x3 x4 ∧ a' = f w' x0 x1 x2 x3 x4) a w) (h2 : ∀ W x0 x1 x2 x3 x4, F W x0 x1 x2 x3 x4 → Q .normal (f W x0 x1 x2 x3 x4) W) : c.wp P Q a w :=
  Code.wp_mono (fun e a' w' ⟨he, x0, x1, x2, x3, x4, hF, ha⟩ => by subst he; subst ha; exact h2 w' x0 x1 x2 x3 x4 hF) h1
theorem wp_share6 {T0 T1 T2 T3 T4 T5 : Type} {P : Program} {c : Code} {Q : Exit → Act → World → Prop} {a : Act} {w : World} (F : World → T0 → T1 → T2 → T3 → T4 → T5 → Prop) (f : World → T0 → T1 → T2 → T3 → T4 → T5 → Act)
    (h1 : c.wp P (fun e a' w' => e = .normal ∧ ∃ x0 x1 x2 x3 x4 x5, F w' x0 x1 x2 x3 x4 x5 ∧ a' = f w' x0 x1 x2 x3 x4 x5) a w) (h2 : ∀ W x0 x1 x2 x3 x4 x5, F W x0 x1 x2 x3 x4 x5 → Q .normal (f W x0 x1 x2 x3 x4 x5) W) : c.wp P Q a w :=
  Code.wp_mono (fun e a' w' ⟨he, x0, x1, x2, x3, x4, x5, hF, ha⟩ => by subst he; subst ha; exact h2 w' x0 x1 x2 x3 x4 x5 hF) h1
theorem wp_share7 {T0 T1 T2 T3 T4 T5 T6 : Type} {P : Program} {c : Code} {Q : Exit → Act → World → Prop} {a : Act} {w : World} (F : World → T0 → T1 → T2 → T3 → T4 → T5 → T6 → Prop) (f : World → T0 → T1 → T2 → T3 → T4 → T5 → T6 → Act)
    (h1 : c.wp P (fun e a' w' => e = .normal ∧ ∃ x0 x1 x2 x3 x4 x5 x6, F w' x0 x1 x2 x3 x4 x5 x6 ∧ a' = f w' x0 x1 x2 x3 x4 x5 x6) a w) (h2 : ∀ W x0 x1 x2 x3 x4 x5 x6, F W x0 x1 x2 x3 x4 x5 x6 → Q .normal (f W x0 x1 x2 x3 x4 x5 x6) W) : c.wp P Q a w :=
  Code.wp_mono (fun e a' w' ⟨he, x0, x1, x2, x3, x4, x5, x6, hF, ha⟩ => by subst he; subst ha; exact h2 w' x0 x1 x2 x3 x4 x5 x6 hF) h1
theorem wp_share8 {T0 T1 T2 T3 T4 T5 T6 T7 : Type} {P : Program} {c : Code} {Q : Exit → Act → World → Prop} {a : Act} {w : World} (F : World → T0 → T1 → T2 → T3 → T4 → T5 → T6 → T7 → Prop) (f : World → T0 → T1 → T2 → T3 → T4 → T5 → T6 → T7 → Act)
    (h1 : c.wp P (fun e a' w' => e = .normal ∧ ∃ x0 x1 x2 x3 x4 x5 x6 x7, F w' x0 x1 x2 x3 x4 x5 x6 x7 ∧ a' = f w' x0 x1 x2 x3 x4 x5 x6 x7) a w) (h2 : ∀ W x0 x1 x2 x3 x4 x5 x6 x7, F W x0 x1 x2 x3 x4 x5 x6 x7 → Q .normal (f W x0 x1 x2 x3 x4 x5 x6 x7) W) : c.wp P Q a w :=
  Code.wp_mono (fun e a' w' ⟨he, x0, x1, x2, x3, x4, x5, x6, x7, hF, ha⟩ => by subst he; subst ha; exact h2 w' x0 x1 x2 x3 x4 x5 x6 x7 hF) h1
theorem wp_share9 {T0 T1 T2 T3 T4 T5 T6 T7 T8 : Type} {P : Program} {c : Code} {Q : Exit → Act → World → Prop} {a : Act} {w : World} (F : World → T0 → T1 → T2 → T3 → T4 → T5 → T6 → T7 → T8 → Prop) (f : World → T0 → T1 → T2 → T3 → T4 → T5 → T6 → T7 → T8 → Act)
    (h1 : c.wp P (fun e a' w' => e = .normal ∧ ∃ x0 x1 x2 x3 x4 x5 x6 x7 x8, F w' x0 x1 x2 x3 x4 x5 x6 x7 x8 ∧ a' = f w' x0 x1 x2 x3 x4 x5 x6 x7 x8) a w) (h2 : ∀ W x0 x1 x2 x3 x4 x5 x6 x7 x8, F W x0 x1 x2 x3 x4 x5 x6 x7 x8 → Q .normal (f W x0 x1 x2 x3 x4 x5 x6 x7 x8) W) : c.wp P Q a w :=
  Code.wp_mono (fun e a' w' ⟨he, x0, x1, x2, x3, x4, x5, x6, x7, x8, hF, ha⟩ => by subst he; subst ha; exact h2 w' x0 x1 x2 x3 x4 x5 x6 x7 x8 hF) h1
theorem wp_share10 {T0 T1 T2 T3 T4 T5 T6 T7 T8 T9 : Type} {P : Program} {c : Code} {Q : Exit → Act → World → Prop} {a : Act} {w : World} (F : World → T0 → T1 → T2 → T3 → T4 → T5 → T6 → T7 → T8 → T9 → Prop) (f : World → T0 → T1 → T2 → T3 → T4 → T5 → T6 → T7 → T8 → T9 → Act)
    (h1 : c.wp P (fun e a' w' => e = .normal ∧ ∃ x0 x1 x2 x3 x4 x5 x6 x7 x8 x9, F w' x0 x1 x2 x3 x4 x5 x6 x7 x8 x9 ∧ a' = f w' x0 x1 x2 x3 x4 x5 x6 x7 x8 x9) a w) (h2 : ∀ W x0 x1 x2 x3 x4 x5 x6 x7 x8 x9, F W x0 x1 x2 x3 x4 x5 x6 x7 x8 x9 → Q .normal (f W x0 x1 x2 x3 x4 x5 x6 x7 x8 x9) W) : c.wp P Q a w :=
  Code.wp_mono (fun e a' w' ⟨he, x0, x1, x2, x3, x4, x5, x6, x7, x8, x9, hF, ha⟩ => by subst he; subst ha; exact h2 w' x0 x1 x2 x3 x4 x5 x6 x7 x8 x9 hF) h1
theorem wp_share11 {T0 T1 T2 T3 T4 T5 T6 T7 T8 T9 T10 : Type} {P : Program} {c : Code} {Q : Exit → Act → World → Prop} {a : Act} {w : World} (F : World → T0 → T1 → T2 → T3 → T4 → T5 → T6 → T7 → T8 → T9 → T10 → Prop) (f : World → T0 → T1 → T2 → T3 → T4 → T5 → T6 → T7 → T8 → T9 → T10 → Act)
    (h1 : c.wp P (fun e a' w' => e = .normal ∧ ∃ x0 x1 x2 x3 x4 x5 x6 x7 x8 x9 x10, F w' x0 x1 x2 x3 x4 x5 x6 x7 x8 x9 x10 ∧ a' = f w' x0 x1 x2 x3 x4 x5 x6 x7 x8 x9 x10) a w) (h2 : ∀ W x0 x1 x2 x3 x4 x5 x6 x7 x8 x9 x10, F W x0 x1 x2 x3 x4 x5 x6 x7 x8 x9 x10 → Q .normal (f W x0 x1 x2 x3 x4 x5 x6 x7 x8 x9 x10) W) : c.wp P Q a w :=
  Code.wp_mono (fun e a' w' ⟨he, x0, x1, x2, x3, x4, x5, x6, x7, x8, x9, x10, hF, ha⟩ => by subst he; subst ha; exact h2 w' x0 x1 x2 x3 x4 x5 x6 x7 x8 x9 x10 hF) h1
theorem wp_share12 {T0 T1 T2 T3 T4 T5 T6 T7 T8 T9 T10 T11 : Type} {P : Program} {c : Code} {Q : Exit → Act → World → Prop} {a : Act} {w : World} (F : World → T0 → T1 → T2 → T3 → T4 → T5 → T6 → T7 → T8 → T9 → T10 → T11 → Prop) (f : World → T0 → T1 → T2 → T3 → T4 → T5 → T6 → T7 → T8 → T9 → T10 → T11 → Act)
    (h1 : c.wp P (fun e a' w' => e = .normal ∧ ∃ x0 x1 x2 x3 x4 x5 x6 x7 x8 x9 x10 x11, F w' x0 x1 x2 x3 x4 x5 x6 x7 x8 x9 x10 x11 ∧ a' = f w' x0 x1 x2 x3 x4 x5 x6 x7 x8 x9 x10 x11) a w) (h2 : ∀ W x0 x1 x2 x3 x4 x5 x6 x7 x8 x9 x10 x11, F W x0 x1 x2 x3 x4 x5 x6 x7 x8 x9 x10 x11 → Q .normal (f W x0 x1 x2 x3 x4 x5 x6 x7 x8 x9 x10 x11) W) : c.wp P Q a w :=
  Code.wp_mono (fun e a' w' ⟨he, x0, x1, x2, x3, x4, x5, x6, x7, x8, x9, x10, x11, hF, ha⟩ => by subst he; subst ha; exact h2 w' x0 x1 x2 x3 x4 x5 x6 x7 x8 x9 x10 x11 hF) h1
end Go.Proofs.Ytfcijloiebnloaa
