/- A circuit under construction beside a list of the call's own. -/
import Derived.Test.YtfcijloiebnloaaPut
import Derived.Test.YtfcijloiebnloaaBldP
namespace Go.Proofs.Ytfcijloiebnloaa
open Go.RowKit
set_option linter.unusedVariables false
set_option linter.unusedSimpArgs false

/-- The blocks of a list are no part of the building. -/
def FrA (w : World) (bx : Nat) (ad : Option Addr) : Prop := ∀ b off, ad = some ⟨b, off, none⟩ → Frn w bx b
theorem Fr.rd {w w' : World} {bx : Nat} {ad : Option Addr} {cs : List Value} (h : Fr bx w w') (hf : FrA w bx ad) (hr : RdC w ad cs) : RdC w' ad cs := hr.keep fun b off e => h.kp (hf b off e)
theorem Fr.fra {w w' : World} {bx : Nat} {ad : Option Addr} (h : Fr bx w w') (hf : FrA w bx ad) : FrA w' bx ad := fun b off e => (h b (hf b off e)).2
/-- From w0 on: the building, and a list of the call's own. -/
structure Bs (w0 w : World) (lo bx : Nat) (G : List Gt) (v : Value) (gt k ct : Nat) (T : List Int) : Prop where
  b : Bld w lo bx G v
  o : Own w w0.heap.size 3 1 (some ⟨gt, 0, none⟩) k ct (I64 T)
  f : Frn w bx gt
  r : Fr bx w0 w
  l : Below lo w0 w
  z : lo ≤ w0.heap.size
theorem Fr.drew {w : World} {lo bx : Nat} {gs : List Gt} {v : Value} (h : Bld w lo bx gs v) : Fr bx w w.drew := Fr.below h ((Below.refl _ _).drew)
theorem Bld.drew {w : World} {lo bx : Nat} {gs : List Gt} {v : Value} (h : Bld w lo bx gs v) : Bld w.drew lo bx gs v := h.below ((Below.refl _ _).drew)
theorem Bs.start {w : World} {lo bx : Nat} {G : List Gt} {v : Value} (h : Bld w lo bx G v) : Bs w (w.alloc (.cells #[] 3)) lo bx G v w.heap.size 0 0 [] :=
  ⟨h.al _, own_new w _ _, frn_new h (fun b hb => Below.heap_alloc _ _ _ (h.mine hb)) (Nat.le_refl _) (by simp), Fr.al h _, (Below.refl _ _).alloc h.le _, h.le⟩
/-- The building has gone on. -/
theorem Bs.on {w0 w w2 : World} {lo bx gt k ct : Nat} {G G' : List Gt} {v : Value} {T : List Int} (h : Bs w0 w lo bx G v gt k ct T) (hB : Bld w2 lo bx G' v) (hF : Fr bx w w2) (hL : Below lo w w2) : Bs w0 w2 lo bx G' v gt k ct T :=
  ⟨hB, h.o.later (hF.kp h.f), hF.frn h.f, h.r.trans hF, h.l.trans hL, h.z⟩
theorem Bs.below {w0 w w2 : World} {lo bx gt k ct : Nat} {G : List Gt} {v : Value} {T : List Int} (h : Bs w0 w lo bx G v gt k ct T) (hL : Below w.heap.size w w2) : Bs w0 w2 lo bx G v gt k ct T :=
  h.on (h.b.below hL) (Fr.below h.b hL) (hL.mono h.b.le)
theorem Bs.drew {w0 w : World} {lo bx gt k ct : Nat} {G : List Gt} {v : Value} {T : List Int} (h : Bs w0 w lo bx G v gt k ct T) : Bs w0 w.drew lo bx G v gt k ct T := h.below ((Below.refl _ _).drew)
theorem Bs.alloc {w0 w : World} {lo bx gt k ct : Nat} {G : List Gt} {v : Value} {T : List Int} (h : Bs w0 w lo bx G v gt k ct T) (o : Obj) : Bs w0 (w.alloc o) lo bx G v gt k ct T := h.below ((Below.refl _ _).alloc (Nat.le_refl _) _)
theorem Bs.ge {w0 w : World} {lo bx gt k ct : Nat} {G : List Gt} {v : Value} {T : List Int} (h : Bs w0 w lo bx G v gt k ct T) : w0.heap.size ≤ gt ∧ gt < w.heap.size := h.o.ge
/-- The list has grown. -/
theorem Bs.push {w0 w w' : World} {lo bx gt k ct g c' : Nat} {G : List Gt} {v : Value} {T : List Int} {x : Int} (h : Bs w0 w lo bx G v gt k ct T) (o : Obj) (ho : Own w' w0.heap.size 3 1 (some ⟨g, 0, none⟩) (k + 1) c' (I64 (T ++ [x])))
    (hb : Below w0.heap.size (w.alloc o) w') (hg : (w.alloc o).grownBy w' (some gt)) (hat : g = gt ∨ g = (w.alloc o).heap.size) : Bs w0 w' lo bx G v g (k + 1) c' (T ++ [x]) := by
  have h' := h.b.al o
  have hF := Fr.al h.b o
  have hr : ∀ q, some gt = some q → Frn (w.alloc o) bx q := fun q e => by obtain rfl := Option.some.inj e; exact (hF _ h.f).2
  have hge := h.ge
  refine ⟨h'.grown hg hr, ho, ?_, ?_, ?_, h.z⟩
  · rcases hat with rfl | e
    · exact frn_grown h' hg hr (hF _ h.f).2
    · exact frn_grown_new h' hg hr (by omega) ho.ge.2
  · intro b hb0
    have h1 := h.r b hb0
    have h2 := hF b h1.2
    have hne : b ≠ gt := by have := hb0.1; omega
    exact ⟨(hg.block b h2.2.1 (fun e => hne (Option.some.inj e))).trans (h2.1.trans h1.1), frn_grown h' hg hr h2.2⟩
  · have hlo := h.b.le
    have hz := h.z
    exact h.l.trans (((Below.refl _ _).alloc hlo _).trans ((Below.refl _ _).grown hg (by simp; omega) (fun q e => by obtain rfl := Option.some.inj e; omega)))
/-- What stood in a block of others stands there still. -/
theorem Bs.cell {w0 w : World} {lo bx gt k ct : Nat} {G : List Gt} {v x : Value} {T : List Int} (h : Bs w0 w lo bx G v gt k ct T) {b o : Nat} (hf : Frn w0 bx b) (hc : w0.cell? ⟨b, o, none⟩ = some x) : w.cell? ⟨b, o, none⟩ = some x :=
  (cell_blk (h.r b hf).1 o).trans hc
theorem rnds_succ (f : List Gt → Nat → List Gt × Int) (gs : List Gt) (k : Nat) {G : List Gt} {T : List Int} (h : rnds f gs k = (G, T)) : rnds f gs (k + 1) = ((f G k).1, T ++ [(f G k).2]) := by
  unfold rnds; rw [h]
theorem rnds_le {f : List Gt → Nat → List Gt × Int} {m : Nat} (hf : ∀ h k, (f h k).1.length ≤ h.length + m) (gs : List Gt) : ∀ k, (rnds f gs k).1.length ≤ gs.length + m * k
  | 0 => by simp [rnds]
  | k + 1 => by
    have h1 := rnds_le hf gs k
    have h2 := hf (rnds f gs k).1 k
    have : m * (k + 1) = m * k + m := rfl
    show (f (rnds f gs k).1 k).1.length ≤ _
    omega
theorem bit_and4 {x : Int} {k : Nat} (h0 : 0 ≤ x) (h1 : x ≤ 15) (hk : k < 4) : bits BinOp.and IntKind.i64 (x / 2 ^ k) 1 = x / 2 ^ k % 2 := by
  have H : ∀ (a : Fin 16) (b : Fin 4), bits BinOp.and IntKind.i64 ((a.1 : Int) / 2 ^ b.1) 1 = (a.1 : Int) / 2 ^ b.1 % 2 := by decide
  have := H ⟨x.toNat, by omega⟩ ⟨k, hk⟩
  simp only [Int.toNat_of_nonneg h0] at this
  exact this
theorem RdC.elem {w : World} {ad : Option Addr} {xs : List Int} (h : RdC w ad (I64 xs)) (k : Nat) (hk : k < xs.length) : ∃ b off, ad = some ⟨b, off, none⟩ ∧ b < w.heap.size ∧ w.cell? ⟨b, off + k, none⟩ = some (.int .i64 (at0 xs (k : Int))) := by
  obtain ⟨b, off, h1, h2⟩ := h.at k hk
  have e : at0 xs (k : Int) = xs[k] := by rw [at0_nat]; simp [List.getD, List.getElem?_eq_getElem hk]
  have h3 := h2 k hk
  exact ⟨b, off, h1, lt_of_cell h3, by rw [e]; exact h3⟩
theorem le_put1 {f : List Gt → Nat → Gt} : ∀ (h : List Gt) (k : Nat), (put1 h (f h k)).1.length ≤ h.length + 1 := fun h k => by simp [put1]
theorem at0_drop0 (l : List Int) (k j : Nat) : at0 (l.drop k) (j : Int) = at0 l ((k + j : Nat) : Int) := by
  rw [at0_nat, at0_nat]; simp [List.getD, List.getElem?_drop]
/-- A new list beside the building. -/
theorem Bs.mk_list {w w1 : World} {lo bx g n c : Nat} {G : List Gt} {v : Value} {T : List Int} (h : Bld w lo bx G v) (hb : Below w.heap.size w w1) (ho : Own w1 w.heap.size 3 1 (some ⟨g, 0, none⟩) n c (I64 T)) : Bs w w1 lo bx G v g n c T :=
  ⟨h.below hb, ho, frn_new h (fun b hb' => hb.block b (h.mine hb')) ho.ge.1 ho.ge.2, Fr.below h hb, hb.mono h.le, h.le⟩
theorem RdC.take {w : World} {ad : Option Addr} {xs : List Int} (h : RdC w ad (I64 xs)) (n : Nat) : RdC w ad (I64 (xs.take n)) := by
  rcases h with h | ⟨b, off, h1, h2⟩
  · have : xs = [] := by
      have := congrArg List.length h; simp at this; exact this
    subst this; exact .inl (by simp)
  · refine .inr ⟨b, off, h1, fun i hi => ?_⟩
    have hi' : i < xs.length := by simp at hi; omega
    rw [h2 i (by simpa using hi')]
    simp [I64]
theorem fullsP_succ (a b : List Int) (c : Int) (gs : List Gt) (k : Nat) {G : List Gt} {cw : Int} {T : List Int} (h : fullsP a b c gs k = (G, cw, T)) : fullsP a b c gs (k + 1) = (fullG G (at0 a k) (at0 b k) cw, (G.length : Int) + 4, T ++ [(G.length : Int) + 2]) := by
  unfold fullsP; rw [h]
theorem fullG_len (gs : List Gt) (a b c : Int) : (fullG gs a b c).length = gs.length + 5 := by simp [fullG]
theorem fullsP_le (a b : List Int) (c : Int) (gs : List Gt) : ∀ k, (fullsP a b c gs k).1.length = gs.length + 5 * k
  | 0 => by simp [fullsP]
  | k + 1 => by
    have h1 := fullsP_le a b c gs k
    show (fullG _ _ _ _).length = _
    rw [fullG_len, h1]; omega
theorem Own.intE {w : World} {lo g n cap : Nat} {l : List Int} (h : Own w lo 3 1 (some ⟨g, 0, none⟩) n cap (I64 l)) (j : Nat) (hj : j < l.length) : w.cell? ⟨g, j, none⟩ = some (.int .i64 (at0 l (j : Int))) ∧ w.frozen? ⟨g, j, none⟩ = false := by
  have := h.get j (by simpa using hj)
  rw [I64_get l j hj] at this
  rw [at0_nat]
  simpa [List.getD, List.getElem?_eq_getElem hj] using this
end Go.Proofs.Ytfcijloiebnloaa
