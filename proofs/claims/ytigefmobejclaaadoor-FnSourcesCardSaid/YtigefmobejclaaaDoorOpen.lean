/- What an argument that came in reads as: slices of numbers, of structs of numbers, of slices. Over any program. -/
import Derived.Test.YtigefmobejclaaaDoorHeap
import Derived.ProofKit
import Derived.Deep.Slices
namespace Go.Proofs.YtigefmobejclaaaDoor
open Go.RowKit Go.ChangeShapes Go.WideShapes Go.Deep

section
variable {H : Type} {enc : TypeId × Value → H} {P : Program} {w : World} {base : Nat} {spare : Nat → Bool} {held : Bool}

theorem off_spot {w : World} {a : Addr} {v : Value} (h : w.cell? (a.add 0) = some v) : a = ⟨a.block, a.off, none⟩ := by
  have := World.cell?_spot h
  cases a; simp_all [Addr.add]

theorem add_plain (b off i : Nat) : (⟨b, off, none⟩ : Addr).add i = ⟨b, off + i, none⟩ := by
  unfold Addr.add; split <;> simp_all

/-- A slice of numbers. -/
theorem trod_ints {t e : TypeId} {fuel : Nat} {ad : Option Addr} {len cap : Nat} {x : DataW H × List MemPlace} (ht : P.underlying t = some (.slice e)) (he : P.underlying e = some (.int .i64)) (hc : P.cellsOf e = 1)
    (h : DataW.trod enc P w base spare held fuel t [.slice ad len cap] = some x) :
    ∃ xs : List Int, xs.length = len ∧ RdC w ad (I64 xs) ∧ len ≤ maxLen ∧ len ≤ cap := by
  rcases open_ints ht he hc h with ⟨hcs, _⟩ | ⟨a, l, c, zs, hcs, _, hl, hm, hz, _, hcell, _⟩
  · simp only [List.cons.injEq, Value.slice.injEq, and_true] at hcs
    obtain ⟨rfl, rfl, rfl⟩ := hcs
    exact ⟨[], rfl, .nil _ _, Nat.zero_le _, Nat.le_refl _⟩
  · simp only [List.cons.injEq, Value.slice.injEq, and_true] at hcs
    obtain ⟨rfl, rfl, rfl⟩ := hcs
    have hzl : len ≤ zs.length := by rw [hz]; split <;> omega
    refine ⟨zs.take len, by simp; omega, ?_, by omega, hl⟩
    by_cases h0 : len = 0
    · subst h0; exact .inl (by simp [I64])
    · have h1 := off_spot (hcell 0 (by omega))
      refine .inr ⟨a.block, a.off, by rw [← h1], fun i hi => ?_⟩
      have hi' : i < len := by simp at hi; omega
      have := hcell i (by omega)
      rw [h1, add_plain] at this
      rw [I64_get (zs.take len) i (by simp; omega)]
      simp only [this, List.getElem_take, List.getD_eq_getElem?_getD, List.getElem?_eq_getElem (show i < zs.length by omega), Option.getD_some]

theorem trod_is_slice {t e : TypeId} {fuel : Nat} {v : Value} {x : DataW H × List MemPlace} (ht : P.underlying t = some (.slice e)) (h : DataW.trod enc P w base spare held fuel t [v] = some x) :
    ∃ ad len cap, v = .slice ad len cap := by
  rcases DataW.trod_slice ht h with ⟨hcs, _⟩ | ⟨a, len, cap, _, _, _, _, hcs, _⟩
  · simp only [List.cons.injEq, and_true] at hcs
    exact ⟨none, 0, 0, hcs⟩
  · simp only [List.cons.injEq, and_true] at hcs
    exact ⟨some a, len, cap, hcs⟩

/-- A slice of bytes. -/
theorem trod_bytes {t e : TypeId} {fuel : Nat} {ad : Option Addr} {len cap : Nat} {x : DataW H × List MemPlace} (ht : P.underlying t = some (.slice e)) (he : P.underlying e = some (.int .u8)) (hc : P.cellsOf e = 1)
    (h : DataW.trod enc P w base spare held fuel t [.slice ad len cap] = some x) :
    ∃ xs : List Int, xs.length = len ∧ RdC w ad (xs.map (Value.int .u8)) ∧ len ≤ maxLen ∧ (∀ n ∈ xs, 0 ≤ n ∧ n ≤ 255) ∧ len ≤ cap := by
  rcases open_ints ht he hc h with ⟨hcs, _⟩ | ⟨a, l, c, zs, hcs, _, hl, hm, hz, _, hcell, hwf⟩
  · simp only [List.cons.injEq, Value.slice.injEq, and_true] at hcs
    obtain ⟨rfl, rfl, rfl⟩ := hcs
    exact ⟨[], rfl, .nil _ _, Nat.zero_le _, (by intro n hn; cases hn), Nat.le_refl _⟩
  · simp only [List.cons.injEq, Value.slice.injEq, and_true] at hcs
    obtain ⟨rfl, rfl, rfl⟩ := hcs
    have hzl : len ≤ zs.length := by rw [hz]; split <;> omega
    refine ⟨zs.take len, by simp; omega, ?_, by omega, fun n hn => ?_, hl⟩
    · by_cases h0 : len = 0
      · subst h0; exact .inl (by simp)
      · have h1 := off_spot (hcell 0 (by omega))
        refine .inr ⟨a.block, a.off, by rw [← h1], fun i hi => ?_⟩
        have hi' : i < len := by simp at hi; omega
        have := hcell i (by omega)
        rw [h1, add_plain] at this
        simp only [this, List.getElem_map, List.getElem_take, List.getD_eq_getElem?_getD, List.getElem?_eq_getElem (show i < zs.length by omega), Option.getD_some]
    · have := hwf n (List.mem_of_mem_take hn)
      simp [Lit.wf, IntKind.min, IntKind.max, IntKind.bits, IntKind.signed] at this
      omega

/-- The cells of a struct of numbers. -/
theorem trod_fields {t : TypeId} {fs : Array Field} {fuel : Nat} {cs : List Value} {x : DataW H × List MemPlace} (ht : P.underlying t = some (.struct fs)) (hone : P.cellsOf t = fs.size)
    (hf : ∀ (i : Nat) (f : Field), fs[i]? = some f → f.offset = i ∧ P.underlying f.type = some (.int .i64) ∧ P.cellsOf f.type = 1) (h : DataW.trod enc P w base spare held fuel t cs = some x) :
    ∃ ns : List Int, ns.length = fs.size ∧ cs = I64 ns := by
  obtain ⟨xs, n, _, _, hlen, hxl, hg⟩ := DataW.trod_struct ht h
  have each : ∀ i (hi : i < cs.length), ∃ n : Int, cs[i] = .int .i64 n := by
    intro i hi
    have hi' : i < fs.size := by omega
    obtain ⟨h1, h2, h3⟩ := hf i fs[i] (Array.getElem?_eq_getElem hi')
    have := hg i fs[i] (Array.getElem?_eq_getElem hi')
    rw [h1, h3, List.drop_eq_getElem_cons hi] at this
    simp only [List.take_succ_cons, List.take_zero] at this
    rw [List.getElem?_eq_getElem (by omega)] at this
    obtain ⟨m, hm, _⟩ := DataW.trod_int h2 this
    simp only [List.cons.injEq, and_true] at hm
    exact ⟨m, hm⟩
  refine ⟨cs.map fun v => match v with | .int _ n => n | _ => 0, by simp; omega, ?_⟩
  refine List.ext_getElem (by simp [I64]) fun i h1 h2 => ?_
  obtain ⟨m, hm⟩ := each i h1
  simp [I64, hm]

/-- A slice of structs of m numbers each. -/
theorem trod_structs {t e : TypeId} {fs : Array Field} {fuel : Nat} {ad : Option Addr} {len cap : Nat} {x : DataW H × List MemPlace} (ht : P.underlying t = some (.slice e)) (he : P.underlying e = some (.struct fs)) (hone : P.cellsOf e = fs.size) (hpos : 0 < fs.size)
    (hf : ∀ (i : Nat) (f : Field), fs[i]? = some f → f.offset = i ∧ P.underlying f.type = some (.int .i64) ∧ P.cellsOf f.type = 1) (h : DataW.trod enc P w base spare held fuel t [.slice ad len cap] = some x) :
    ∃ ns : List Int, ns.length = len * fs.size ∧ RdC w ad (I64 ns) ∧ len ≤ maxLen ∧ len ≤ cap := by
  rcases open_slice ht h with ⟨hcs, _⟩ | ⟨a, l, c, m, n, D, Pl, hcs, _, hl, hm, hmm, _, hi⟩
  · simp only [List.cons.injEq, Value.slice.injEq, and_true] at hcs
    obtain ⟨rfl, rfl, rfl⟩ := hcs
    exact ⟨[], by simp, .nil _ _, Nat.zero_le _, Nat.le_refl _⟩
  · simp only [List.cons.injEq, Value.slice.injEq, and_true] at hcs
    obtain ⟨rfl, rfl, rfl⟩ := hcs
    have hml : len ≤ m := by rw [hmm]; split <;> omega
    by_cases h0 : len = 0
    · subst h0; exact ⟨[], by simp, .nil _ _, Nat.zero_le _, hl⟩
    have each : ∀ i, i < len → ∃ ns : List Int, ns.length = fs.size ∧ ∀ j, j < fs.size → w.cell? (a.add (i * fs.size + j)) = (I64 ns)[j]? := by
      intro i hil
      obtain ⟨cs', hc, ht'⟩ := hi i (by omega)
      obtain ⟨ns, hn, rfl⟩ := trod_fields he hone hf ht'
      obtain ⟨_, hcl, hat⟩ := World.cells?_some hc
      refine ⟨ns, hn, fun j hj => ?_⟩
      have := hat j (by omega)
      rw [hone] at this
      rw [← this, Go.Deep.add_add]
    have h1 : a = ⟨a.block, a.off, none⟩ := by
      obtain ⟨ns, hn, hj⟩ := each 0 (by omega)
      have := hj 0 hpos
      rw [Nat.zero_mul, Nat.zero_add, List.getElem?_eq_getElem (by simp; omega)] at this
      exact off_spot this
    refine ⟨(List.range (len * fs.size)).map fun k => match w.cell? (a.add k) with | some (.int _ n) => n | _ => 0, by simp, .inr ⟨a.block, a.off, by rw [← h1], fun k hk => ?_⟩, by omega, hl⟩
    have hk' : k < len * fs.size := by simpa using hk
    obtain ⟨ns, hn, hj⟩ := each (k / fs.size) (Nat.div_lt_of_lt_mul (by rw [Nat.mul_comm]; exact hk'))
    have hmod := Nat.mod_lt k hpos
    have := hj (k % fs.size) hmod
    rw [show k / fs.size * fs.size + k % fs.size = k from by rw [Nat.mul_comm]; exact Nat.div_add_mod k fs.size, List.getElem?_eq_getElem (by simp; omega), I64_get ns _ (by omega)] at this
    rw [I64_get _ k (by simpa using hk')]
    have hadd : a.add k = ⟨a.block, a.off + k, none⟩ := by rw [h1]; exact add_plain _ _ _
    rw [hadd] at this
    simp only [List.getElem_map, List.getElem_range, hadd, this]

/-- A slice of slices of numbers: its rows. -/
structure Rw where
  ad : Option Addr
  cap : Nat
  xs : List Int
def Rw.val (r : Rw) : Value := .slice r.ad r.xs.length r.cap
theorem trod_rows {t e i : TypeId} {fuel : Nat} {ad : Option Addr} {len cap : Nat} {x : DataW H × List MemPlace} (ht : P.underlying t = some (.slice e)) (he : P.underlying e = some (.slice i)) (hone : P.cellsOf e = 1) (hi : P.underlying i = some (.int .i64)) (hic : P.cellsOf i = 1)
    (h : DataW.trod enc P w base spare held fuel t [.slice ad len cap] = some x) :
    ∃ rs : List Rw, rs.length = len ∧ RdC w ad (rs.map Rw.val) ∧ (∀ r ∈ rs, RdC w r.ad (I64 r.xs) ∧ r.xs.length ≤ maxLen) ∧ len ≤ maxLen ∧ len ≤ cap := by
  rcases open_slice ht h with ⟨hcs, _⟩ | ⟨a, l, c, m, n, D, Pl, hcs, _, hl, hm, hmm, _, hii⟩
  · simp only [List.cons.injEq, Value.slice.injEq, and_true] at hcs
    obtain ⟨rfl, rfl, rfl⟩ := hcs
    exact ⟨[], rfl, .nil _ _, (by intro r hr; cases hr), Nat.zero_le _, Nat.le_refl _⟩
  · simp only [List.cons.injEq, Value.slice.injEq, and_true] at hcs
    obtain ⟨rfl, rfl, rfl⟩ := hcs
    have hml : len ≤ m := by rw [hmm]; split <;> omega
    have each : ∀ k, k < len → ∃ r : Rw, w.cell? (a.add k) = some r.val ∧ RdC w r.ad (I64 r.xs) ∧ r.xs.length ≤ maxLen := by
      intro k hk
      obtain ⟨cs', hc, ht'⟩ := hii k (by omega)
      rw [hone, Nat.mul_one] at hc
      obtain ⟨_, hcl, hat⟩ := World.cells?_some hc
      match cs', hcl with
      | [v], _ =>
        have h0 := hat 0 (by omega)
        rw [show (a.add k).add 0 = a.add k from rfl] at h0
        rcases open_slice he ht' with ⟨hcs, _⟩ | ⟨a2, l2, c2, _, _, _, _, hcs, _⟩
        · simp only [List.cons.injEq, and_true] at hcs
          subst hcs
          exact ⟨⟨none, 0, []⟩, by simpa [Rw.val] using h0, .nil _ _, Nat.zero_le _⟩
        · simp only [List.cons.injEq, and_true] at hcs
          subst hcs
          obtain ⟨xs, hx1, hx2, hx3, _⟩ := trod_ints he hi hic ht'
          subst hx1
          exact ⟨⟨some a2, c2, xs⟩, by simpa [Rw.val] using h0, hx2, hx3⟩
    have build : ∀ k, k ≤ len → ∃ rs : List Rw, rs.length = k ∧ (∀ j (hj : j < rs.length), w.cell? (a.add j) = some rs[j].val) ∧ ∀ r ∈ rs, RdC w r.ad (I64 r.xs) ∧ r.xs.length ≤ maxLen := by
      intro k
      induction k with
      | zero => intro _; exact ⟨[], rfl, (by intro j hj; cases hj), (by intro r hr; cases hr)⟩
      | succ k ih =>
        intro hk
        obtain ⟨rs, h1, h2, h3⟩ := ih (by omega)
        obtain ⟨r, h4, h5⟩ := each k (by omega)
        refine ⟨rs ++ [r], by simp [h1], fun j hj => ?_, fun x hx => ?_⟩
        · rw [List.getElem_append]
          split
          · exact h2 j _
          · have hjk : j = k := by simp at hj; omega
            subst hjk
            simpa using h4
        · rcases List.mem_append.1 hx with hx | hx
          · exact h3 x hx
          · simp at hx; subst hx; exact h5
    obtain ⟨rs, h1, h2, h3⟩ := build len (Nat.le_refl _)
    refine ⟨rs, h1, ?_, h3, by omega, hl⟩
    by_cases h0 : len = 0
    · exact .inl (by simp; exact List.eq_nil_of_length_eq_zero (by omega))
    · have hs := off_spot (h2 0 (by omega))
      refine .inr ⟨a.block, a.off, by rw [← hs], fun j hj => ?_⟩
      have := h2 j (by simpa using hj)
      rw [hs, add_plain] at this
      simpa using this
end

end Go.Proofs.YtigefmobejclaaaDoor
