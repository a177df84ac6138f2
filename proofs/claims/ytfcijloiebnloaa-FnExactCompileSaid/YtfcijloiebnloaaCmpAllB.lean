/- CmpP, CmpV, CmpW, MulS, CmpS, CmpT, CmpI, WordI, in one text. -/
import Derived.Test.YtfcijloiebnloaaMulF
import Derived.Test.YtfcijloiebnloaaStmt
import Derived.StillTailTactics
import Derived.Deep.RegionHeld3
import Derived.Deep.RegionLaw
import Derived.Test.YtfcijloiebnloaaCmpAllA
import Derived.Test.YtfcijloiebnloaaWordS
/- CmpP -/
namespace Go.Proofs.Ytfcijloiebnloaa
open Go.RowKit
set_option linter.unusedVariables false
set_option linter.unusedSimpArgs false

/-- A register in memory: its word, and where it lies. -/
structure RV where
  ad : Option Addr
  cp : Nat
  l : List Int
def RV.v (r : RV) : Value := .slice r.ad 4 r.cp
def rvCells (rs : List RV) : List Value := rs.map RV.v
def regsOf (rs : List RV) : List (List Int) := rs.map RV.l
def rgA (regs : List (List Int)) (i : Int) : List Int := regs.getD i.toNat []
theorem rvCells_length (rs : List RV) : (rvCells rs).length = rs.length := by simp [rvCells]
/-- A word of a register can be read, and stands apart from what F bars. -/
structure RvOk (w : World) (F : Option Addr → Prop) (r : RV) : Prop where
  len : r.l.length = 4
  cap : 4 ≤ r.cp
  rd : RdC w r.ad (I64 r.l)
  fr : F r.ad
theorem RdC.elemV {w : World} {ad : Option Addr} {cs : List Value} (h : RdC w ad cs) (k : Nat) (hk : k < cs.length) : ∃ b off, ad = some ⟨b, off, none⟩ ∧ b < w.heap.size ∧ w.cell? ⟨b, off + k, none⟩ = some cs[k] := by
  rcases h with h | ⟨b, off, h1, h2⟩
  · rw [h] at hk; simp at hk
  · exact ⟨b, off, h1, lt_of_cell (h2 k hk), h2 k hk⟩
/-- One register. -/
theorem RdC.rv {w : World} {ad : Option Addr} {rs : List RV} {F : Option Addr → Prop} (h : RdC w ad (rvCells rs)) (hok : ∀ r ∈ rs, RvOk w F r) (k : Nat) (hk : k < rs.length) :
    ∃ (b off : Nat) (ax : Option Addr) (cx : Nat) (xs : List Int), ad = some ⟨b, off, none⟩ ∧ b < w.heap.size ∧ w.cell? ⟨b, off + k, none⟩ = some (.slice ax 4 cx) ∧ rgA (regsOf rs) (k : Int) = xs ∧ xs.length = 4 ∧ 4 ≤ cx ∧ RdC w ax (I64 xs) ∧ F ax := by
  obtain ⟨b, off, e, hb, hc⟩ := h.elemV k (by rw [rvCells_length]; exact hk)
  have hr := hok rs[k] (List.getElem_mem hk)
  refine ⟨b, off, rs[k].ad, rs[k].cp, rs[k].l, e, hb, ?_, ?_, hr.len, hr.cap, hr.rd, hr.fr⟩
  · rw [hc]; simp [rvCells, RV.v]
  · simp [rgA, regsOf, List.getD, hk]
theorem Bs.back {w W W2 : World} {lo bx g k c : Nat} {gs G : List Gt} {v : Value} {T : List Int} (hB : Bld w lo bx gs v) (h : Below w.heap.size w W) (h2 : Bs W W2 lo bx G v g k c T) : Bs w W2 lo bx G v g k c T :=
  ⟨h2.b, h2.o.lo h.size, h2.f, (Fr.below hB h).trans h2.r, (h.mono hB.le).trans h2.l, hB.le⟩
theorem FrA.below {w W : World} {lo bx : Nat} {gs : List Gt} {v : Value} {ad : Option Addr} (hB : Bld w lo bx gs v) (h : Below w.heap.size w W) (hf : FrA w bx ad) : FrA W bx ad := (Fr.below hB h).fra hf
theorem own_four (w : World) (x y z t : Int) : Own (w.alloc (.cells #[.int .i64 x, .int .i64 y, .int .i64 z, .int .i64 t] 3)) w.heap.size 3 1 (some ⟨w.heap.size, 0, none⟩) 4 4 (I64 [x, y, z, t]) := by
  refine ⟨by simp, .inr ⟨w.heap.size, 4, #[.int .i64 x, .int .i64 y, .int .i64 z, .int .i64 t], rfl, Nat.le_refl _, heap_alloc_new w _, Nat.le_refl _, by unfold maxLen; omega, ?_⟩⟩
  exact ⟨rfl, rfl⟩
/-- A list of four, made behind a gate. -/
theorem Bs.mk4 {w W : World} {lo bx : Nat} {gs G : List Gt} {v : Value} (hB : Bld w lo bx gs v) (h : Bld W lo bx G v) (hF : Fr bx w W) (hL : Below lo w W) (x y z t : Int) : Bs w (W.alloc (.cells #[.int .i64 x, .int .i64 y, .int .i64 z, .int .i64 t] 3)) lo bx G v W.heap.size 4 4 [x, y, z, t] := by
  have h2 : Bs W (W.alloc (.cells #[.int .i64 x, .int .i64 y, .int .i64 z, .int .i64 t] 3)) lo bx G v W.heap.size 4 4 [x, y, z, t] := ⟨h.al _, own_four W x y z t, frn_new h (fun b hb => Below.heap_alloc _ _ _ (h.mine hb)) (Nat.le_refl _) (by simp), Fr.al h _, (Below.refl _ _).alloc h.le _, h.le⟩
  exact ⟨h2.b, h2.o.lo hL.size, h2.f, hF.trans h2.r, hL.trans h2.l, hB.le⟩
theorem and7 (n : Nat) (h : n < 8) : bits BinOp.and IntKind.i64 (n : Int) 7 = n := by
  have : n = 0 ∨ n = 1 ∨ n = 2 ∨ n = 3 ∨ n = 4 ∨ n = 5 ∨ n = 6 ∨ n = 7 := by omega
  rcases this with rfl | rfl | rfl | rfl | rfl | rfl | rfl | rfl <;> rfl
/-- The gates of a statement, and the word of its register. -/
def stG (regs : List (List Int)) (zero : Int) (s : St) (gs : List Gt) : List Gt × List Int :=
  if s.op = 1 then constP s.n gs
  else if s.op = 2 then inputP (s.a * 4 + s.n) gs
  else if s.op = 3 then sumP (rgA regs s.a) (rgA regs s.b) 0 3 gs
  else if s.op = 4 then sumP (rgA regs s.a) (notsP (rgA regs s.b) gs).2 1 3 (notsP (rgA regs s.b) gs).1
  else if s.op = 5 then mulP (rgA regs s.a) (rgA regs s.b) gs
  else if s.op = 6 then bitsP 4 (rgA regs s.a) (rgA regs s.b) gs
  else if s.op = 7 then bitsP 3 (rgA regs s.a) (rgA regs s.b) gs
  else if s.op = 8 then ((lessP (rgA regs s.a) (rgA regs s.b) gs).1, [(lessP (rgA regs s.a) (rgA regs s.b) gs).2, zero, zero, zero])
  else if s.op = 9 then ((equalP (rgA regs s.a) (rgA regs s.b) gs).1, [(equalP (rgA regs s.a) (rgA regs s.b) gs).2, zero, zero, zero])
  else muxP (at0 (rgA regs s.a) (0 : Nat)) (rgA regs s.b) (rgA regs s.c) gs
/-- What a statement of an unrolled program is, an output apart. -/
structure StC (s : St) : Prop where
  o1 : 1 ≤ s.op
  o2 : s.op ≤ 10
  a : 0 ≤ s.a ∧ s.a < 8
  b : 0 ≤ s.b ∧ s.b < 8
  c : 0 ≤ s.c ∧ s.c < 8
  k : s.op = 1 → 0 ≤ s.n ∧ s.n ≤ 15
  i : s.op = 2 → s.a ≤ 4 ∧ 0 ≤ s.n ∧ s.n ≤ 3

end Go.Proofs.Ytfcijloiebnloaa

/- CmpV -/
namespace Go.Proofs.Ytfcijloiebnloaa
open Go.RowKit
set_option linter.unusedVariables false
set_option linter.unusedSimpArgs false

theorem stG_inv {gs : List Gt} {regs : List (List Int)} {zero : Int} {s : St} (hok : gtsOk 0 gs = true) (hr : ∀ i : Nat, i < 8 → Wrs gs 4 (rgA regs (i : Int))) (hz : 0 ≤ zero ∧ zero < gs.length) (hs : StC s) :
    Bd gs 34 (stG regs zero s gs).1 ∧ Wrs (stG regs zero s gs).1 4 (stG regs zero s gs).2 := by
  obtain ⟨op, dst, sa, sb, sc, sn⟩ := s
  have ha := hs.a
  have hb := hs.b
  have hc := hs.c
  have h1 := hs.o1
  have h2 := hs.o2
  have hi := hs.i
  clear hs
  simp only at ha hb hc h1 h2 hi
  obtain ⟨na, rfl⟩ := Int.eq_ofNat_of_zero_le ha.1
  obtain ⟨nb, rfl⟩ := Int.eq_ofNat_of_zero_le hb.1
  obtain ⟨nc, rfl⟩ := Int.eq_ofNat_of_zero_le hc.1
  have wx := hr na (by omega)
  have wy := hr nb (by omega)
  have wz := hr nc (by omega)
  have four : ∀ {G : List Gt} {x : Int}, Bd gs 34 G → 0 ≤ x ∧ x < G.length → Wrs G 4 [x, zero, zero, zero] := fun {G x} b hx => ⟨rfl, fun j hj => by
    have := b.len
    have : j = 0 ∨ j = 1 ∨ j = 2 ∨ j = 3 := by omega
    rcases this with rfl | rfl | rfl | rfl <;> simp [at0] <;> omega⟩
  have hop : op = 1 ∨ op = 2 ∨ op = 3 ∨ op = 4 ∨ op = 5 ∨ op = 6 ∨ op = 7 ∨ op = 8 ∨ op = 9 ∨ op = 10 := by omega
  rcases hop with rfl | rfl | rfl | rfl | rfl | rfl | rfl | rfl | rfl | rfl
  · have r := constP_inv (n := sn) hok
    exact ⟨r.1.mono (by omega), r.2.1⟩
  · have r := inputP_inv (m := (na : Int) * 4 + sn) hok (by have := hi rfl; omega) (by have := hi rfl; omega)
    exact ⟨r.1.mono (by omega), r.2.1⟩
  · have r := sumP_inv (first := 0) (n := 3) hok wx wy (by omega)
    exact ⟨r.1.mono (by omega), r.2.1⟩
  · have r := sub_val hok wx wy
    exact ⟨r.1.mono (by omega), r.2.1⟩
  · have r := mul_val hok wx wy
    exact ⟨r.1, r.2.1⟩
  · have r := bitsP_inv (kd := 4) (.inr rfl) hok wx wy
    exact ⟨r.1.mono (by omega), r.2.1⟩
  · have r := bitsP_inv (kd := 3) (.inl rfl) hok wx wy
    exact ⟨r.1.mono (by omega), r.2.1⟩
  · have r := less_val hok wx wy
    exact ⟨r.1.mono (by omega), four (r.1.mono (by omega)) r.2.1⟩
  · have r := equal_val hok wx wy
    exact ⟨r.1.mono (by omega), four (r.1.mono (by omega)) r.2.1⟩
  · have r := muxP_inv hok (wx.2 0 (by omega)) wy wz
    exact ⟨r.1.mono (by omega), r.2.1⟩
/-- What a statement of an unrolled program is. -/
structure StU (s : St) : Prop where
  out : s.op = 11 → 0 ≤ s.a ∧ s.a < 8
  st : s.op ≠ 11 → StC s
  dst : 0 ≤ s.dst ∧ s.dst < 8
/-- The gates, the outputs, the registers' words. -/
def cmpStep (zero : Int) (t : List Gt × List Int × List (List Int)) (s : St) : List Gt × List Int × List (List Int) :=
  if s.op = 11 then (t.1, t.2.1 ++ rgA t.2.2 s.a, t.2.2) else ((stG t.2.2 zero s t.1).1, t.2.1, t.2.2.set s.dst.toNat (stG t.2.2 zero s t.1).2)
def cmpL (zero : Int) (us : List St) (t : List Gt × List Int × List (List Int)) : List Gt × List Int × List (List Int) := us.foldl (cmpStep zero) t
theorem cmpL_snoc {zero : Int} {us : List St} {k : Nat} {s : St} (h : us[k]? = some s) (t : List Gt × List Int × List (List Int)) : cmpL zero (us.take (k + 1)) t = cmpStep zero (cmpL zero (us.take k) t) s := by
  unfold cmpL; rw [take_snoc h, List.foldl_append]; rfl
structure COk (zero : Int) (n m : Nat) (t : List Gt × List Int × List (List Int)) : Prop where
  ok : gtsOk 0 t.1 = true
  len : t.1.length ≤ n
  rl : t.2.2.length = 8
  rw : ∀ i : Nat, i < 8 → Wrs t.1 4 (rgA t.2.2 (i : Int))
  z : 0 ≤ zero ∧ zero < t.1.length
  os : ∀ o ∈ t.2.1, 0 ≤ o ∧ o < t.1.length
  ol : t.2.1.length ≤ m
theorem cmpStep_ok {zero : Int} {n m : Nat} {t : List Gt × List Int × List (List Int)} {s : St} (h : COk zero n m t) (hs : StU s) : COk zero (n + 34) (m + 4) (cmpStep zero t s) := by
  unfold cmpStep
  by_cases ho : s.op = 11
  · rw [if_pos ho]
    have ha := hs.out ho
    obtain ⟨na, hna⟩ := Int.eq_ofNat_of_zero_le ha.1
    have hw := h.rw na (by omega)
    refine ⟨h.ok, by have := h.len; simp only; omega, h.rl, h.rw, h.z, fun o hm => ?_, by have := h.ol; have := hw.1; simp only [List.length_append]; rw [hna]; omega⟩
    simp only [List.mem_append] at hm
    rcases hm with hm | hm
    · exact h.os o hm
    · rw [hna] at hm
      obtain ⟨j, hj, e⟩ := List.mem_iff_getElem.1 hm
      have h1 := hw.2 j (by have := hw.1; omega)
      rw [at0_nat] at h1
      simp [List.getD, hj, e] at h1
      exact h1
  · rw [if_neg ho]
    have r := stG_inv h.ok h.rw h.z (hs.st ho)
    have hl := r.1.len
    refine ⟨r.1.ok, by have := h.len; simp only; omega, by simp [h.rl], fun i hi => ?_, ⟨h.z.1, by have := h.z.2; simp only; omega⟩, fun o hm => by have := h.os o hm; simp only; omega, by have := h.ol; simp only; omega⟩
    simp only
    obtain ⟨nd, hnd⟩ := Int.eq_ofNat_of_zero_le hs.dst.1
    have e : rgA (t.2.2.set s.dst.toNat (stG t.2.2 zero s t.1).2) (i : Int) = if nd = i then (stG t.2.2 zero s t.1).2 else rgA t.2.2 (i : Int) := by
      rw [hnd]
      simp only [rgA, Int.toNat_natCast, List.getD, List.getElem?_set]
      by_cases hq : nd = i
      · subst hq; simp [h.rl, hi]
      · simp [hq]
    rw [e]
    split
    · exact r.2
    · exact (h.rw i hi).up r.1
/-- The beginning: the word of the number 0 in each register. -/
def cmp0 : List Gt × List Int × List (List Int) := ((constP 0 []).1, [], List.replicate 8 (constP 0 []).2)
def zero0 : Int := at0 (constP 0 []).2 (0 : Nat)
theorem cmp0_ok : COk zero0 4 0 cmp0 := by
  have r := constP_inv (gs := []) (n := 0) rfl
  have hl := r.1.len
  refine ⟨r.1.ok, by have h := hl.2; simp only [List.length_nil, Nat.zero_add] at h; exact h, rfl, fun i hi => ?_, r.2.1.2 0 (by omega), fun o hm => by simp [cmp0] at hm, Nat.le_refl _⟩
  have e : rgA cmp0.2.2 (i : Int) = (constP 0 []).2 := by
    show (List.replicate 8 (constP 0 []).2).getD (i : Int).toNat [] = _
    rw [Int.toNat_natCast, List.getD_eq_getElem?_getD, List.getElem?_replicate, if_pos hi]; rfl
  rw [e]; exact r.2.1
theorem cmpL_ok {us : List St} (hu : ∀ s ∈ us, StU s) (k : Nat) (hk : k ≤ us.length) : COk zero0 (4 + 34 * k) (4 * k) (cmpL zero0 (us.take k) cmp0) := by
  induction k with
  | zero => exact cmp0_ok
  | succ k ih =>
    have h := cmpStep_ok (ih (by omega)) (hu us[k] (List.getElem_mem (by omega)))
    rw [cmpL_snoc (List.getElem?_eq_getElem (by omega))]
    exact h

end Go.Proofs.Ytfcijloiebnloaa

/- CmpW -/
namespace Go.Proofs.Ytfcijloiebnloaa
open Go.RowKit
set_option linter.unusedVariables false
set_option linter.unusedSimpArgs false

theorem stU_of {s : St} (h : stOk s = true) (h12 : s.op ≠ 12) (h13 : s.op ≠ 13) : StU s := by
  obtain ⟨op, dst, sa, sb, sc, sn⟩ := s
  simp only at h12 h13
  simp only [stOk] at h
  split at h
  · simp [inB] at h; exact ⟨fun e => by simp only at e; omega, fun _ => ⟨by simp only; omega, by simp only; omega, by simp only; omega, by simp only; omega, by simp only; omega, fun _ => by simp only; omega, fun _ => by simp only at *; omega⟩, by simp only; omega⟩
  split at h
  · simp [inB] at h; exact ⟨fun e => by simp only at e; omega, fun _ => ⟨by simp only; omega, by simp only; omega, by simp only; omega, by simp only; omega, by simp only; omega, fun _ => by simp only at *; omega, fun _ => by simp only at *; omega⟩, by simp only; omega⟩
  split at h
  · rename_i h39
    simp [inB] at h h39; exact ⟨fun e => by simp only at e; omega, fun _ => ⟨by simp only; omega, by simp only; omega, by simp only; omega, by simp only; omega, by simp only; omega, fun _ => by simp only at *; omega, fun _ => by simp only at *; omega⟩, by simp only; omega⟩
  split at h
  · simp [inB] at h; exact ⟨fun e => by simp only at e; omega, fun _ => ⟨by simp only; omega, by simp only; omega, by simp only; omega, by simp only; omega, by simp only; omega, fun _ => by simp only at *; omega, fun _ => by simp only at *; omega⟩, by simp only; omega⟩
  split at h
  · rename_i h11
    simp [inB] at h; exact ⟨fun _ => by simp only; omega, fun e => absurd h11 e, by simp only; omega⟩
  simp at h
  exact absurd h.1 h13
/-- A word that neither the building, nor the registers' list gr, nor the outputs' list ao holds. -/
def Ap (w : World) (bx gr : Nat) (ao ad : Option Addr) : Prop := ∀ b off, ad = some ⟨b, off, none⟩ → Frn w bx b ∧ b ≠ gr ∧ ∀ a, ao = some a → b ≠ a.block
structure CS (w0 w : World) (L bx gr cr : Nat) (G : List Gt) (ao : Option Addr) (co : Nat) (O : List Int) (rs : List RV) (rw : RV) : Prop where
  b : Bld w L bx G (.slice ao O.length co)
  o : Own w L 3 1 ao O.length co (I64 O)
  r : Own w L 23 1 (some ⟨gr, 0, none⟩) 8 cr (rvCells rs)
  rl : rs.length = 8
  fo : ∀ a, ao = some a → Frn w bx a.block
  fr : Frn w bx gr
  ne : ∀ a, ao = some a → a.block ≠ gr
  ok : ∀ r ∈ rs, RvOk w (Ap w bx gr ao) r
  wd : RvOk w (Ap w bx gr ao) rw
  l : Below L w0 w
  lw : L ≤ w0.heap.size
theorem RvOk.step {w w2 : World} {bx gr : Nat} {ao : Option Addr} {r : RV} (h : RvOk w (Ap w bx gr ao) r) (hF : Fr bx w w2) : RvOk w2 (Ap w2 bx gr ao) r :=
  ⟨h.len, h.cap, h.rd.keep fun b off e => hF.kp (h.fr b off e).1, fun b off e => ⟨hF.frn (h.fr b off e).1, (h.fr b off e).2⟩⟩
theorem RvOk.set {w : World} {lo bx gr j : Nat} {ao : Option Addr} {G : List Gt} {v x : Value} {r : RV} (h : RvOk w (Ap w bx gr ao) r) (hB : Bld w lo bx G v) (hf : Frn w bx gr) : RvOk (w.setCell ⟨gr, j, none⟩ x) (Ap (w.setCell ⟨gr, j, none⟩ x) bx gr ao) r := by
  have hs : (w.setCell ⟨gr, j, none⟩ x).heap.size = w.heap.size := by simp [World.setCell]
  have hk : ∀ b, b ≠ gr → (w.setCell ⟨gr, j, none⟩ x).heap[b]? = w.heap[b]? := fun b hb => Below.heap_setCell _ _ _ _ hb
  have hm : ∀ b, b = bx ∨ gblk w bx = some b → (w.setCell ⟨gr, j, none⟩ x).heap[b]? = w.heap[b]? := fun b hb => hk b (by
    rintro rfl
    rcases hb with e | e
    · exact hf.2.1 e
    · exact hf.2.2 e)
  exact ⟨h.len, h.cap, h.rd.keep fun b off e => fun hb => ⟨hk b (h.fr b off e).2.1, by rw [hs]; exact hb⟩, fun b off e => ⟨frn_other hB hm (by omega) (h.fr b off e).1, (h.fr b off e).2⟩⟩
theorem rvCells_set (rs : List RV) (j : Nat) (r : RV) : (rvCells rs).set j r.v = rvCells (rs.set j r) := by simp [rvCells, List.map_set]
/-- A statement's word is stored in its register. -/
theorem CS.word {w0 w w2 : World} {L bx gr cr : Nat} {G G' : List Gt} {ao : Option Addr} {co : Nat} {O : List Int} {rs : List RV} {rw : RV} {g c' j : Nat} {X : List Int} (h : CS w0 w L bx gr cr G ao co O rs rw)
    (hb : Bs w w2 L bx G' (.slice ao O.length co) g 4 c' X) (hX : X.length = 4) : CS w0 (w2.setCell ⟨gr, j, none⟩ (.slice (some ⟨g, 0, none⟩) 4 c')) L bx gr cr G' ao co O (rs.set j ⟨some ⟨g, 0, none⟩, c', X⟩) rw := by
  have hf2 := hb.r.frn h.fr
  have hgg := hb.ge
  have hgw := h.fr.1
  have hL := h.b.le
  have hlt := h.r.ge
  have hs : (w2.setCell ⟨gr, j, none⟩ (.slice (some ⟨g, 0, none⟩) 4 c')).heap.size = w2.heap.size := by simp [World.setCell]
  have hk : ∀ b, b ≠ gr → (w2.setCell ⟨gr, j, none⟩ (.slice (some ⟨g, 0, none⟩) 4 c')).heap[b]? = w2.heap[b]? := fun b hb => Below.heap_setCell _ _ _ _ hb
  have hm : ∀ b, b = bx ∨ gblk w2 bx = some b → (w2.setCell ⟨gr, j, none⟩ (.slice (some ⟨g, 0, none⟩) 4 c')).heap[b]? = w2.heap[b]? := fun b hb => hk b (by
    rintro rfl
    rcases hb with e | e
    · exact hf2.2.1 e
    · exact hf2.2.2 e)
  have hnew : RvOk w2 (Ap w2 bx gr ao) ⟨some ⟨g, 0, none⟩, c', X⟩ := ⟨hX, own_cap' hb.o, hb.o.rd, fun b off e => by
    cases e
    refine ⟨hb.f, by omega, fun a ha => ?_⟩
    have := (h.fo a ha).1
    omega⟩
  have o2 : Own w2 L 3 1 ao O.length co (I64 O) := h.o.keep fun a ha => hb.r.kp (h.fo a ha)
  have r2 := (h.r.later (hb.r.kp h.fr)).put j (RV.v ⟨some ⟨g, 0, none⟩, c', X⟩)
  rw [rvCells_set] at r2
  refine ⟨hb.b.other hm (by omega), o2.keep fun a ha hlt => ⟨hk _ (h.ne a ha), by omega⟩, r2, by simp [h.rl], fun a ha => frn_other hb.b hm (by omega) (hb.r.frn (h.fo a ha)), frn_other hb.b hm (by omega) hf2, h.ne, fun r hr => ?_, (h.wd.step hb.r).set hb.b hf2, h.l.trans (hb.l.setCell hlt.1 _), h.lw⟩
  rcases List.mem_or_eq_of_mem_set hr with h1 | rfl
  · exact ((h.ok r h1).step hb.r).set hb.b hf2
  · exact hnew.set hb.b hf2
theorem Bld.setSnd {w : World} {lo bx : Nat} {G : List Gt} {v : Value} (h : Bld w lo bx G v) (v' : Value) : Bld (w.setCell ⟨bx, 1, none⟩ v') lo bx G v' ∧ ∀ b, Frn w bx b → Frn (w.setCell ⟨bx, 1, none⟩ v') bx b := by
  obtain ⟨ad, cap, hc, ho, hne⟩ := h.row
  have hc1 := h.snd
  have f0 := h.f0
  have f1 := h.f1
  have hs : (w.setCell ⟨bx, 1, none⟩ v').heap.size = w.heap.size := by simp [World.setCell]
  have hk : ∀ b, b ≠ bx → (w.setCell ⟨bx, 1, none⟩ v').heap[b]? = w.heap[b]? := fun b hb => Below.heap_setCell _ _ _ _ hb
  have c0 : (w.setCell ⟨bx, 1, none⟩ v').cell? ⟨bx, 0, none⟩ = some (.slice ad G.length cap) := by go_simp
  have c1 : (w.setCell ⟨bx, 1, none⟩ v').cell? ⟨bx, 1, none⟩ = some v' := by go_simp
  have g0 : (w.setCell ⟨bx, 1, none⟩ v').frozen? ⟨bx, 0, none⟩ = false := by go_simp
  have g1 : (w.setCell ⟨bx, 1, none⟩ v').frozen? ⟨bx, 1, none⟩ = false := by go_simp
  have hgk : gblk (w.setCell ⟨bx, 1, none⟩ v') bx = gblk w bx := by unfold gblk; rw [c0, hc]
  exact ⟨⟨by rw [hs]; exact h.lt, h.ge, by rw [hs]; exact h.le, ⟨ad, cap, c0, ho.keep fun a ha hlt => ⟨hk _ (hne a ha), by rw [hs]; exact hlt⟩, hne⟩, c1, g0, g1⟩, fun b hb => ⟨by rw [hs]; exact hb.1, hb.2.1, by rw [hgk]; exact hb.2.2⟩⟩
theorem RvOk.out {w w2 : World} {L bx gr : Nat} {G : List Gt} {v x : Value} {ao : Option Addr} {g' : Nat} {r : RV} (h : RvOk w (Ap w bx gr ao) r) (hB : Bld w L bx G v) (hB2 : Bld w2 L bx G v) (hg : w.grownBy w2 (ao.map (·.block))) (hr : ∀ q, ao.map (·.block) = some q → Frn w bx q)
    (hat : ao = some ⟨g', 0, none⟩ ∨ w.heap.size ≤ g') : RvOk (w2.setCell ⟨bx, 1, none⟩ x) (Ap (w2.setCell ⟨bx, 1, none⟩ x) bx gr (some ⟨g', 0, none⟩)) r := by
  have hs : (w2.setCell ⟨bx, 1, none⟩ x).heap.size = w2.heap.size := by simp [World.setCell]
  have hk : ∀ b, b ≠ bx → (w2.setCell ⟨bx, 1, none⟩ x).heap[b]? = w2.heap[b]? := fun b hb => Below.heap_setCell _ _ _ _ hb
  have hz := hg.size
  refine ⟨h.len, h.cap, h.rd.keep fun b off e hlt => ?_, fun b off e => ?_⟩
  · have f := h.fr b off e
    have e1 := hg.block b hlt (fun q => by
      cases ao with
      | none => cases q
      | some a => exact f.2.2 a rfl (Option.some.inj q))
    exact ⟨(hk b f.1.2.1).trans e1, by rw [hs]; omega⟩
  · have f := h.fr b off e
    refine ⟨(hB2.setSnd x).2 b (frn_grown hB hg hr f.1), f.2.1, fun a ha => ?_⟩
    cases ha
    rcases hat with e2 | e2
    · exact f.2.2 _ e2
    · have := f.1.1; show b ≠ g'; omega
/-- An output's word is appended. -/
theorem CS.out {w0 w w2 : World} {L bx gr cr : Nat} {G : List Gt} {ao : Option Addr} {co : Nat} {O X : List Int} {rs : List RV} {rw : RV} {g' c' : Nat} (h : CS w0 w L bx gr cr G ao co O rs rw)
    (ho : Own w2 L 3 1 (some ⟨g', 0, none⟩) (O ++ X).length c' (I64 (O ++ X))) (hg : w.grownBy w2 (ao.map (·.block))) (hat : ao = some ⟨g', 0, none⟩ ∨ w.heap.size ≤ g') :
    CS w0 (w2.setCell ⟨bx, 1, none⟩ (.slice (some ⟨g', 0, none⟩) (O ++ X).length c')) L bx gr cr G (some ⟨g', 0, none⟩) c' (O ++ X) rs rw := by
  have hr : ∀ q, ao.map (·.block) = some q → Frn w bx q := fun q e => by
    cases ao with
    | none => cases e
    | some a => cases e; exact h.fo a rfl
  have hB2 := h.b.grown hg hr
  have hz := hg.size
  have hbx := h.b.lt
  have hgr := h.fr.1
  have hgL := h.r.ge
  have hlo := h.b.le
  have hge := ho.ge
  have hs : (w2.setCell ⟨bx, 1, none⟩ (.slice (some ⟨g', 0, none⟩) (O ++ X).length c')).heap.size = w2.heap.size := by simp [World.setCell]
  have hk : ∀ b, b ≠ bx → (w2.setCell ⟨bx, 1, none⟩ (.slice (some ⟨g', 0, none⟩) (O ++ X).length c')).heap[b]? = w2.heap[b]? := fun b hb => Below.heap_setCell _ _ _ _ hb
  have hgf : Frn w2 bx g' := by
    rcases hat with e | e
    · exact frn_grown h.b hg hr (h.fo _ e)
    · exact frn_grown_new h.b hg hr e hge.2
  have hgn : g' ≠ gr := by
    rcases hat with e | e
    · exact h.ne _ e
    · omega
  have hrk : Kp gr w w2 := fun hlt => ⟨hg.block gr hlt (fun q => by
    cases ao with
    | none => cases q
    | some a => exact h.ne a rfl (Option.some.inj q).symm), by omega⟩
  have hbl : Below L w w2 := (Below.refl _ _).grown hg hlo (fun q e => by
    cases ao with
    | none => cases e
    | some a => cases e; exact (h.o.blk a rfl).2.2.1)
  have P := hB2.setSnd (.slice (some ⟨g', 0, none⟩) (O ++ X).length c')
  refine ⟨P.1, ho.later fun hlt => ⟨hk _ hgf.2.1, by omega⟩, (h.r.later hrk).later fun hlt => ⟨hk _ h.fr.2.1, by omega⟩, h.rl, fun a ha => ?_, P.2 _ (frn_grown h.b hg hr h.fr), fun a ha => ?_, fun r hr2 => (h.ok r hr2).out h.b hB2 hg hr hat, h.wd.out h.b hB2 hg hr hat, h.l.trans (hbl.setCell h.b.ge _), h.lw⟩
  · cases ha; exact P.2 _ hgf
  · cases ha; exact hgn

end Go.Proofs.Ytfcijloiebnloaa

/- MulS -/
namespace Go.Proofs.Ytfcijloiebnloaa
open Go.RowKit
set_option linter.unusedVariables false
set_option linter.unusedSimpArgs false

set_option maxRecDepth 20000 in
set_option maxHeartbeats 16000000 in
theorem l14Mul_any (gs : List Gt) (v : Value) (lo bx : Nat) (w : World) (hB : Bld w lo bx gs v) (hn : gs.length ≤ 800000) (xs : List Int) (ax : Option Addr) (cx : Nat) (hlx : xs.length = 4) (hrx : RdC w ax (I64 xs)) (hfx : FrA w bx ax) (ys : List Int) (ay : Option Addr) (cy : Nat) (hly : ys.length = 4) (hry : RdC w ay (I64 ys)) (hfy : FrA w bx ay) :
    Calls Try.prog 73 #[.pointer (some ⟨bx, 0, none⟩), .slice ax 4 cx, .slice ay 4 cy] w fun e w' => ∃ g c', e = .returned (.slice (some ⟨g, 0, none⟩) 4 c') ∧ Bs w w' lo bx (mulP xs ys gs).1 v g 4 c' (mulP xs ys gs).2 := by
  have HB := Lib.hid hB
  have hBl := hB.le
  obtain ⟨blx, offx, rfl, hbx, _⟩ := hrx.elem 0 (by omega)
  obtain ⟨bly, offy, rfl, hby, _⟩ := hry.elem 0 (by omega)
  have HRx0 := Lib.hid hrx
  have HRy0 := Lib.hid hry
  have HFx0 := Lib.hid hfx
  have HFy0 := Lib.hid hfy
  have HLx := Lib.hid hlx
  have HLy := Lib.hid hly
  have hy0 : w.cell? ⟨bly, offy, none⟩ = _ := hry.elemAt 0 (by omega)
  obtain ⟨vy0, hvy0⟩ : ∃ z, z = at0 ys ((0 : Nat) : Int) := ⟨_, rfl⟩
  rw [← hvy0] at hy0
  have HVy0 := Lib.hid hvy0
  have HCy0 := Lib.hid hy0
  clear hB hrx hfx hlx hry hfy hly hvy0 hy0
  obtain ⟨W, hW⟩ : ∃ W, W = w.alloc (.cells #[] 3) := ⟨_, rfl⟩
  have HS0 := Lib.hid (show Bs w W lo bx gs v w.heap.size 0 0 [] by rw [hW]; exact Bs.start HB.out)
  go_enter Try.func73, Try.ntmps73
  go_wp2_with fail
  rw [← hW]
  clear hW
  go_loopw [7, 8] (fun u i wr => ∃ (k ct gt : Nat) (G : List Gt) (T : List Int), k ≤ 4 ∧ i = .int .i64 k ∧ u = .slice (some ⟨gt, 0, none⟩) k ct ∧ rnds (fun h k => put1 h ⟨4, vy0, at0 xs k⟩) gs k = (G, T) ∧ Bs w wr lo bx G v gt k ct T) (fun _ i _ => 4 - (intOf i).toNat)
  case atStart => exact ⟨0, 0, _, _, _, Nat.zero_le _, rfl, rfl, rfl, HS0.out⟩
  case round =>
    obtain ⟨k, ct0, gt0, G0, T0, hk, rfl, rfl, hsp, hbs⟩ := hrel
    have hGl := rnds_le (f := fun h k => put1 h ⟨4, vy0, at0 xs k⟩) (m := 1) (by intro h k; simp [put1]) gs k
    rw [hsp] at hGl
    simp only at hGl
    have HSP0 := Lib.hid hsp
    have HBS0 := Lib.hid hbs
    have zr0 := hbs.l.size
    have gtl0 := hbs.ge
    clear hsp hbs
    by_cases hlt : k < 4
    · have hk' : (k : Int) < 4 := by omega
      have hk4 : (k : Int) < 4 := by omega
      have HST := Lib.hid (rnds_succ (fun h k => put1 h ⟨4, vy0, at0 xs k⟩) gs k HSP0.out)
      have hcx := HRx0.out.elemAt k (by rw [HLx.out]; omega)
      obtain ⟨vx, hvx⟩ : ∃ z, z = at0 xs (k : Int) := ⟨_, rfl⟩
      rw [← hvx] at hcx
      have HVx := Lib.hid hvx
      have HCx := Lib.hid hcx
      have hcx0 := HBS0.out.cell (HFx0.out _ _ rfl) HCx.out
      have hcy0 := HBS0.out.cell (HFy0.out _ _ rfl) HCy0.out
      clear hvx hcx
      obtain ⟨G9, e9⟩ : ∃ X, X = G0 ++ [⟨4, vy0, vx⟩] := ⟨_, rfl⟩
      have E9 := Lib.hid e9
      clear e9
      have HN : Hid (rnds (fun h k => put1 h ⟨4, vy0, at0 xs k⟩) gs (k + 1) = (G9, T0 ++ [(G0.length : Int)])) := by show _ = _; rw [HST.out, E9.out, HVx.out]; simp [put1]
      have HPUT : ∀ W, Bld W lo bx G0 v → Calls Try.prog 94 #[.pointer (some ⟨bx, 0, none⟩), .int .i64 4, .int .i64 vy0, .int .i64 vx] W fun e w' => e = .returned (.int .i64 (G0.length : Int)) ∧ Bld w' lo bx G9 v ∧ Fr bx W w' ∧ Below lo W w' := fun W h => by
        have := l14Put_any G0 4 vy0 vx v lo bx W h (by omega)
        rw [← E9.out] at this; exact this
      have HPT := Lib.hid HPUT
      clear HPUT
      go_wp2_with fail
      go_region_held3 (fun w' => w'.cell? ⟨blx, offx + k, none⟩ = some (.int .i64 vx) ∧ w'.cell? ⟨bly, offy, none⟩ = some (.int .i64 vy0)) (first | go_keep)
        (first | (go_at_call 94; refine (HPT.out _ (HBS0.out.drew).b).mono ?_; rintro e w2 ⟨rfl, hB2, hF2, hL2⟩; have S1 := Lib.hid ((HBS0.out.drew).on hB2 hF2 hL2); have z1 : wr.heap.size ≤ w2.heap.size := hL2.size; have hcx1 := S1.out.cell (HFx0.out _ _ rfl) HCx.out; have hcy1 := S1.out.cell (HFy0.out _ _ rfl) HCy0.out; clear hB2 hF2 hL2) | (refine step_push _ rfl (.tmp 18) (.tmp 28) rfl w.heap.size gt0 k ct0 T0 (G0.length : Int) w2.heap.size 1 (by rfl) (by rfl) (S1.out.o.alloc _) (by go_simp) (by omega) (by simp; omega) ?_; intro g6 d6 w8 ho6 hb6 hg6 hat6; have HP := Lib.hid (S1.out.push _ ho6 hb6 hg6 hat6); have hcx2 := HP.out.cell (HFx0.out _ _ rfl) HCx.out; have hcy2 := HP.out.cell (HFy0.out _ _ rfl) HCy0.out; clear ho6 hb6 hg6 hat6))
      all_goals go_wp2_with fail
      all_goals go_roundw
      all_goals first
        | (show _ < _; first | (simp [intOf]; done) | (simp [intOf]; omega))
        | exact ⟨k + 1, d6, g6, _, _, by omega, by go_num, rfl, HN.out, HP.out⟩
        | ((repeat apply Exists.intro); exact ⟨⟨k + 1, d6, g6, _, _, by omega, by go_num, rfl, HN.out, HP.out⟩, rfl⟩)
    · obtain rfl : k = 4 := by omega
      obtain ⟨wr0, hwr⟩ : ∃ X, X = wr := ⟨_, rfl⟩
      subst hwr
      have HM0 : Hid (mulR xs ys gs 0 = (G0, T0)) := by show _ = _; rw [← HSP0.out, HVy0.out]; rfl
      have hlT : T0.length = 4 := by have := rnds_len (fun h k => put1 h ⟨4, vy0, at0 xs k⟩) gs 4; rw [HSP0.out] at this; exact this
      have HLT0 := Lib.hid hlT
      have HSt0 := HBS0
      have hG0 : G0.length ≤ 800004 := by omega
      clear hlT HBS0 HSP0 HS0 hGl HB
      go_wp2_with fail
      refine wp_loop_rounds 4 ?_
      have HRx1 := Lib.hid (HSt0.out.r.rd HFx0.out HRx0.out)
      have HFx1 := Lib.hid (HSt0.out.r.fra HFx0.out)
      have HFy1 := Lib.hid (HSt0.out.r.fra HFy0.out)
      have hy := (HSt0.out.r.rd HFy0.out HRy0.out).elemAt 1 (by rw [HLy.out]; omega)
      obtain ⟨vy1, hvy⟩ : ∃ z, z = at0 ys ((1 : Nat) : Int) := ⟨_, rfl⟩
      rw [← hvy] at hy
      have HVy1 := Lib.hid hvy
      have HCy1 := Lib.hid hy
      clear hvy hy
      have hcap := own_cap' HSt0.out.o
      obtain ⟨W1, hW⟩ : ∃ X, X = wr0.alloc (.cells #[] 3) := ⟨_, rfl⟩
      have HS1 := Lib.hid (show Bs wr0 W1 lo bx G0 v wr0.heap.size 0 0 [] by rw [hW]; exact Bs.start HSt0.out.b)
      rw [rounds_succ]
      go_wp2_with fail
      rw [← hW]
      clear hW
      go_loopw [10, 11] (fun u i wr => ∃ (k ct gt : Nat) (G : List Gt) (T : List Int), k ≤ 3 ∧ i = .int .i64 k ∧ u = .slice (some ⟨gt, 0, none⟩) k ct ∧ rnds (fun h k => put1 h ⟨4, vy1, at0 xs k⟩) G0 k = (G, T) ∧ Bs wr0 wr lo bx G v gt k ct T) (fun _ i _ => 3 - (intOf i).toNat)
      case atStart => exact ⟨0, 0, _, _, _, Nat.zero_le _, rfl, rfl, rfl, HS1.out⟩
      case round =>
        obtain ⟨k, ct1, gt1, G1, T1, hk, rfl, rfl, hsp, hbs⟩ := hrel
        have hGl := rnds_le (f := fun h k => put1 h ⟨4, vy1, at0 xs k⟩) (m := 1) (by intro h k; simp [put1]) G0 k
        rw [hsp] at hGl
        simp only at hGl
        have HSP1 := Lib.hid hsp
        have HBS1 := Lib.hid hbs
        have zr1 := hbs.l.size
        have gtl1 := hbs.ge
        clear hsp hbs
        by_cases hlt : k < 3
        · have hk' : (k : Int) < 3 := by omega
          have hk4 : (k : Int) < 4 := by omega
          have HST := Lib.hid (rnds_succ (fun h k => put1 h ⟨4, vy1, at0 xs k⟩) G0 k HSP1.out)
          have hcx := HRx1.out.elemAt k (by rw [HLx.out]; omega)
          obtain ⟨vx, hvx⟩ : ∃ z, z = at0 xs (k : Int) := ⟨_, rfl⟩
          rw [← hvx] at hcx
          have HVx := Lib.hid hvx
          have HCx := Lib.hid hcx
          have hcx0 := HBS1.out.cell (HFx1.out _ _ rfl) HCx.out
          have hcy0 := HBS1.out.cell (HFy1.out _ _ rfl) HCy1.out
          clear hvx hcx
          obtain ⟨G9, e9⟩ : ∃ X, X = G1 ++ [⟨4, vy1, vx⟩] := ⟨_, rfl⟩
          have E9 := Lib.hid e9
          clear e9
          have HN : Hid (rnds (fun h k => put1 h ⟨4, vy1, at0 xs k⟩) G0 (k + 1) = (G9, T1 ++ [(G1.length : Int)])) := by show _ = _; rw [HST.out, E9.out, HVx.out]; simp [put1]
          have HPUT : ∀ W, Bld W lo bx G1 v → Calls Try.prog 94 #[.pointer (some ⟨bx, 0, none⟩), .int .i64 4, .int .i64 vy1, .int .i64 vx] W fun e w' => e = .returned (.int .i64 (G1.length : Int)) ∧ Bld w' lo bx G9 v ∧ Fr bx W w' ∧ Below lo W w' := fun W h => by
            have := l14Put_any G1 4 vy1 vx v lo bx W h (by omega)
            rw [← E9.out] at this; exact this
          have HPT := Lib.hid HPUT
          clear HPUT
          go_wp2_with fail
          go_region_held3 (fun w' => w'.cell? ⟨blx, offx + k, none⟩ = some (.int .i64 vx) ∧ w'.cell? ⟨bly, offy + 1, none⟩ = some (.int .i64 vy1)) (first | go_keep)
            (first | (go_at_call 94; refine (HPT.out _ (HBS1.out.drew).b).mono ?_; rintro e w2 ⟨rfl, hB2, hF2, hL2⟩; have S1 := Lib.hid ((HBS1.out.drew).on hB2 hF2 hL2); have z1 : wr.heap.size ≤ w2.heap.size := hL2.size; have hcx1 := S1.out.cell (HFx1.out _ _ rfl) HCx.out; have hcy1 := S1.out.cell (HFy1.out _ _ rfl) HCy1.out; clear hB2 hF2 hL2) | (refine step_push _ rfl (.tmp 41) (.tmp 52) rfl wr0.heap.size gt1 k ct1 T1 (G1.length : Int) w2.heap.size 1 (by rfl) (by rfl) (S1.out.o.alloc _) (by go_simp) (by omega) (by simp; omega) ?_; intro g6 d6 w8 ho6 hb6 hg6 hat6; have HP := Lib.hid (S1.out.push _ ho6 hb6 hg6 hat6); have hcx2 := HP.out.cell (HFx1.out _ _ rfl) HCx.out; have hcy2 := HP.out.cell (HFy1.out _ _ rfl) HCy1.out; clear ho6 hb6 hg6 hat6))
          all_goals go_wp2_with fail
          all_goals go_roundw
          all_goals first
            | (show _ < _; first | (simp [intOf]; done) | (simp [intOf]; omega))
            | exact ⟨k + 1, d6, g6, _, _, by omega, by go_num, rfl, HN.out, HP.out⟩
            | ((repeat apply Exists.intro); exact ⟨⟨k + 1, d6, g6, _, _, by omega, by go_num, rfl, HN.out, HP.out⟩, rfl⟩)
        · obtain rfl : k = 3 := by omega
          obtain ⟨wr1, hwr⟩ : ∃ X, X = wr := ⟨_, rfl⟩
          subst hwr
          have hpl : T1.length = 3 := by have := rnds_len (fun h k => put1 h ⟨4, vy1, at0 xs k⟩) G0 3; rw [HSP1.out] at this; exact this
          have HPL1 := Lib.hid hpl
          have hRow : rowP (at0 ys ((0 : Nat) + 1 : Nat)) xs 3 G0 = (G1, T1) := by rw [← HSP1.out, HVy1.out]; rfl
          have HR1 := Lib.hid hRow
          have hown := HSt0.out.o.later (HBS1.out.r.kp HSt0.out.f)
          have HD1 := Lib.hid (rd_drop hown.rd 1)
          have HTk1 := Lib.hid (hown.rd.take 1)
          have hfr := HBS1.out.r.frn HSt0.out.f
          have HFR1 := Lib.hid hfr
          have hG1 : G1.length ≤ G0.length + 3 := by have := rnds_le (f := fun h k => put1 h ⟨4, vy1, at0 xs k⟩) (m := 1) (by intro h k; simp [put1]) G0 3; rw [HSP1.out] at this; simp only at this; omega
          have HDL1 : Hid ((T0.drop 1).length = 3) := by show _ = _; rw [List.length_drop, HLT0.out]
          have HTL1 : Hid ((T0.take 1).length = 1) := by show _ = _; rw [List.length_take, HLT0.out]; rfl
          clear hpl hRow hown hfr
          go_wp2_with fail
          refine (l14Sum2 G1 0 v lo bx _ HBS1.out.b (by omega) (T0.drop 1) (some ⟨gt0, 1, none⟩) (ct0 - 1) HDL1.out HD1.out (fun b off e => by cases e; exact HFR1.out) T1 (some ⟨gt1, 0, none⟩) ct1 HPL1.out HBS1.out.o.rd (fun b off e => by cases e; exact HBS1.out.f)).mono ?_
          rintro e x1 ⟨gh1, ch1, rfl, hs⟩
          obtain ⟨GS1, TS1, hsum⟩ : ∃ a b, sumP (T0.drop 1) T1 0 2 G1 = (a, b) := ⟨_, _, rfl⟩
          rw [hsum] at hs
          have hlen := sumP_len (T0.drop 1) T1 0 2 G1
          rw [hsum] at hlen
          simp only at hlen
          have hSG : GS1.length ≤ G1.length + 20 := by omega
          have HSL1 := Lib.hid hlen.2
          have HM1 : Hid (mulR xs ys gs 1 = (GS1, T0.take 1 ++ TS1)) := by show _ = _; rw [mulR_succ xs ys gs 0 HM0.out HR1.out]; rw [show sumP (T0.drop (0 + 1)) T1 0 (2 - 0) G1 = (GS1, TS1) from hsum]
          have HX1 := Lib.hid hs
          have zx := hs.l.size
          clear hsum hlen hs
          have HTk := Lib.hid (HX1.out.r.rd (fun b off e => by cases e; exact HFR1.out) HTk1.out)
          have zg := HX1.out.ge
          have cA := HTL1.out
          have cB := HSL1.out
          go_wp2_with (first | (refine wpList_appm _ rfl el_int (.tmp 60) (.tmp 63) rfl x1.heap.size x1.heap.size 0 0 [] (I64 (T0.take 1)) (some ⟨gt0, 0, none⟩) 1 ct0 (by rfl) (by rfl) (own_last _ _ _ _ _ rfl (Nat.le_refl _)) (by rw [show (I64 (T0.take 1)).length = (T0.take 1).length from List.length_map .., cA]) (HTk.out.below ((Below.refl _ _).alloc (Nat.le_refl _) _)) (I64_one _) (by intro h; cases h) (by omega) (by omega) (by simp) ?_; intro g7 c7 y7 ho7 hb7 hg7 hat7) | (refine wpList_appm _ rfl el_int (.tmp 64) (.tmp 65) rfl x1.heap.size g7 (0 + 1) c7 _ (I64 TS1) (some ⟨gh1, 0, none⟩) 3 ch1 (by rfl) (by rfl) ho7 (by rw [show (I64 TS1).length = TS1.length from List.length_map .., cB]) (HX1.out.o.later (((Kp.refl _ _).alloc _).grown hg7 (by intro e; have := Option.some.inj e; omega))).rd (I64_one _) (by intro h; cases h) (by omega) (by omega) (by have := hb7.size; simp at this; omega) ?_; intro gm1 cm1 y1 ho8 hb8 hg8 hat8))
          have hbb : Below x1.heap.size x1 y1 := (((Below.refl _ _).alloc (Nat.le_refl _) _).trans hb7).trans hb8
          obtain ⟨Tm1, hTm⟩ : ∃ X, X = T0.take 1 ++ TS1 := ⟨_, rfl⟩
          have h4 : Own y1 x1.heap.size 3 1 (some ⟨gm1, 0, none⟩) 4 cm1 (I64 Tm1) := by rw [hTm, show I64 (T0.take 1 ++ TS1) = [] ++ I64 (T0.take 1) ++ I64 TS1 by simp [I64]]; exact ho8
          have HSt1 := Lib.hid (((HSt0.out.then HBS1.out).then HX1.out).then (Bs.mk_list HX1.out.b hbb h4))
          have HLT1 : Hid (Tm1.length = 4) := by show _ = _; rw [hTm, List.length_append, cA, cB]
          have hM := HM1.out
          rw [← hTm] at hM
          clear HM1
          have HM1 := Lib.hid hM
          clear hM hTm h4 hbb ho8 hb8 hg8 hat8 ho7 hb7 hg7 hat7 HTk cA cB HBS1 HX1 HTk1 HD1 HFR1 HSP1 hk hlt zg zx
          go_wp2_with fail
          have HRx2 := Lib.hid (HSt1.out.r.rd HFx0.out HRx0.out)
          have HFx2 := Lib.hid (HSt1.out.r.fra HFx0.out)
          have HFy2 := Lib.hid (HSt1.out.r.fra HFy0.out)
          have hy := (HSt1.out.r.rd HFy0.out HRy0.out).elemAt 2 (by rw [HLy.out]; omega)
          obtain ⟨vy2, hvy⟩ : ∃ z, z = at0 ys ((2 : Nat) : Int) := ⟨_, rfl⟩
          rw [← hvy] at hy
          have HVy2 := Lib.hid hvy
          have HCy2 := Lib.hid hy
          clear hvy hy
          have hcap := own_cap' HSt1.out.o
          obtain ⟨W2, hW⟩ : ∃ X, X = y1.alloc (.cells #[] 3) := ⟨_, rfl⟩
          have HS2 := Lib.hid (show Bs y1 W2 lo bx GS1 v y1.heap.size 0 0 [] by rw [hW]; exact Bs.start HSt1.out.b)
          rw [rounds_succ]
          go_wp2_with fail
          rw [← hW]
          clear hW
          go_loopw [10, 11] (fun u i wr => ∃ (k ct gt : Nat) (G : List Gt) (T : List Int), k ≤ 2 ∧ i = .int .i64 k ∧ u = .slice (some ⟨gt, 0, none⟩) k ct ∧ rnds (fun h k => put1 h ⟨4, vy2, at0 xs k⟩) GS1 k = (G, T) ∧ Bs y1 wr lo bx G v gt k ct T) (fun _ i _ => 2 - (intOf i).toNat)
          case atStart => exact ⟨0, 0, _, _, _, Nat.zero_le _, rfl, rfl, rfl, HS2.out⟩
          case round =>
            obtain ⟨k, ct2, gt2, G2, T2, hk, rfl, rfl, hsp, hbs⟩ := hrel
            have hGl := rnds_le (f := fun h k => put1 h ⟨4, vy2, at0 xs k⟩) (m := 1) (by intro h k; simp [put1]) GS1 k
            rw [hsp] at hGl
            simp only at hGl
            have HSP2 := Lib.hid hsp
            have HBS2 := Lib.hid hbs
            have zr2 := hbs.l.size
            have gtl2 := hbs.ge
            clear hsp hbs
            by_cases hlt : k < 2
            · have hk' : (k : Int) < 2 := by omega
              have hk4 : (k : Int) < 4 := by omega
              have HST := Lib.hid (rnds_succ (fun h k => put1 h ⟨4, vy2, at0 xs k⟩) GS1 k HSP2.out)
              have hcx := HRx2.out.elemAt k (by rw [HLx.out]; omega)
              obtain ⟨vx, hvx⟩ : ∃ z, z = at0 xs (k : Int) := ⟨_, rfl⟩
              rw [← hvx] at hcx
              have HVx := Lib.hid hvx
              have HCx := Lib.hid hcx
              have hcx0 := HBS2.out.cell (HFx2.out _ _ rfl) HCx.out
              have hcy0 := HBS2.out.cell (HFy2.out _ _ rfl) HCy2.out
              clear hvx hcx
              obtain ⟨G9, e9⟩ : ∃ X, X = G2 ++ [⟨4, vy2, vx⟩] := ⟨_, rfl⟩
              have E9 := Lib.hid e9
              clear e9
              have HN : Hid (rnds (fun h k => put1 h ⟨4, vy2, at0 xs k⟩) GS1 (k + 1) = (G9, T2 ++ [(G2.length : Int)])) := by show _ = _; rw [HST.out, E9.out, HVx.out]; simp [put1]
              have HPUT : ∀ W, Bld W lo bx G2 v → Calls Try.prog 94 #[.pointer (some ⟨bx, 0, none⟩), .int .i64 4, .int .i64 vy2, .int .i64 vx] W fun e w' => e = .returned (.int .i64 (G2.length : Int)) ∧ Bld w' lo bx G9 v ∧ Fr bx W w' ∧ Below lo W w' := fun W h => by
                have := l14Put_any G2 4 vy2 vx v lo bx W h (by omega)
                rw [← E9.out] at this; exact this
              have HPT := Lib.hid HPUT
              clear HPUT
              go_wp2_with fail
              go_region_held3 (fun w' => w'.cell? ⟨blx, offx + k, none⟩ = some (.int .i64 vx) ∧ w'.cell? ⟨bly, offy + 2, none⟩ = some (.int .i64 vy2)) (first | go_keep)
                (first | (go_at_call 94; refine (HPT.out _ (HBS2.out.drew).b).mono ?_; rintro e w2 ⟨rfl, hB2, hF2, hL2⟩; have S1 := Lib.hid ((HBS2.out.drew).on hB2 hF2 hL2); have z1 : wr.heap.size ≤ w2.heap.size := hL2.size; have hcx1 := S1.out.cell (HFx2.out _ _ rfl) HCx.out; have hcy1 := S1.out.cell (HFy2.out _ _ rfl) HCy2.out; clear hB2 hF2 hL2) | (refine step_push _ rfl (.tmp 41) (.tmp 52) rfl y1.heap.size gt2 k ct2 T2 (G2.length : Int) w2.heap.size 1 (by rfl) (by rfl) (S1.out.o.alloc _) (by go_simp) (by omega) (by simp; omega) ?_; intro g6 d6 w8 ho6 hb6 hg6 hat6; have HP := Lib.hid (S1.out.push _ ho6 hb6 hg6 hat6); have hcx2 := HP.out.cell (HFx2.out _ _ rfl) HCx.out; have hcy2 := HP.out.cell (HFy2.out _ _ rfl) HCy2.out; clear ho6 hb6 hg6 hat6))
              all_goals go_wp2_with fail
              all_goals go_roundw
              all_goals first
                | (show _ < _; first | (simp [intOf]; done) | (simp [intOf]; omega))
                | exact ⟨k + 1, d6, g6, _, _, by omega, by go_num, rfl, HN.out, HP.out⟩
                | ((repeat apply Exists.intro); exact ⟨⟨k + 1, d6, g6, _, _, by omega, by go_num, rfl, HN.out, HP.out⟩, rfl⟩)
            · obtain rfl : k = 2 := by omega
              obtain ⟨wr2, hwr⟩ : ∃ X, X = wr := ⟨_, rfl⟩
              subst hwr
              have hpl : T2.length = 2 := by have := rnds_len (fun h k => put1 h ⟨4, vy2, at0 xs k⟩) GS1 2; rw [HSP2.out] at this; exact this
              have HPL2 := Lib.hid hpl
              have hRow : rowP (at0 ys ((1 : Nat) + 1 : Nat)) xs 2 GS1 = (G2, T2) := by rw [← HSP2.out, HVy2.out]; rfl
              have HR2 := Lib.hid hRow
              have hown := HSt1.out.o.later (HBS2.out.r.kp HSt1.out.f)
              have HD2 := Lib.hid (rd_drop hown.rd 2)
              have HTk2 := Lib.hid (hown.rd.take 2)
              have hfr := HBS2.out.r.frn HSt1.out.f
              have HFR2 := Lib.hid hfr
              have hG2 : G2.length ≤ GS1.length + 2 := by have := rnds_le (f := fun h k => put1 h ⟨4, vy2, at0 xs k⟩) (m := 1) (by intro h k; simp [put1]) GS1 2; rw [HSP2.out] at this; simp only at this; omega
              have HDL2 : Hid ((Tm1.drop 2).length = 2) := by show _ = _; rw [List.length_drop, HLT1.out]
              have HTL2 : Hid ((Tm1.take 2).length = 2) := by show _ = _; rw [List.length_take, HLT1.out]; rfl
              clear hpl hRow hown hfr
              go_wp2_with fail
              refine (l14Sum1 G2 0 v lo bx _ HBS2.out.b (by omega) (Tm1.drop 2) (some ⟨gm1, 2, none⟩) (cm1 - 2) HDL2.out HD2.out (fun b off e => by cases e; exact HFR2.out) T2 (some ⟨gt2, 0, none⟩) ct2 HPL2.out HBS2.out.o.rd (fun b off e => by cases e; exact HBS2.out.f)).mono ?_
              rintro e x2 ⟨gh2, ch2, rfl, hs⟩
              obtain ⟨GS2, TS2, hsum⟩ : ∃ a b, sumP (Tm1.drop 2) T2 0 1 G2 = (a, b) := ⟨_, _, rfl⟩
              rw [hsum] at hs
              have hlen := sumP_len (Tm1.drop 2) T2 0 1 G2
              rw [hsum] at hlen
              simp only at hlen
              have hSG : GS2.length ≤ G2.length + 20 := by omega
              have HSL2 := Lib.hid hlen.2
              have HM2 : Hid (mulR xs ys gs 2 = (GS2, Tm1.take 2 ++ TS2)) := by show _ = _; rw [mulR_succ xs ys gs 1 HM1.out HR2.out]; rw [show sumP (Tm1.drop (1 + 1)) T2 0 (2 - 1) G2 = (GS2, TS2) from hsum]
              have HX2 := Lib.hid hs
              have zx := hs.l.size
              clear hsum hlen hs
              have HTk := Lib.hid (HX2.out.r.rd (fun b off e => by cases e; exact HFR2.out) HTk2.out)
              have zg := HX2.out.ge
              have cA := HTL2.out
              have cB := HSL2.out
              go_wp2_with (first | (refine wpList_appm _ rfl el_int (.tmp 60) (.tmp 63) rfl x2.heap.size x2.heap.size 0 0 [] (I64 (Tm1.take 2)) (some ⟨gm1, 0, none⟩) 2 cm1 (by rfl) (by rfl) (own_last _ _ _ _ _ rfl (Nat.le_refl _)) (by rw [show (I64 (Tm1.take 2)).length = (Tm1.take 2).length from List.length_map .., cA]) (HTk.out.below ((Below.refl _ _).alloc (Nat.le_refl _) _)) (I64_one _) (by intro h; cases h) (by omega) (by omega) (by simp) ?_; intro g7 c7 y7 ho7 hb7 hg7 hat7) | (refine wpList_appm _ rfl el_int (.tmp 64) (.tmp 65) rfl x2.heap.size g7 (0 + 2) c7 _ (I64 TS2) (some ⟨gh2, 0, none⟩) 2 ch2 (by rfl) (by rfl) ho7 (by rw [show (I64 TS2).length = TS2.length from List.length_map .., cB]) (HX2.out.o.later (((Kp.refl _ _).alloc _).grown hg7 (by intro e; have := Option.some.inj e; omega))).rd (I64_one _) (by intro h; cases h) (by omega) (by omega) (by have := hb7.size; simp at this; omega) ?_; intro gm2 cm2 y2 ho8 hb8 hg8 hat8))
              have hbb : Below x2.heap.size x2 y2 := (((Below.refl _ _).alloc (Nat.le_refl _) _).trans hb7).trans hb8
              obtain ⟨Tm2, hTm⟩ : ∃ X, X = Tm1.take 2 ++ TS2 := ⟨_, rfl⟩
              have h4 : Own y2 x2.heap.size 3 1 (some ⟨gm2, 0, none⟩) 4 cm2 (I64 Tm2) := by rw [hTm, show I64 (Tm1.take 2 ++ TS2) = [] ++ I64 (Tm1.take 2) ++ I64 TS2 by simp [I64]]; exact ho8
              have HSt2 := Lib.hid (((HSt1.out.then HBS2.out).then HX2.out).then (Bs.mk_list HX2.out.b hbb h4))
              have HLT2 : Hid (Tm2.length = 4) := by show _ = _; rw [hTm, List.length_append, cA, cB]
              have hM := HM2.out
              rw [← hTm] at hM
              clear HM2
              have HM2 := Lib.hid hM
              clear hM hTm h4 hbb ho8 hb8 hg8 hat8 ho7 hb7 hg7 hat7 HTk cA cB HBS2 HX2 HTk2 HD2 HFR2 HSP2 hk hlt zg zx
              go_wp2_with fail
              have HRx3 := Lib.hid (HSt2.out.r.rd HFx0.out HRx0.out)
              have HFx3 := Lib.hid (HSt2.out.r.fra HFx0.out)
              have HFy3 := Lib.hid (HSt2.out.r.fra HFy0.out)
              have hy := (HSt2.out.r.rd HFy0.out HRy0.out).elemAt 3 (by rw [HLy.out]; omega)
              obtain ⟨vy3, hvy⟩ : ∃ z, z = at0 ys ((3 : Nat) : Int) := ⟨_, rfl⟩
              rw [← hvy] at hy
              have HVy3 := Lib.hid hvy
              have HCy3 := Lib.hid hy
              clear hvy hy
              have hcap := own_cap' HSt2.out.o
              obtain ⟨W3, hW⟩ : ∃ X, X = y2.alloc (.cells #[] 3) := ⟨_, rfl⟩
              have HS3 := Lib.hid (show Bs y2 W3 lo bx GS2 v y2.heap.size 0 0 [] by rw [hW]; exact Bs.start HSt2.out.b)
              rw [rounds_succ]
              go_wp2_with fail
              rw [← hW]
              clear hW
              go_loopw [10, 11] (fun u i wr => ∃ (k ct gt : Nat) (G : List Gt) (T : List Int), k ≤ 1 ∧ i = .int .i64 k ∧ u = .slice (some ⟨gt, 0, none⟩) k ct ∧ rnds (fun h k => put1 h ⟨4, vy3, at0 xs k⟩) GS2 k = (G, T) ∧ Bs y2 wr lo bx G v gt k ct T) (fun _ i _ => 1 - (intOf i).toNat)
              case atStart => exact ⟨0, 0, _, _, _, Nat.zero_le _, rfl, rfl, rfl, HS3.out⟩
              case round =>
                obtain ⟨k, ct3, gt3, G3, T3, hk, rfl, rfl, hsp, hbs⟩ := hrel
                have hGl := rnds_le (f := fun h k => put1 h ⟨4, vy3, at0 xs k⟩) (m := 1) (by intro h k; simp [put1]) GS2 k
                rw [hsp] at hGl
                simp only at hGl
                have HSP3 := Lib.hid hsp
                have HBS3 := Lib.hid hbs
                have zr3 := hbs.l.size
                have gtl3 := hbs.ge
                clear hsp hbs
                by_cases hlt : k < 1
                · have hk' : (k : Int) < 1 := by omega
                  have hk4 : (k : Int) < 4 := by omega
                  have HST := Lib.hid (rnds_succ (fun h k => put1 h ⟨4, vy3, at0 xs k⟩) GS2 k HSP3.out)
                  have hcx := HRx3.out.elemAt k (by rw [HLx.out]; omega)
                  obtain ⟨vx, hvx⟩ : ∃ z, z = at0 xs (k : Int) := ⟨_, rfl⟩
                  rw [← hvx] at hcx
                  have HVx := Lib.hid hvx
                  have HCx := Lib.hid hcx
                  have hcx0 := HBS3.out.cell (HFx3.out _ _ rfl) HCx.out
                  have hcy0 := HBS3.out.cell (HFy3.out _ _ rfl) HCy3.out
                  clear hvx hcx
                  obtain ⟨G9, e9⟩ : ∃ X, X = G3 ++ [⟨4, vy3, vx⟩] := ⟨_, rfl⟩
                  have E9 := Lib.hid e9
                  clear e9
                  have HN : Hid (rnds (fun h k => put1 h ⟨4, vy3, at0 xs k⟩) GS2 (k + 1) = (G9, T3 ++ [(G3.length : Int)])) := by show _ = _; rw [HST.out, E9.out, HVx.out]; simp [put1]
                  have HPUT : ∀ W, Bld W lo bx G3 v → Calls Try.prog 94 #[.pointer (some ⟨bx, 0, none⟩), .int .i64 4, .int .i64 vy3, .int .i64 vx] W fun e w' => e = .returned (.int .i64 (G3.length : Int)) ∧ Bld w' lo bx G9 v ∧ Fr bx W w' ∧ Below lo W w' := fun W h => by
                    have := l14Put_any G3 4 vy3 vx v lo bx W h (by omega)
                    rw [← E9.out] at this; exact this
                  have HPT := Lib.hid HPUT
                  clear HPUT
                  go_wp2_with fail
                  go_region_held3 (fun w' => w'.cell? ⟨blx, offx + k, none⟩ = some (.int .i64 vx) ∧ w'.cell? ⟨bly, offy + 3, none⟩ = some (.int .i64 vy3)) (first | go_keep)
                    (first | (go_at_call 94; refine (HPT.out _ (HBS3.out.drew).b).mono ?_; rintro e w2 ⟨rfl, hB2, hF2, hL2⟩; have S1 := Lib.hid ((HBS3.out.drew).on hB2 hF2 hL2); have z1 : wr.heap.size ≤ w2.heap.size := hL2.size; have hcx1 := S1.out.cell (HFx3.out _ _ rfl) HCx.out; have hcy1 := S1.out.cell (HFy3.out _ _ rfl) HCy3.out; clear hB2 hF2 hL2) | (refine step_push _ rfl (.tmp 41) (.tmp 52) rfl y2.heap.size gt3 k ct3 T3 (G3.length : Int) w2.heap.size 1 (by rfl) (by rfl) (S1.out.o.alloc _) (by go_simp) (by omega) (by simp; omega) ?_; intro g6 d6 w8 ho6 hb6 hg6 hat6; have HP := Lib.hid (S1.out.push _ ho6 hb6 hg6 hat6); have hcx2 := HP.out.cell (HFx3.out _ _ rfl) HCx.out; have hcy2 := HP.out.cell (HFy3.out _ _ rfl) HCy3.out; clear ho6 hb6 hg6 hat6))
                  all_goals go_wp2_with fail
                  all_goals go_roundw
                  all_goals first
                    | (show _ < _; first | (simp [intOf]; done) | (simp [intOf]; omega))
                    | exact ⟨k + 1, d6, g6, _, _, by omega, by go_num, rfl, HN.out, HP.out⟩
                    | ((repeat apply Exists.intro); exact ⟨⟨k + 1, d6, g6, _, _, by omega, by go_num, rfl, HN.out, HP.out⟩, rfl⟩)
                · obtain rfl : k = 1 := by omega
                  obtain ⟨wr3, hwr⟩ : ∃ X, X = wr := ⟨_, rfl⟩
                  subst hwr
                  have hpl : T3.length = 1 := by have := rnds_len (fun h k => put1 h ⟨4, vy3, at0 xs k⟩) GS2 1; rw [HSP3.out] at this; exact this
                  have HPL3 := Lib.hid hpl
                  have hRow : rowP (at0 ys ((2 : Nat) + 1 : Nat)) xs 1 GS2 = (G3, T3) := by rw [← HSP3.out, HVy3.out]; rfl
                  have HR3 := Lib.hid hRow
                  have hown := HSt2.out.o.later (HBS3.out.r.kp HSt2.out.f)
                  have HD3 := Lib.hid (rd_drop hown.rd 3)
                  have HTk3 := Lib.hid (hown.rd.take 3)
                  have hfr := HBS3.out.r.frn HSt2.out.f
                  have HFR3 := Lib.hid hfr
                  have hG3 : G3.length ≤ GS2.length + 1 := by have := rnds_le (f := fun h k => put1 h ⟨4, vy3, at0 xs k⟩) (m := 1) (by intro h k; simp [put1]) GS2 1; rw [HSP3.out] at this; simp only at this; omega
                  have HDL3 : Hid ((Tm2.drop 3).length = 1) := by show _ = _; rw [List.length_drop, HLT2.out]
                  have HTL3 : Hid ((Tm2.take 3).length = 3) := by show _ = _; rw [List.length_take, HLT2.out]; rfl
                  clear hpl hRow hown hfr
                  go_wp2_with fail
                  refine (l14Sum0 G3 0 v lo bx _ HBS3.out.b (by omega) (Tm2.drop 3) (some ⟨gm2, 3, none⟩) (cm2 - 3) HDL3.out HD3.out (fun b off e => by cases e; exact HFR3.out) T3 (some ⟨gt3, 0, none⟩) ct3 HPL3.out HBS3.out.o.rd (fun b off e => by cases e; exact HBS3.out.f)).mono ?_
                  rintro e x3 ⟨gh3, ch3, rfl, hs⟩
                  obtain ⟨GS3, TS3, hsum⟩ : ∃ a b, sumP (Tm2.drop 3) T3 0 0 G3 = (a, b) := ⟨_, _, rfl⟩
                  rw [hsum] at hs
                  have hlen := sumP_len (Tm2.drop 3) T3 0 0 G3
                  rw [hsum] at hlen
                  simp only at hlen
                  have hSG : GS3.length ≤ G3.length + 20 := by omega
                  have HSL3 := Lib.hid hlen.2
                  have HM3 : Hid (mulR xs ys gs 3 = (GS3, Tm2.take 3 ++ TS3)) := by show _ = _; rw [mulR_succ xs ys gs 2 HM2.out HR3.out]; rw [show sumP (Tm2.drop (2 + 1)) T3 0 (2 - 2) G3 = (GS3, TS3) from hsum]
                  have HX3 := Lib.hid hs
                  have zx := hs.l.size
                  clear hsum hlen hs
                  have HTk := Lib.hid (HX3.out.r.rd (fun b off e => by cases e; exact HFR3.out) HTk3.out)
                  have zg := HX3.out.ge
                  have cA := HTL3.out
                  have cB := HSL3.out
                  go_wp2_with (first | (refine wpList_appm _ rfl el_int (.tmp 60) (.tmp 63) rfl x3.heap.size x3.heap.size 0 0 [] (I64 (Tm2.take 3)) (some ⟨gm2, 0, none⟩) 3 cm2 (by rfl) (by rfl) (own_last _ _ _ _ _ rfl (Nat.le_refl _)) (by rw [show (I64 (Tm2.take 3)).length = (Tm2.take 3).length from List.length_map .., cA]) (HTk.out.below ((Below.refl _ _).alloc (Nat.le_refl _) _)) (I64_one _) (by intro h; cases h) (by omega) (by omega) (by simp) ?_; intro g7 c7 y7 ho7 hb7 hg7 hat7) | (refine wpList_appm _ rfl el_int (.tmp 64) (.tmp 65) rfl x3.heap.size g7 (0 + 3) c7 _ (I64 TS3) (some ⟨gh3, 0, none⟩) 1 ch3 (by rfl) (by rfl) ho7 (by rw [show (I64 TS3).length = TS3.length from List.length_map .., cB]) (HX3.out.o.later (((Kp.refl _ _).alloc _).grown hg7 (by intro e; have := Option.some.inj e; omega))).rd (I64_one _) (by intro h; cases h) (by omega) (by omega) (by have := hb7.size; simp at this; omega) ?_; intro gm3 cm3 y3 ho8 hb8 hg8 hat8))
                  have hbb : Below x3.heap.size x3 y3 := (((Below.refl _ _).alloc (Nat.le_refl _) _).trans hb7).trans hb8
                  obtain ⟨Tm3, hTm⟩ : ∃ X, X = Tm2.take 3 ++ TS3 := ⟨_, rfl⟩
                  have h4 : Own y3 x3.heap.size 3 1 (some ⟨gm3, 0, none⟩) 4 cm3 (I64 Tm3) := by rw [hTm, show I64 (Tm2.take 3 ++ TS3) = [] ++ I64 (Tm2.take 3) ++ I64 TS3 by simp [I64]]; exact ho8
                  have HSt3 := Lib.hid (((HSt2.out.then HBS3.out).then HX3.out).then (Bs.mk_list HX3.out.b hbb h4))
                  have HLT3 : Hid (Tm3.length = 4) := by show _ = _; rw [hTm, List.length_append, cA, cB]
                  have hM := HM3.out
                  rw [← hTm] at hM
                  clear HM3
                  have HM3 := Lib.hid hM
                  clear hM hTm h4 hbb ho8 hb8 hg8 hat8 ho7 hb7 hg7 hat7 HTk cA cB HBS3 HX3 HTk3 HD3 HFR3 HSP3 hk hlt zg zx
                  go_wp2_with fail
                  rw [rounds_succ]
                  go_wp2_with fail
                  go_ret
                  have hp : mulP xs ys gs = (GS3, Tm3) := HM3.out
                  exact ⟨gm3, cm3, rfl, by rw [hp]; exact HSt3.out⟩
end Go.Proofs.Ytfcijloiebnloaa

/- CmpS -/
namespace Go.Proofs.Ytfcijloiebnloaa
open Go.RowKit
set_option linter.unusedVariables false
set_option linter.unusedSimpArgs false

set_option maxRecDepth 20000 in
set_option maxHeartbeats 4000000 in
theorem l15W1 (dst sa sb sc sn : Int) (hs : StC ⟨1, dst, sa, sb, sc, sn⟩) (gs : List Gt) (v : Value) (lo bx : Nat) (w : World) (hB : Bld w lo bx gs v) (hn : gs.length ≤ 700000) (rs : List RV) (hl : rs.length = 8) (ra : Option Addr) (rc : Nat) (hra : RdC w ra (rvCells rs)) (hrf : FrA w bx ra) (hok : ∀ r ∈ rs, RvOk w (FrA w bx) r) (zero : Int) :
    Calls Try.prog 75 #[.pointer (some ⟨bx, 0, none⟩), .slice ra 8 rc, .agg #[.int .i64 1, .int .i64 dst, .int .i64 sa, .int .i64 sb, .int .i64 sc, .int .i64 sn], .int .i64 zero] w fun e w' => ∃ g c', e = .returned (.slice (some ⟨g, 0, none⟩) 4 c') ∧ Bs w w' lo bx (stG (regsOf rs) zero ⟨1, dst, sa, sb, sc, sn⟩ gs).1 v g 4 c' (stG (regsOf rs) zero ⟨1, dst, sa, sb, sc, sn⟩ gs).2 := by
  have HB := Lib.hid hB
  have hBl := hB.le
  have hbx := hB.lt
  clear hB
  have ha := hs.a
  have hb := hs.b
  have hc := hs.c
  have hk := hs.k
  have hi := hs.i
  clear hs
  simp only at ha hb hc hk hi
  obtain ⟨na, rfl⟩ := Int.eq_ofNat_of_zero_le ha.1
  obtain ⟨nb, rfl⟩ := Int.eq_ofNat_of_zero_le hb.1
  obtain ⟨nc, rfl⟩ := Int.eq_ofNat_of_zero_le hc.1
  obtain ⟨bl, off, ax, cx, xs, rfl, hbl, ka, HX, HLx, hcx, hrx, hfx⟩ := hra.rv hok na (by omega)
  obtain ⟨bl2, off2, ay, cy, ys, e2, _, kb, HY, HLy, hcy, hry, hfy⟩ := hra.rv hok nb (by omega)
  cases e2
  obtain ⟨bl3, off3, az, cz, zs, e3, _, kc, HZ, HLz, hcz, hrz, hfz⟩ := hra.rv hok nc (by omega)
  cases e3
  have hna : (na : Int) < 8 := by omega
  have hnb : (nb : Int) < 8 := by omega
  have hnc : (nc : Int) < 8 := by omega
  have h7 := and7 na (by omega)
  have nw : bl ≠ w.heap.size := by omega
  have HRA := Lib.hid hra
  have HFRA := Lib.hid hrf
  have HRX := Lib.hid hrx
  have HRY := Lib.hid hry
  have HRZ := Lib.hid hrz
  have HFX := Lib.hid hfx
  have HFY := Lib.hid hfy
  have HFZ := Lib.hid hfz
  have HLX := Lib.hid HLx
  have HLY := Lib.hid HLy
  have HLZ := Lib.hid HLz
  have hW : Below w.heap.size w (w.alloc (.cells #[.int .i64 1, .int .i64 dst, .int .i64 na, .int .i64 nb, .int .i64 nc, .int .i64 sn] 90)) := (Below.refl _ _).alloc (Nat.le_refl _) _
  have HW := Lib.hid hW
  have HXX := Lib.hid HX
  have HYY := Lib.hid HY
  have HZZ := Lib.hid HZ
  clear hra hrf hrx hry hrz hfx hfy hfz HLx HLy HLz hW HX HY HZ hok
  go_enter Try.func75, Try.ntmps75
  go_wp2_with fail
  refine (l14Const_any gs sn (hk trivial).1 (hk trivial).2 v lo bx _ (HB.out.below HW.out) (by omega)).mono ?_
  rintro e w2 ⟨g, c', rfl, h2⟩
  go_wp2_with fail
  go_ret
  exact ⟨g, c', rfl, by simp only [stG, HXX.out, HYY.out, HZZ.out]; exact Bs.back HB.out HW.out h2⟩


set_option maxRecDepth 20000 in
set_option maxHeartbeats 4000000 in
theorem l15W3 (dst sa sb sc sn : Int) (hs : StC ⟨3, dst, sa, sb, sc, sn⟩) (gs : List Gt) (v : Value) (lo bx : Nat) (w : World) (hB : Bld w lo bx gs v) (hn : gs.length ≤ 700000) (rs : List RV) (hl : rs.length = 8) (ra : Option Addr) (rc : Nat) (hra : RdC w ra (rvCells rs)) (hrf : FrA w bx ra) (hok : ∀ r ∈ rs, RvOk w (FrA w bx) r) (zero : Int) :
    Calls Try.prog 75 #[.pointer (some ⟨bx, 0, none⟩), .slice ra 8 rc, .agg #[.int .i64 3, .int .i64 dst, .int .i64 sa, .int .i64 sb, .int .i64 sc, .int .i64 sn], .int .i64 zero] w fun e w' => ∃ g c', e = .returned (.slice (some ⟨g, 0, none⟩) 4 c') ∧ Bs w w' lo bx (stG (regsOf rs) zero ⟨3, dst, sa, sb, sc, sn⟩ gs).1 v g 4 c' (stG (regsOf rs) zero ⟨3, dst, sa, sb, sc, sn⟩ gs).2 := by
  have HB := Lib.hid hB
  have hBl := hB.le
  have hbx := hB.lt
  clear hB
  have ha := hs.a
  have hb := hs.b
  have hc := hs.c
  have hk := hs.k
  have hi := hs.i
  clear hs
  simp only at ha hb hc hk hi
  obtain ⟨na, rfl⟩ := Int.eq_ofNat_of_zero_le ha.1
  obtain ⟨nb, rfl⟩ := Int.eq_ofNat_of_zero_le hb.1
  obtain ⟨nc, rfl⟩ := Int.eq_ofNat_of_zero_le hc.1
  obtain ⟨bl, off, ax, cx, xs, rfl, hbl, ka, HX, HLx, hcx, hrx, hfx⟩ := hra.rv hok na (by omega)
  obtain ⟨bl2, off2, ay, cy, ys, e2, _, kb, HY, HLy, hcy, hry, hfy⟩ := hra.rv hok nb (by omega)
  cases e2
  obtain ⟨bl3, off3, az, cz, zs, e3, _, kc, HZ, HLz, hcz, hrz, hfz⟩ := hra.rv hok nc (by omega)
  cases e3
  have hna : (na : Int) < 8 := by omega
  have hnb : (nb : Int) < 8 := by omega
  have hnc : (nc : Int) < 8 := by omega
  have h7 := and7 na (by omega)
  have nw : bl ≠ w.heap.size := by omega
  have HRA := Lib.hid hra
  have HFRA := Lib.hid hrf
  have HRX := Lib.hid hrx
  have HRY := Lib.hid hry
  have HRZ := Lib.hid hrz
  have HFX := Lib.hid hfx
  have HFY := Lib.hid hfy
  have HFZ := Lib.hid hfz
  have HLX := Lib.hid HLx
  have HLY := Lib.hid HLy
  have HLZ := Lib.hid HLz
  have hW : Below w.heap.size w (w.alloc (.cells #[.int .i64 3, .int .i64 dst, .int .i64 na, .int .i64 nb, .int .i64 nc, .int .i64 sn] 90)) := (Below.refl _ _).alloc (Nat.le_refl _) _
  have HW := Lib.hid hW
  have HXX := Lib.hid HX
  have HYY := Lib.hid HY
  have HZZ := Lib.hid HZ
  clear hra hrf hrx hry hrz hfx hfy hfz HLx HLy HLz hW HX HY HZ hok
  go_enter Try.func75, Try.ntmps75
  go_wp2_with fail
  refine (l14Sum3 gs 0 v lo bx _ (HB.out.below HW.out) (by omega) xs ax cx HLX.out (HRX.out.below HW.out) (FrA.below HB.out HW.out HFX.out) ys ay cy HLY.out (HRY.out.below HW.out) (FrA.below HB.out HW.out HFY.out)).mono ?_
  rintro e w2 ⟨g, c', rfl, h2⟩
  go_wp2_with fail
  go_ret
  exact ⟨g, c', rfl, by simp only [stG, HXX.out, HYY.out, HZZ.out]; exact Bs.back HB.out HW.out h2⟩


set_option maxRecDepth 20000 in
set_option maxHeartbeats 4000000 in
theorem l15W4 (dst sa sb sc sn : Int) (hs : StC ⟨4, dst, sa, sb, sc, sn⟩) (gs : List Gt) (v : Value) (lo bx : Nat) (w : World) (hB : Bld w lo bx gs v) (hn : gs.length ≤ 700000) (rs : List RV) (hl : rs.length = 8) (ra : Option Addr) (rc : Nat) (hra : RdC w ra (rvCells rs)) (hrf : FrA w bx ra) (hok : ∀ r ∈ rs, RvOk w (FrA w bx) r) (zero : Int) :
    Calls Try.prog 75 #[.pointer (some ⟨bx, 0, none⟩), .slice ra 8 rc, .agg #[.int .i64 4, .int .i64 dst, .int .i64 sa, .int .i64 sb, .int .i64 sc, .int .i64 sn], .int .i64 zero] w fun e w' => ∃ g c', e = .returned (.slice (some ⟨g, 0, none⟩) 4 c') ∧ Bs w w' lo bx (stG (regsOf rs) zero ⟨4, dst, sa, sb, sc, sn⟩ gs).1 v g 4 c' (stG (regsOf rs) zero ⟨4, dst, sa, sb, sc, sn⟩ gs).2 := by
  have HB := Lib.hid hB
  have hBl := hB.le
  have hbx := hB.lt
  clear hB
  have ha := hs.a
  have hb := hs.b
  have hc := hs.c
  have hk := hs.k
  have hi := hs.i
  clear hs
  simp only at ha hb hc hk hi
  obtain ⟨na, rfl⟩ := Int.eq_ofNat_of_zero_le ha.1
  obtain ⟨nb, rfl⟩ := Int.eq_ofNat_of_zero_le hb.1
  obtain ⟨nc, rfl⟩ := Int.eq_ofNat_of_zero_le hc.1
  obtain ⟨bl, off, ax, cx, xs, rfl, hbl, ka, HX, HLx, hcx, hrx, hfx⟩ := hra.rv hok na (by omega)
  obtain ⟨bl2, off2, ay, cy, ys, e2, _, kb, HY, HLy, hcy, hry, hfy⟩ := hra.rv hok nb (by omega)
  cases e2
  obtain ⟨bl3, off3, az, cz, zs, e3, _, kc, HZ, HLz, hcz, hrz, hfz⟩ := hra.rv hok nc (by omega)
  cases e3
  have hna : (na : Int) < 8 := by omega
  have hnb : (nb : Int) < 8 := by omega
  have hnc : (nc : Int) < 8 := by omega
  have h7 := and7 na (by omega)
  have nw : bl ≠ w.heap.size := by omega
  have HRA := Lib.hid hra
  have HFRA := Lib.hid hrf
  have HRX := Lib.hid hrx
  have HRY := Lib.hid hry
  have HRZ := Lib.hid hrz
  have HFX := Lib.hid hfx
  have HFY := Lib.hid hfy
  have HFZ := Lib.hid hfz
  have HLX := Lib.hid HLx
  have HLY := Lib.hid HLy
  have HLZ := Lib.hid HLz
  have hW : Below w.heap.size w (w.alloc (.cells #[.int .i64 4, .int .i64 dst, .int .i64 na, .int .i64 nb, .int .i64 nc, .int .i64 sn] 90)) := (Below.refl _ _).alloc (Nat.le_refl _) _
  have HW := Lib.hid hW
  have HXX := Lib.hid HX
  have HYY := Lib.hid HY
  have HZZ := Lib.hid HZ
  clear hra hrf hrx hry hrz hfx hfy hfz HLx HLy HLz hW HX HY HZ hok
  go_enter Try.func75, Try.ntmps75
  go_wp2_with fail
  refine (l14Nots_any gs v lo bx _ (HB.out.below HW.out) (by omega) ys ay cy HLY.out (HRY.out.below HW.out) (FrA.below HB.out HW.out HFY.out)).mono ?_
  rintro e w2 ⟨g1, c1, rfl, h1⟩
  have H1 := Lib.hid h1
  clear h1
  have hl1 := (notsP_len ys gs).1
  go_wp2_with fail
  refine (l14Sum3 _ 1 v lo bx _ H1.out.b (by omega) xs ax cx HLX.out (H1.out.r.rd (FrA.below HB.out HW.out HFX.out) (HRX.out.below HW.out)) (H1.out.r.fra (FrA.below HB.out HW.out HFX.out)) (notsP ys gs).2 (some ⟨g1, 0, none⟩) c1 (notsP_len ys gs).2 H1.out.o.rd (fun b off e => by cases e; exact H1.out.f)).mono ?_
  rintro e w3 ⟨g, c', rfl, h3⟩
  have h2 := H1.out.then h3
  clear h3
  go_wp2_with fail
  go_ret
  exact ⟨g, c', rfl, by simp only [stG, HXX.out, HYY.out, HZZ.out]; exact Bs.back HB.out HW.out h2⟩


set_option maxRecDepth 20000 in
set_option maxHeartbeats 4000000 in
theorem l15W5 (dst sa sb sc sn : Int) (hs : StC ⟨5, dst, sa, sb, sc, sn⟩) (gs : List Gt) (v : Value) (lo bx : Nat) (w : World) (hB : Bld w lo bx gs v) (hn : gs.length ≤ 700000) (rs : List RV) (hl : rs.length = 8) (ra : Option Addr) (rc : Nat) (hra : RdC w ra (rvCells rs)) (hrf : FrA w bx ra) (hok : ∀ r ∈ rs, RvOk w (FrA w bx) r) (zero : Int) :
    Calls Try.prog 75 #[.pointer (some ⟨bx, 0, none⟩), .slice ra 8 rc, .agg #[.int .i64 5, .int .i64 dst, .int .i64 sa, .int .i64 sb, .int .i64 sc, .int .i64 sn], .int .i64 zero] w fun e w' => ∃ g c', e = .returned (.slice (some ⟨g, 0, none⟩) 4 c') ∧ Bs w w' lo bx (stG (regsOf rs) zero ⟨5, dst, sa, sb, sc, sn⟩ gs).1 v g 4 c' (stG (regsOf rs) zero ⟨5, dst, sa, sb, sc, sn⟩ gs).2 := by
  have HB := Lib.hid hB
  have hBl := hB.le
  have hbx := hB.lt
  clear hB
  have ha := hs.a
  have hb := hs.b
  have hc := hs.c
  have hk := hs.k
  have hi := hs.i
  clear hs
  simp only at ha hb hc hk hi
  obtain ⟨na, rfl⟩ := Int.eq_ofNat_of_zero_le ha.1
  obtain ⟨nb, rfl⟩ := Int.eq_ofNat_of_zero_le hb.1
  obtain ⟨nc, rfl⟩ := Int.eq_ofNat_of_zero_le hc.1
  obtain ⟨bl, off, ax, cx, xs, rfl, hbl, ka, HX, HLx, hcx, hrx, hfx⟩ := hra.rv hok na (by omega)
  obtain ⟨bl2, off2, ay, cy, ys, e2, _, kb, HY, HLy, hcy, hry, hfy⟩ := hra.rv hok nb (by omega)
  cases e2
  obtain ⟨bl3, off3, az, cz, zs, e3, _, kc, HZ, HLz, hcz, hrz, hfz⟩ := hra.rv hok nc (by omega)
  cases e3
  have hna : (na : Int) < 8 := by omega
  have hnb : (nb : Int) < 8 := by omega
  have hnc : (nc : Int) < 8 := by omega
  have h7 := and7 na (by omega)
  have nw : bl ≠ w.heap.size := by omega
  have HRA := Lib.hid hra
  have HFRA := Lib.hid hrf
  have HRX := Lib.hid hrx
  have HRY := Lib.hid hry
  have HRZ := Lib.hid hrz
  have HFX := Lib.hid hfx
  have HFY := Lib.hid hfy
  have HFZ := Lib.hid hfz
  have HLX := Lib.hid HLx
  have HLY := Lib.hid HLy
  have HLZ := Lib.hid HLz
  have hW : Below w.heap.size w (w.alloc (.cells #[.int .i64 5, .int .i64 dst, .int .i64 na, .int .i64 nb, .int .i64 nc, .int .i64 sn] 90)) := (Below.refl _ _).alloc (Nat.le_refl _) _
  have HW := Lib.hid hW
  have HXX := Lib.hid HX
  have HYY := Lib.hid HY
  have HZZ := Lib.hid HZ
  clear hra hrf hrx hry hrz hfx hfy hfz HLx HLy HLz hW HX HY HZ hok
  go_enter Try.func75, Try.ntmps75
  go_wp2_with fail
  refine (l14Mul_any gs v lo bx _ (HB.out.below HW.out) (by omega) xs ax cx HLX.out (HRX.out.below HW.out) (FrA.below HB.out HW.out HFX.out) ys ay cy HLY.out (HRY.out.below HW.out) (FrA.below HB.out HW.out HFY.out)).mono ?_
  rintro e w2 ⟨g, c', rfl, h2⟩
  go_wp2_with fail
  go_ret
  exact ⟨g, c', rfl, by simp only [stG, HXX.out, HYY.out, HZZ.out]; exact Bs.back HB.out HW.out h2⟩


set_option maxRecDepth 20000 in
set_option maxHeartbeats 4000000 in
theorem l15W6 (dst sa sb sc sn : Int) (hs : StC ⟨6, dst, sa, sb, sc, sn⟩) (gs : List Gt) (v : Value) (lo bx : Nat) (w : World) (hB : Bld w lo bx gs v) (hn : gs.length ≤ 700000) (rs : List RV) (hl : rs.length = 8) (ra : Option Addr) (rc : Nat) (hra : RdC w ra (rvCells rs)) (hrf : FrA w bx ra) (hok : ∀ r ∈ rs, RvOk w (FrA w bx) r) (zero : Int) :
    Calls Try.prog 75 #[.pointer (some ⟨bx, 0, none⟩), .slice ra 8 rc, .agg #[.int .i64 6, .int .i64 dst, .int .i64 sa, .int .i64 sb, .int .i64 sc, .int .i64 sn], .int .i64 zero] w fun e w' => ∃ g c', e = .returned (.slice (some ⟨g, 0, none⟩) 4 c') ∧ Bs w w' lo bx (stG (regsOf rs) zero ⟨6, dst, sa, sb, sc, sn⟩ gs).1 v g 4 c' (stG (regsOf rs) zero ⟨6, dst, sa, sb, sc, sn⟩ gs).2 := by
  have HB := Lib.hid hB
  have hBl := hB.le
  have hbx := hB.lt
  clear hB
  have ha := hs.a
  have hb := hs.b
  have hc := hs.c
  have hk := hs.k
  have hi := hs.i
  clear hs
  simp only at ha hb hc hk hi
  obtain ⟨na, rfl⟩ := Int.eq_ofNat_of_zero_le ha.1
  obtain ⟨nb, rfl⟩ := Int.eq_ofNat_of_zero_le hb.1
  obtain ⟨nc, rfl⟩ := Int.eq_ofNat_of_zero_le hc.1
  obtain ⟨bl, off, ax, cx, xs, rfl, hbl, ka, HX, HLx, hcx, hrx, hfx⟩ := hra.rv hok na (by omega)
  obtain ⟨bl2, off2, ay, cy, ys, e2, _, kb, HY, HLy, hcy, hry, hfy⟩ := hra.rv hok nb (by omega)
  cases e2
  obtain ⟨bl3, off3, az, cz, zs, e3, _, kc, HZ, HLz, hcz, hrz, hfz⟩ := hra.rv hok nc (by omega)
  cases e3
  have hna : (na : Int) < 8 := by omega
  have hnb : (nb : Int) < 8 := by omega
  have hnc : (nc : Int) < 8 := by omega
  have h7 := and7 na (by omega)
  have nw : bl ≠ w.heap.size := by omega
  have HRA := Lib.hid hra
  have HFRA := Lib.hid hrf
  have HRX := Lib.hid hrx
  have HRY := Lib.hid hry
  have HRZ := Lib.hid hrz
  have HFX := Lib.hid hfx
  have HFY := Lib.hid hfy
  have HFZ := Lib.hid hfz
  have HLX := Lib.hid HLx
  have HLY := Lib.hid HLy
  have HLZ := Lib.hid HLz
  have hW : Below w.heap.size w (w.alloc (.cells #[.int .i64 6, .int .i64 dst, .int .i64 na, .int .i64 nb, .int .i64 nc, .int .i64 sn] 90)) := (Below.refl _ _).alloc (Nat.le_refl _) _
  have HW := Lib.hid hW
  have HXX := Lib.hid HX
  have HYY := Lib.hid HY
  have HZZ := Lib.hid HZ
  clear hra hrf hrx hry hrz hfx hfy hfz HLx HLy HLz hW HX HY HZ hok
  go_enter Try.func75, Try.ntmps75
  go_wp2_with fail
  refine (l15Bits_any gs 4 v lo bx _ (HB.out.below HW.out) (by omega) xs ax cx HLX.out (HRX.out.below HW.out) (FrA.below HB.out HW.out HFX.out) ys ay cy HLY.out (HRY.out.below HW.out) (FrA.below HB.out HW.out HFY.out)).mono ?_
  rintro e w2 ⟨g, c', rfl, h2⟩
  go_wp2_with fail
  go_ret
  exact ⟨g, c', rfl, by simp only [stG, HXX.out, HYY.out, HZZ.out]; exact Bs.back HB.out HW.out h2⟩


set_option maxRecDepth 20000 in
set_option maxHeartbeats 4000000 in
theorem l15W7 (dst sa sb sc sn : Int) (hs : StC ⟨7, dst, sa, sb, sc, sn⟩) (gs : List Gt) (v : Value) (lo bx : Nat) (w : World) (hB : Bld w lo bx gs v) (hn : gs.length ≤ 700000) (rs : List RV) (hl : rs.length = 8) (ra : Option Addr) (rc : Nat) (hra : RdC w ra (rvCells rs)) (hrf : FrA w bx ra) (hok : ∀ r ∈ rs, RvOk w (FrA w bx) r) (zero : Int) :
    Calls Try.prog 75 #[.pointer (some ⟨bx, 0, none⟩), .slice ra 8 rc, .agg #[.int .i64 7, .int .i64 dst, .int .i64 sa, .int .i64 sb, .int .i64 sc, .int .i64 sn], .int .i64 zero] w fun e w' => ∃ g c', e = .returned (.slice (some ⟨g, 0, none⟩) 4 c') ∧ Bs w w' lo bx (stG (regsOf rs) zero ⟨7, dst, sa, sb, sc, sn⟩ gs).1 v g 4 c' (stG (regsOf rs) zero ⟨7, dst, sa, sb, sc, sn⟩ gs).2 := by
  have HB := Lib.hid hB
  have hBl := hB.le
  have hbx := hB.lt
  clear hB
  have ha := hs.a
  have hb := hs.b
  have hc := hs.c
  have hk := hs.k
  have hi := hs.i
  clear hs
  simp only at ha hb hc hk hi
  obtain ⟨na, rfl⟩ := Int.eq_ofNat_of_zero_le ha.1
  obtain ⟨nb, rfl⟩ := Int.eq_ofNat_of_zero_le hb.1
  obtain ⟨nc, rfl⟩ := Int.eq_ofNat_of_zero_le hc.1
  obtain ⟨bl, off, ax, cx, xs, rfl, hbl, ka, HX, HLx, hcx, hrx, hfx⟩ := hra.rv hok na (by omega)
  obtain ⟨bl2, off2, ay, cy, ys, e2, _, kb, HY, HLy, hcy, hry, hfy⟩ := hra.rv hok nb (by omega)
  cases e2
  obtain ⟨bl3, off3, az, cz, zs, e3, _, kc, HZ, HLz, hcz, hrz, hfz⟩ := hra.rv hok nc (by omega)
  cases e3
  have hna : (na : Int) < 8 := by omega
  have hnb : (nb : Int) < 8 := by omega
  have hnc : (nc : Int) < 8 := by omega
  have h7 := and7 na (by omega)
  have nw : bl ≠ w.heap.size := by omega
  have HRA := Lib.hid hra
  have HFRA := Lib.hid hrf
  have HRX := Lib.hid hrx
  have HRY := Lib.hid hry
  have HRZ := Lib.hid hrz
  have HFX := Lib.hid hfx
  have HFY := Lib.hid hfy
  have HFZ := Lib.hid hfz
  have HLX := Lib.hid HLx
  have HLY := Lib.hid HLy
  have HLZ := Lib.hid HLz
  have hW : Below w.heap.size w (w.alloc (.cells #[.int .i64 7, .int .i64 dst, .int .i64 na, .int .i64 nb, .int .i64 nc, .int .i64 sn] 90)) := (Below.refl _ _).alloc (Nat.le_refl _) _
  have HW := Lib.hid hW
  have HXX := Lib.hid HX
  have HYY := Lib.hid HY
  have HZZ := Lib.hid HZ
  clear hra hrf hrx hry hrz hfx hfy hfz HLx HLy HLz hW HX HY HZ hok
  go_enter Try.func75, Try.ntmps75
  go_wp2_with fail
  refine (l15Bits_any gs 3 v lo bx _ (HB.out.below HW.out) (by omega) xs ax cx HLX.out (HRX.out.below HW.out) (FrA.below HB.out HW.out HFX.out) ys ay cy HLY.out (HRY.out.below HW.out) (FrA.below HB.out HW.out HFY.out)).mono ?_
  rintro e w2 ⟨g, c', rfl, h2⟩
  go_wp2_with fail
  go_ret
  exact ⟨g, c', rfl, by simp only [stG, HXX.out, HYY.out, HZZ.out]; exact Bs.back HB.out HW.out h2⟩


set_option maxRecDepth 20000 in
set_option maxHeartbeats 4000000 in
theorem l15W8 (dst sa sb sc sn : Int) (hs : StC ⟨8, dst, sa, sb, sc, sn⟩) (gs : List Gt) (v : Value) (lo bx : Nat) (w : World) (hB : Bld w lo bx gs v) (hn : gs.length ≤ 700000) (rs : List RV) (hl : rs.length = 8) (ra : Option Addr) (rc : Nat) (hra : RdC w ra (rvCells rs)) (hrf : FrA w bx ra) (hok : ∀ r ∈ rs, RvOk w (FrA w bx) r) (zero : Int) :
    Calls Try.prog 75 #[.pointer (some ⟨bx, 0, none⟩), .slice ra 8 rc, .agg #[.int .i64 8, .int .i64 dst, .int .i64 sa, .int .i64 sb, .int .i64 sc, .int .i64 sn], .int .i64 zero] w fun e w' => ∃ g c', e = .returned (.slice (some ⟨g, 0, none⟩) 4 c') ∧ Bs w w' lo bx (stG (regsOf rs) zero ⟨8, dst, sa, sb, sc, sn⟩ gs).1 v g 4 c' (stG (regsOf rs) zero ⟨8, dst, sa, sb, sc, sn⟩ gs).2 := by
  have HB := Lib.hid hB
  have hBl := hB.le
  have hbx := hB.lt
  clear hB
  have ha := hs.a
  have hb := hs.b
  have hc := hs.c
  have hk := hs.k
  have hi := hs.i
  clear hs
  simp only at ha hb hc hk hi
  obtain ⟨na, rfl⟩ := Int.eq_ofNat_of_zero_le ha.1
  obtain ⟨nb, rfl⟩ := Int.eq_ofNat_of_zero_le hb.1
  obtain ⟨nc, rfl⟩ := Int.eq_ofNat_of_zero_le hc.1
  obtain ⟨bl, off, ax, cx, xs, rfl, hbl, ka, HX, HLx, hcx, hrx, hfx⟩ := hra.rv hok na (by omega)
  obtain ⟨bl2, off2, ay, cy, ys, e2, _, kb, HY, HLy, hcy, hry, hfy⟩ := hra.rv hok nb (by omega)
  cases e2
  obtain ⟨bl3, off3, az, cz, zs, e3, _, kc, HZ, HLz, hcz, hrz, hfz⟩ := hra.rv hok nc (by omega)
  cases e3
  have hna : (na : Int) < 8 := by omega
  have hnb : (nb : Int) < 8 := by omega
  have hnc : (nc : Int) < 8 := by omega
  have h7 := and7 na (by omega)
  have nw : bl ≠ w.heap.size := by omega
  have HRA := Lib.hid hra
  have HFRA := Lib.hid hrf
  have HRX := Lib.hid hrx
  have HRY := Lib.hid hry
  have HRZ := Lib.hid hrz
  have HFX := Lib.hid hfx
  have HFY := Lib.hid hfy
  have HFZ := Lib.hid hfz
  have HLX := Lib.hid HLx
  have HLY := Lib.hid HLy
  have HLZ := Lib.hid HLz
  have hW : Below w.heap.size w (w.alloc (.cells #[.int .i64 8, .int .i64 dst, .int .i64 na, .int .i64 nb, .int .i64 nc, .int .i64 sn] 90)) := (Below.refl _ _).alloc (Nat.le_refl _) _
  have HW := Lib.hid hW
  have HXX := Lib.hid HX
  have HYY := Lib.hid HY
  have HZZ := Lib.hid HZ
  clear hra hrf hrx hry hrz hfx hfy hfz HLx HLy HLz hW HX HY HZ hok
  go_enter Try.func75, Try.ntmps75
  go_wp2_with fail
  refine (l14Less_any gs v lo bx _ (HB.out.below HW.out) (by omega) xs ax cx HLX.out (HRX.out.below HW.out) (FrA.below HB.out HW.out HFX.out) ys ay cy HLY.out (HRY.out.below HW.out) (FrA.below HB.out HW.out HFY.out)).mono ?_
  rintro e w2 ⟨rfl, hB2, hF2, hL2⟩
  have H2 := Lib.hid hB2
  have HF := Lib.hid hF2
  have HL := Lib.hid hL2
  clear hB2 hF2 hL2
  go_wp2_with fail
  go_ret
  exact ⟨w2.heap.size, 4, rfl, by simp only [stG, HXX.out, HYY.out, HZZ.out]; exact Bs.mk4 HB.out H2.out ((Fr.below HB.out HW.out).trans HF.out) ((HW.out.mono hBl).trans HL.out) _ _ _ _⟩


set_option maxRecDepth 20000 in
set_option maxHeartbeats 4000000 in
theorem l15W9 (dst sa sb sc sn : Int) (hs : StC ⟨9, dst, sa, sb, sc, sn⟩) (gs : List Gt) (v : Value) (lo bx : Nat) (w : World) (hB : Bld w lo bx gs v) (hn : gs.length ≤ 700000) (rs : List RV) (hl : rs.length = 8) (ra : Option Addr) (rc : Nat) (hra : RdC w ra (rvCells rs)) (hrf : FrA w bx ra) (hok : ∀ r ∈ rs, RvOk w (FrA w bx) r) (zero : Int) :
    Calls Try.prog 75 #[.pointer (some ⟨bx, 0, none⟩), .slice ra 8 rc, .agg #[.int .i64 9, .int .i64 dst, .int .i64 sa, .int .i64 sb, .int .i64 sc, .int .i64 sn], .int .i64 zero] w fun e w' => ∃ g c', e = .returned (.slice (some ⟨g, 0, none⟩) 4 c') ∧ Bs w w' lo bx (stG (regsOf rs) zero ⟨9, dst, sa, sb, sc, sn⟩ gs).1 v g 4 c' (stG (regsOf rs) zero ⟨9, dst, sa, sb, sc, sn⟩ gs).2 := by
  have HB := Lib.hid hB
  have hBl := hB.le
  have hbx := hB.lt
  clear hB
  have ha := hs.a
  have hb := hs.b
  have hc := hs.c
  have hk := hs.k
  have hi := hs.i
  clear hs
  simp only at ha hb hc hk hi
  obtain ⟨na, rfl⟩ := Int.eq_ofNat_of_zero_le ha.1
  obtain ⟨nb, rfl⟩ := Int.eq_ofNat_of_zero_le hb.1
  obtain ⟨nc, rfl⟩ := Int.eq_ofNat_of_zero_le hc.1
  obtain ⟨bl, off, ax, cx, xs, rfl, hbl, ka, HX, HLx, hcx, hrx, hfx⟩ := hra.rv hok na (by omega)
  obtain ⟨bl2, off2, ay, cy, ys, e2, _, kb, HY, HLy, hcy, hry, hfy⟩ := hra.rv hok nb (by omega)
  cases e2
  obtain ⟨bl3, off3, az, cz, zs, e3, _, kc, HZ, HLz, hcz, hrz, hfz⟩ := hra.rv hok nc (by omega)
  cases e3
  have hna : (na : Int) < 8 := by omega
  have hnb : (nb : Int) < 8 := by omega
  have hnc : (nc : Int) < 8 := by omega
  have h7 := and7 na (by omega)
  have nw : bl ≠ w.heap.size := by omega
  have HRA := Lib.hid hra
  have HFRA := Lib.hid hrf
  have HRX := Lib.hid hrx
  have HRY := Lib.hid hry
  have HRZ := Lib.hid hrz
  have HFX := Lib.hid hfx
  have HFY := Lib.hid hfy
  have HFZ := Lib.hid hfz
  have HLX := Lib.hid HLx
  have HLY := Lib.hid HLy
  have HLZ := Lib.hid HLz
  have hW : Below w.heap.size w (w.alloc (.cells #[.int .i64 9, .int .i64 dst, .int .i64 na, .int .i64 nb, .int .i64 nc, .int .i64 sn] 90)) := (Below.refl _ _).alloc (Nat.le_refl _) _
  have HW := Lib.hid hW
  have HXX := Lib.hid HX
  have HYY := Lib.hid HY
  have HZZ := Lib.hid HZ
  clear hra hrf hrx hry hrz hfx hfy hfz HLx HLy HLz hW HX HY HZ hok
  go_enter Try.func75, Try.ntmps75
  go_wp2_with fail
  refine (l14Equal_any gs v lo bx _ (HB.out.below HW.out) (by omega) xs ax cx HLX.out (HRX.out.below HW.out) (FrA.below HB.out HW.out HFX.out) ys ay cy HLY.out (HRY.out.below HW.out) (FrA.below HB.out HW.out HFY.out)).mono ?_
  rintro e w2 ⟨rfl, hB2, hF2, hL2⟩
  have H2 := Lib.hid hB2
  have HF := Lib.hid hF2
  have HL := Lib.hid hL2
  clear hB2 hF2 hL2
  go_wp2_with fail
  go_ret
  exact ⟨w2.heap.size, 4, rfl, by simp only [stG, HXX.out, HYY.out, HZZ.out]; exact Bs.mk4 HB.out H2.out ((Fr.below HB.out HW.out).trans HF.out) ((HW.out.mono hBl).trans HL.out) _ _ _ _⟩


set_option maxRecDepth 20000 in
set_option maxHeartbeats 4000000 in
theorem l15W2 (dst sa sb sc sn : Int) (hs : StC ⟨2, dst, sa, sb, sc, sn⟩) (gs : List Gt) (v : Value) (lo bx : Nat) (w : World) (hB : Bld w lo bx gs v) (hn : gs.length ≤ 700000) (rs : List RV) (hl : rs.length = 8) (ra : Option Addr) (rc : Nat) (hra : RdC w ra (rvCells rs)) (hrf : FrA w bx ra) (hok : ∀ r ∈ rs, RvOk w (FrA w bx) r) (zero : Int) :
    Calls Try.prog 75 #[.pointer (some ⟨bx, 0, none⟩), .slice ra 8 rc, .agg #[.int .i64 2, .int .i64 dst, .int .i64 sa, .int .i64 sb, .int .i64 sc, .int .i64 sn], .int .i64 zero] w fun e w' => ∃ g c', e = .returned (.slice (some ⟨g, 0, none⟩) 4 c') ∧ Bs w w' lo bx (stG (regsOf rs) zero ⟨2, dst, sa, sb, sc, sn⟩ gs).1 v g 4 c' (stG (regsOf rs) zero ⟨2, dst, sa, sb, sc, sn⟩ gs).2 := by
  have HB := Lib.hid hB
  have hBl := hB.le
  have hbx := hB.lt
  clear hB
  have ha := hs.a
  have hb := hs.b
  have hc := hs.c
  have hk := hs.k
  have hi := hs.i
  clear hs
  simp only at ha hb hc hk hi
  obtain ⟨na, rfl⟩ := Int.eq_ofNat_of_zero_le ha.1
  obtain ⟨nb, rfl⟩ := Int.eq_ofNat_of_zero_le hb.1
  obtain ⟨nc, rfl⟩ := Int.eq_ofNat_of_zero_le hc.1
  obtain ⟨bl, off, ax, cx, xs, rfl, hbl, ka, HX, HLx, hcx, hrx, hfx⟩ := hra.rv hok na (by omega)
  obtain ⟨bl2, off2, ay, cy, ys, e2, _, kb, HY, HLy, hcy, hry, hfy⟩ := hra.rv hok nb (by omega)
  cases e2
  obtain ⟨bl3, off3, az, cz, zs, e3, _, kc, HZ, HLz, hcz, hrz, hfz⟩ := hra.rv hok nc (by omega)
  cases e3
  have hna : (na : Int) < 8 := by omega
  have hnb : (nb : Int) < 8 := by omega
  have hnc : (nc : Int) < 8 := by omega
  have h7 := and7 na (by omega)
  have nw : bl ≠ w.heap.size := by omega
  have HRA := Lib.hid hra
  have HFRA := Lib.hid hrf
  have HRX := Lib.hid hrx
  have HRY := Lib.hid hry
  have HRZ := Lib.hid hrz
  have HFX := Lib.hid hfx
  have HFY := Lib.hid hfy
  have HFZ := Lib.hid hfz
  have HLX := Lib.hid HLx
  have HLY := Lib.hid HLy
  have HLZ := Lib.hid HLz
  have hW : Below w.heap.size w (w.alloc (.cells #[.int .i64 2, .int .i64 dst, .int .i64 na, .int .i64 nb, .int .i64 nc, .int .i64 sn] 90)) := (Below.refl _ _).alloc (Nat.le_refl _) _
  have HW := Lib.hid hW
  have HXX := Lib.hid HX
  have HYY := Lib.hid HY
  have HZZ := Lib.hid HZ
  clear hra hrf hrx hry hrz hfx hfy hfz HLx HLy HLz hW HX HY HZ hok
  go_enter Try.func75, Try.ntmps75
  go_wp2_with fail
  obtain ⟨w1, hw1⟩ : ∃ X, X = w.alloc (.cells #[.int .i64 2, .int .i64 dst, .int .i64 na, .int .i64 nb, .int .i64 nc, .int .i64 sn] 90) := ⟨_, rfl⟩
  have HB1 : Hid (Bld w1 lo bx gs v) := by rw [hw1]; exact HB.out.below HW.out
  have HFB : Hid (Frn w1 bx w.heap.size) := by rw [hw1]; exact frn_new HB.out (fun b hb => Below.heap_alloc _ _ _ (HB.out.mine hb)) (Nat.le_refl _) (by simp)
  have C2 : Hid (w1.cell? ⟨w.heap.size, 2, none⟩ = some (.int .i64 na)) := by show _ = _; rw [hw1]; go_simp
  have C5 : Hid (w1.cell? ⟨w.heap.size, 5, none⟩ = some (.int .i64 sn)) := by show _ = _; rw [hw1]; go_simp
  have HW1 : Hid (Below w.heap.size w w1) := by rw [hw1]; exact HW.out
  have hz1 : w.heap.size + 1 = w1.heap.size := by rw [hw1]; simp
  rw [← hw1, hz1]
  clear hw1 hz1
  have hii := hi trivial
  have hw1 : IntKind.i64.wrap ((na : Int) * 4) = (na : Int) * 4 := wrap_i64_id (by omega) (by omega)
  have hw2 : IntKind.i64.wrap ((na : Int) * 4 + sn) = (na : Int) * 4 + sn := wrap_i64_id (by omega) (by omega)
  have hw3 : IntKind.i64.wrap (((na : Int) * 4 + sn) * 4) = ((na : Int) * 4 + sn) * 4 := wrap_i64_id (by omega) (by omega)
  obtain ⟨W9, hW9⟩ : ∃ X, X = w1.alloc (.cells #[] 3) := ⟨_, rfl⟩
  have HS0 := Lib.hid (show Bs w1 W9 lo bx gs v w1.heap.size 0 0 [] by rw [hW9]; exact Bs.start HB1.out)
  have hbl1 := HB1.out.le
  rw [← hW9]
  clear hW9
  go_loopw [11, 12] (fun u i wr => ∃ (k ct gt : Nat) (G : List Gt) (T : List Int), k ≤ 4 ∧ i = .int .i64 k ∧ u = .slice (some ⟨gt, 0, none⟩) k ct ∧ rnds (fun h k => put1 h ⟨1, ((na : Int) * 4 + sn) * 4 + k, 0⟩) gs k = (G, T) ∧ Bs w1 wr lo bx G v gt k ct T) (fun _ i _ => 4 - (intOf i).toNat)
  case atStart => exact ⟨0, 0, _, _, _, Nat.zero_le _, rfl, rfl, rfl, HS0.out⟩
  case round =>
    obtain ⟨k, ct, gt, G, T, hk, rfl, rfl, hsp, hbs⟩ := hrel
    have hGl := rnds_le (f := fun h k => put1 h ⟨1, ((na : Int) * 4 + sn) * 4 + k, 0⟩) (m := 1) (by intro h k; simp [put1]) gs k
    rw [hsp] at hGl
    simp only at hGl
    have HSP := Lib.hid hsp
    have HBS := Lib.hid hbs
    have zr := hbs.l.size
    have gtl := hbs.ge
    clear hsp hbs
    by_cases hlt : k < 4
    · have hk' : (k : Int) < 4 := by omega
      have hb2 := HBS.out.cell HFB.out C2.out
      have hb5 := HBS.out.cell HFB.out C5.out
      have hw4 : IntKind.i64.wrap (((na : Int) * 4 + sn) * 4 + k) = ((na : Int) * 4 + sn) * 4 + k := wrap_i64_id (by omega) (by omega)
      have HST := Lib.hid (rnds_succ (fun h k => put1 h ⟨1, ((na : Int) * 4 + sn) * 4 + k, 0⟩) gs k HSP.out)
      go_wp2_with fail
      refine (l14Put_any G 1 (((na : Int) * 4 + sn) * 4 + k) 0 v lo bx _ (HBS.out).b (by first | omega | (simp; omega))).mono ?_
      rintro e w2 ⟨rfl, hB2, hF2, hL2⟩
      obtain ⟨G1, e1⟩ : ∃ X, X = G ++ [⟨1, ((na : Int) * 4 + sn) * 4 + k, 0⟩] := ⟨_, rfl⟩
      rw [← e1] at hB2
      have l1 : G1.length = G.length + 1 := by rw [e1]; simp
      have E1 := Lib.hid e1
      have S1 := Lib.hid ((HBS.out).on hB2 hF2 hL2)
      have z1 : wr.heap.size ≤ w2.heap.size := hL2.size
      have L1 := Lib.hid l1
      have n1 : G1.length ≤ 900000 + 100 + 0 := by omega
      clear e1 hB2 hF2 hL2 l1
      go_wp2_with (refine wpList_push _ rfl (.tmp 39) (.tmp 51) rfl w1.heap.size gt k ct T (G.length : Int) w2.heap.size 1 (by rfl) (by rfl) (S1.out.o.alloc _) (by go_simp) (by omega) (by simp; omega) ?_; intro g6 d6 w8 ho6 hb6 hg6 hat6)
      have HN : Hid (rnds (fun h k => put1 h ⟨1, ((na : Int) * 4 + sn) * 4 + k, 0⟩) gs (k + 1) = (G1, T ++ [(G.length : Int)])) := by show _ = _; rw [HST.out, E1.out]; simp [put1]
      have HP := Lib.hid (S1.out.push _ ho6 hb6 hg6 hat6)
      clear ho6 hb6 hg6 hat6
      go_wp2_with fail
      go_roundw
      case rel => exact ⟨k + 1, d6, g6, _, _, by omega, by go_num, rfl, HN.out, HP.out⟩
      case measure => first | (simp [intOf]; done) | (simp [intOf]; omega)
    · obtain rfl : k = 4 := by omega
      go_wp2_with fail
      go_ret
      exact ⟨gt, ct, rfl, by have hp : stG (regsOf rs) zero ⟨2, dst, na, nb, nc, sn⟩ gs = (G, T) := HSP.out; rw [hp]; exact Bs.back HB.out HW1.out HBS.out⟩


set_option maxRecDepth 20000 in
set_option maxHeartbeats 4000000 in
theorem l15W10 (dst sa sb sc sn : Int) (hs : StC ⟨10, dst, sa, sb, sc, sn⟩) (gs : List Gt) (v : Value) (lo bx : Nat) (w : World) (hB : Bld w lo bx gs v) (hn : gs.length ≤ 700000) (rs : List RV) (hl : rs.length = 8) (ra : Option Addr) (rc : Nat) (hra : RdC w ra (rvCells rs)) (hrf : FrA w bx ra) (hok : ∀ r ∈ rs, RvOk w (FrA w bx) r) (zero : Int) :
    Calls Try.prog 75 #[.pointer (some ⟨bx, 0, none⟩), .slice ra 8 rc, .agg #[.int .i64 10, .int .i64 dst, .int .i64 sa, .int .i64 sb, .int .i64 sc, .int .i64 sn], .int .i64 zero] w fun e w' => ∃ g c', e = .returned (.slice (some ⟨g, 0, none⟩) 4 c') ∧ Bs w w' lo bx (stG (regsOf rs) zero ⟨10, dst, sa, sb, sc, sn⟩ gs).1 v g 4 c' (stG (regsOf rs) zero ⟨10, dst, sa, sb, sc, sn⟩ gs).2 := by
  have HB := Lib.hid hB
  have hBl := hB.le
  have hbx := hB.lt
  clear hB
  have ha := hs.a
  have hb := hs.b
  have hc := hs.c
  have hk := hs.k
  have hi := hs.i
  clear hs
  simp only at ha hb hc hk hi
  obtain ⟨na, rfl⟩ := Int.eq_ofNat_of_zero_le ha.1
  obtain ⟨nb, rfl⟩ := Int.eq_ofNat_of_zero_le hb.1
  obtain ⟨nc, rfl⟩ := Int.eq_ofNat_of_zero_le hc.1
  obtain ⟨bl, off, ax, cx, xs, rfl, hbl, ka, HX, HLx, hcx, hrx, hfx⟩ := hra.rv hok na (by omega)
  obtain ⟨bl2, off2, ay, cy, ys, e2, _, kb, HY, HLy, hcy, hry, hfy⟩ := hra.rv hok nb (by omega)
  cases e2
  obtain ⟨bl3, off3, az, cz, zs, e3, _, kc, HZ, HLz, hcz, hrz, hfz⟩ := hra.rv hok nc (by omega)
  cases e3
  have hna : (na : Int) < 8 := by omega
  have hnb : (nb : Int) < 8 := by omega
  have hnc : (nc : Int) < 8 := by omega
  have h7 := and7 na (by omega)
  have nw : bl ≠ w.heap.size := by omega
  have HRA := Lib.hid hra
  have HFRA := Lib.hid hrf
  have HRX := Lib.hid hrx
  have HRY := Lib.hid hry
  have HRZ := Lib.hid hrz
  have HFX := Lib.hid hfx
  have HFY := Lib.hid hfy
  have HFZ := Lib.hid hfz
  have HLX := Lib.hid HLx
  have HLY := Lib.hid HLy
  have HLZ := Lib.hid HLz
  have hW : Below w.heap.size w (w.alloc (.cells #[.int .i64 10, .int .i64 dst, .int .i64 na, .int .i64 nb, .int .i64 nc, .int .i64 sn] 90)) := (Below.refl _ _).alloc (Nat.le_refl _) _
  have HW := Lib.hid hW
  have HXX := Lib.hid HX
  have HYY := Lib.hid HY
  have HZZ := Lib.hid HZ
  clear hra hrf hrx hry hrz hfx hfy hfz HLx HLy HLz hW HX HY HZ hok
  go_enter Try.func75, Try.ntmps75
  go_wp2_with fail
  obtain ⟨blx, offx, rfl, hbx0, c0⟩ := HRX.out.elem 0 (by rw [HLX.out]; omega)
  obtain ⟨q0, hq0⟩ : ∃ z, z = at0 xs ((0 : Nat) : Int) := ⟨_, rfl⟩
  rw [← hq0, Nat.add_zero] at c0
  have HQ0 := Lib.hid hq0
  have nx : blx ≠ w.heap.size := by omega
  have HWD := Lib.hid HW.out.drew
  clear hq0
  have HFB : Hid (Frn (w.alloc (.cells #[.int .i64 10, .int .i64 dst, .int .i64 na, .int .i64 nb, .int .i64 nc, .int .i64 sn] 90)).drew bx w.heap.size) := ((Fr.drew (HB.out.below HW.out)) _ (frn_new HB.out (fun b hb => Below.heap_alloc _ _ _ (HB.out.mine hb)) (Nat.le_refl _) (by simp))).2
  have C4 : Hid ((w.alloc (.cells #[.int .i64 10, .int .i64 dst, .int .i64 na, .int .i64 nb, .int .i64 nc, .int .i64 sn] 90)).drew.cell? ⟨w.heap.size, 4, none⟩ = some (.int .i64 nc)) := by show _ = _; go_simp
  have CX : Hid ((w.alloc (.cells #[.int .i64 10, .int .i64 dst, .int .i64 na, .int .i64 nb, .int .i64 nc, .int .i64 sn] 90)).drew.cell? ⟨blx, offx, none⟩ = some (.int .i64 q0)) := by show _ = _; go_simp
  have CZ : Hid ((w.alloc (.cells #[.int .i64 10, .int .i64 dst, .int .i64 na, .int .i64 nb, .int .i64 nc, .int .i64 sn] 90)).drew.cell? ⟨bl, off + nc, none⟩ = some (.slice az 4 cz)) := by show _ = _; go_simp
  have HFR := Lib.hid (FrA.below HB.out HWD.out HFRA.out _ _ rfl)
  go_region_held3 (fun w' => w'.cell? ⟨w.heap.size, 4, none⟩ = some (.int .i64 nc) ∧ w'.cell? ⟨bl, off + nc, none⟩ = some (.slice az 4 cz) ∧ w'.cell? ⟨blx, offx, none⟩ = some (.int .i64 q0)) (first | go_keep)
    ((go_at_call 64; refine (l14Mux_any gs q0 v lo bx _ (HB.out.below HWD.out) (by omega) ys ay cy HLY.out (HRY.out.below HWD.out) (FrA.below HB.out HWD.out HFY.out) zs az cz HLZ.out (HRZ.out.below HWD.out) (FrA.below HB.out HWD.out HFZ.out)).mono ?_; rintro e w2 ⟨g, c', rfl, h2⟩; have H2 := Lib.hid h2; have kk4 := H2.out.cell HFB.out C4.out; have kkx := H2.out.cell (FrA.below HB.out HWD.out HFX.out _ _ rfl) CX.out; have kkz := H2.out.cell HFR.out CZ.out; clear h2))
  go_wp2_with fail
  go_ret
  exact ⟨g, c', rfl, by simp only [stG, HXX.out, HYY.out, HZZ.out, ← HQ0.out]; exact Bs.back HB.out HWD.out H2.out⟩

end Go.Proofs.Ytfcijloiebnloaa

/- CmpT -/
namespace Go.Proofs.Ytfcijloiebnloaa
open Go.RowKit
set_option linter.unusedVariables false
set_option linter.unusedSimpArgs false

theorem info_words : (Try.prog.info? 23).map (fun i => (i.zero, i.size, i.bytes)) = some (some (.slice none 0 0), 1, 24) := by kernel_rfl
theorem el_words : El 56 23 1 24 (.slice none 0 0) := by
  obtain ⟨i0, hi, hz0, hz1, hz2⟩ := info_parts info_words
  exact ⟨⟨i0, Try.underlying56, hi, hz0, hz1, hz2⟩, rfl, by omega⟩
section
variable {ops : Array Oper} {rest : List Oper} {o : Oper} {a : Act} {Q : Exit → Act → World → Prop}
/-- One word behind a list of words. -/
theorem wpList_pushV (w : World) (hgd : o.guard = none) (s x : Operand) (ho : o.op = .call { callee := .builtin .append, args := #[s, x], argTypes := #[56, 56] })
    (lo g n cap : Nat) (cs : List Value) (r : RV) (B c : Nat) (hs : a.eval s = .slice (some ⟨g, 0, none⟩) n cap) (hx : a.eval x = .slice (some ⟨B, 0, none⟩) 1 c)
    (hown : Own w lo 23 1 (some ⟨g, 0, none⟩) n cap cs) (hnew : w.cell? ⟨B, 0, none⟩ = some r.v) (hn : n < 1000) (hlo : lo ≤ w.heap.size)
    (h : ∀ g' cap' w', Own w' lo 23 1 (some ⟨g', 0, none⟩) (n + 1) cap' (cs ++ [r.v]) → Below lo w w' → w.grownBy w' (some g) → (g' = g ∨ g' = w.heap.size) → wpList Try.prog ops Q rest (a.put o.dst (.slice (some ⟨g', 0, none⟩) (n + 1) cap')) w') :
    wpList Try.prog ops Q (o :: rest) a w :=
  wpList_appm w hgd el_words s x ho lo g n cap cs [r.v] (some ⟨B, 0, none⟩) 1 c hs hx hown rfl
    (.inr ⟨B, 0, rfl, fun j hj => by have : j = 0 := by simpa using hj
                                     subst this; exact hnew⟩) (fun u hu => by simp at hu; subst hu; rfl) (by intro h; cases h) (by omega) (by omega) hlo h
end
/-- From w0 on: the building, and a list of words of the call's own. -/
structure Bq (w0 w : World) (lo bx : Nat) (G : List Gt) (v : Value) (gt k ct : Nat) (cs : List Value) : Prop where
  b : Bld w lo bx G v
  o : Own w w0.heap.size 23 1 (some ⟨gt, 0, none⟩) k ct cs
  f : Frn w bx gt
  r : Fr bx w0 w
  l : Below lo w0 w
  z : lo ≤ w0.heap.size
theorem Bq.start {w : World} {lo bx : Nat} {G : List Gt} {v : Value} (h : Bld w lo bx G v) : Bq w (w.alloc (.cells #[] 23)) lo bx G v w.heap.size 0 0 [] :=
  ⟨h.al _, own_new w _ _, frn_new h (fun b hb => Below.heap_alloc _ _ _ (h.mine hb)) (Nat.le_refl _) (by simp), Fr.al h _, (Below.refl _ _).alloc h.le _, h.le⟩
theorem Bq.push {w0 w w' : World} {lo bx gt k ct g c' : Nat} {G : List Gt} {v u : Value} {cs : List Value} (h : Bq w0 w lo bx G v gt k ct cs) (o : Obj) (ho : Own w' w0.heap.size 23 1 (some ⟨g, 0, none⟩) (k + 1) c' (cs ++ [u]))
    (hb : Below w0.heap.size (w.alloc o) w') (hg : (w.alloc o).grownBy w' (some gt)) (hat : g = gt ∨ g = (w.alloc o).heap.size) : Bq w0 w' lo bx G v g (k + 1) c' (cs ++ [u]) := by
  have h' := h.b.al o
  have hF := Fr.al h.b o
  have hr : ∀ q, some gt = some q → Frn (w.alloc o) bx q := fun q e => by obtain rfl := Option.some.inj e; exact (hF _ h.f).2
  have hge := h.o.ge
  refine ⟨h'.grown hg hr, ho, ?_, ?_, ?_, h.z⟩
  · rcases hat with rfl | e
    · exact frn_grown h' hg hr (hF _ h.f).2
    · exact frn_grown_new h' hg hr (by omega) ho.ge.2
  · intro b hb0
    have h1 := h.r b hb0
    have h2 := hF b h1.2
    have hne : b ≠ gt := by have := hb0.1; omega
    exact ⟨(hg.block b h2.2.1 (fun e => hne (Option.some.inj e))).trans (h2.1.trans h1.1), frn_grown h' hg hr h2.2⟩
  · have hlo := h.b.le
    have hz := h.z
    exact h.l.trans (((Below.refl _ _).alloc hlo _).trans ((Below.refl _ _).grown hg (by simp; omega) (fun q e => by obtain rfl := Option.some.inj e; omega)))
/-- The result of a compiler. -/
def cmpG (us : List St) (ok : Bool) : List Gt := if ok = true then (cmpL zero0 us cmp0).1 else []
def cmpO (us : List St) (ok : Bool) : List Int := if ok = true then (cmpL zero0 us cmp0).2.1 else []
def PostC (w0 w' : World) (e : Ending) (G : List Gt) (os : List Int) (ok : Bool) : Prop :=
  ∃ b1 d1 b2 d2, e = .returned (.tuple #[.agg #[.slice b1 G.length d1, .slice b2 os.length d2], .bool ok]) ∧ Own w' w0.heap.size 109 3 b1 G.length d1 (gtCells G) ∧ Own w' w0.heap.size 3 1 b2 os.length d2 (I64 os) ∧ (∀ x y, b1 = some x → b2 = some y → x.block ≠ y.block) ∧ Below w0.heap.size w0 w'
theorem cell_std {w : World} {a : Addr} {x : Value} {b off : Nat} {v : Value} (h : w.cell? ⟨b, off, none⟩ = some v) (hne : b ≠ a.block) : (w.setCell a x).cell? ⟨b, off, none⟩ = some v :=
  (World.cell?_of_block (w := w) (a := ⟨b, off, none⟩) (Below.heap_setCell _ _ _ _ hne)).trans h
theorem own_none (w : World) (lo e size : Nat) : Own w lo e size none 0 0 [] := ⟨by simp, .inl ⟨rfl, rfl⟩⟩
theorem Own.cellV {w : World} {lo e g n cap : Nat} {cs : List Value} (h : Own w lo e 1 (some ⟨g, 0, none⟩) n cap cs) (j : Nat) (hj : j < cs.length) : w.cell? ⟨g, j, none⟩ = some cs[j] ∧ w.frozen? ⟨g, j, none⟩ = false := h.get j hj
theorem CS.below {w0 w w2 : World} {L bx gr cr : Nat} {G : List Gt} {ao : Option Addr} {co : Nat} {O : List Int} {rs : List RV} {rw : RV} (h : CS w0 w L bx gr cr G ao co O rs rw) (k : Below w.heap.size w w2) : CS w0 w2 L bx gr cr G ao co O rs rw :=
  have hF := Fr.below h.b k
  ⟨h.b.below k, h.o.keep fun a ha => hF.kp (h.fo a ha), h.r.later (hF.kp h.fr), h.rl, fun a ha => hF.frn (h.fo a ha), hF.frn h.fr, h.ne, fun r hr => (h.ok r hr).step hF, h.wd.step hF, h.l.trans (k.mono h.b.le), h.lw⟩
theorem CS.bld {w0 w w2 : World} {L bx gr cr : Nat} {G : List Gt} {ao : Option Addr} {co : Nat} {O : List Int} {rs : List RV} {rw : RV} (h : CS w0 w L bx gr cr G ao co O rs rw) (hg : w.grownBy w2 (ao.map (·.block))) : Bld w2 L bx G (.slice ao O.length co) :=
  h.b.grown hg fun q e => by
    cases ao with
    | none => cases e
    | some a => cases e; exact h.fo a rfl
/-- l15Word at whatever operation. -/
theorem l15Word_any (s : St) (hs : StC s) (gs : List Gt) (v : Value) (lo bx : Nat) (w : World) (hB : Bld w lo bx gs v) (hn : gs.length ≤ 700000) (rs : List RV) (hl : rs.length = 8) (ra : Option Addr) (rc : Nat) (hra : RdC w ra (rvCells rs)) (hrf : FrA w bx ra) (hok : ∀ r ∈ rs, RvOk w (FrA w bx) r) (zero : Int) :
    Calls Try.prog 75 #[.pointer (some ⟨bx, 0, none⟩), .slice ra 8 rc, stV s, .int .i64 zero] w fun e w' => ∃ g c', e = .returned (.slice (some ⟨g, 0, none⟩) 4 c') ∧ Bs w w' lo bx (stG (regsOf rs) zero s gs).1 v g 4 c' (stG (regsOf rs) zero s gs).2 := by
  obtain ⟨op, dst, sa, sb, sc, sn⟩ := s
  have h1 := hs.o1
  have h2 := hs.o2
  simp only at h1 h2
  have hop : op = 1 ∨ op = 2 ∨ op = 3 ∨ op = 4 ∨ op = 5 ∨ op = 6 ∨ op = 7 ∨ op = 8 ∨ op = 9 ∨ op = 10 := by omega
  rcases hop with rfl | rfl | rfl | rfl | rfl | rfl | rfl | rfl | rfl | rfl
  · exact l15W1 dst sa sb sc sn hs gs v lo bx w hB hn rs hl ra rc hra hrf hok zero
  · exact l15W2 dst sa sb sc sn hs gs v lo bx w hB hn rs hl ra rc hra hrf hok zero
  · exact l15W3 dst sa sb sc sn hs gs v lo bx w hB hn rs hl ra rc hra hrf hok zero
  · exact l15W4 dst sa sb sc sn hs gs v lo bx w hB hn rs hl ra rc hra hrf hok zero
  · exact l15W5 dst sa sb sc sn hs gs v lo bx w hB hn rs hl ra rc hra hrf hok zero
  · exact l15W6 dst sa sb sc sn hs gs v lo bx w hB hn rs hl ra rc hra hrf hok zero
  · exact l15W7 dst sa sb sc sn hs gs v lo bx w hB hn rs hl ra rc hra hrf hok zero
  · exact l15W8 dst sa sb sc sn hs gs v lo bx w hB hn rs hl ra rc hra hrf hok zero
  · exact l15W9 dst sa sb sc sn hs gs v lo bx w hB hn rs hl ra rc hra hrf hok zero
  · exact l15W10 dst sa sb sc sn hs gs v lo bx w hB hn rs hl ra rc hra hrf hok zero


set_option maxRecDepth 20000 in
set_option maxHeartbeats 8000000 in
theorem sCompile_any (xs us : List St) (ok : Bool) (hv : IsUnr xs us ok) (hsu : ok = true → ∀ s ∈ us, StU s) (ad : Option Addr) (cp : Nat) (w : World) (hm : xs.length ≤ maxLen) (hcp : xs.length ≤ cp) (hcm : cp ≤ maxLen) (hr : RdC w ad (stCells xs)) :
    Calls Try.prog 36 #[.slice ad xs.length cp] w fun e w' => PostC w w' e (cmpG us ok) (cmpO us ok) ok := by
  have hul := unr_len hv
  have HV := Lib.hid hv
  have HSU := Lib.hid hsu
  have HR := Lib.hid hr
  clear hv hsu hr
  cases ok
  case false =>
    have hu0 : us = [] := by have := HV.out; rcases this with h | h | h; exact h.2.1; exact h.2.1; exact absurd h.1 (by simp)
    subst hu0
    go_enter Try.func36, Try.ntmps36
    go_wp2_with fail
    refine (sUnroll_any xs [] false HV.out ad cp _ hm hcp hcm (HR.out.below ((Below.refl _ _).alloc (Nat.le_refl _) _))).mono ?_
    rintro e w1 ⟨au, cu, rfl, hu, hb1⟩
    have z1 := hb1.size
    simp at z1
    have k0 := bel_keeps hb1 (b := w.heap.size) (o := 0) (v := .slice none 0 0) (by first | (go_simp; done) | assumption)
    have k1 := bel_keeps hb1 (b := w.heap.size) (o := 1) (v := .slice none 0 0) (by first | (go_simp; done) | assumption)
    have f0 := bel_free hb1 (b := w.heap.size) (o := 0) (by simp) (by first | (go_simp; done) | assumption)
    have f1 := bel_free hb1 (b := w.heap.size) (o := 1) (by simp) (by first | (go_simp; done) | assumption)
    have kk0 : (w1.alloc (.cells #[.slice none 0 0, .slice none 0 0] 29)).cell? ⟨w.heap.size, 0, none⟩ = some (.slice none 0 0) := bel_keeps ((Below.refl _ _).alloc (Nat.le_refl _) _) k0
    have kk1 : (w1.alloc (.cells #[.slice none 0 0, .slice none 0 0] 29)).cell? ⟨w.heap.size, 1, none⟩ = some (.slice none 0 0) := bel_keeps ((Below.refl _ _).alloc (Nat.le_refl _) _) k1
    have ff0 : (w1.alloc (.cells #[.slice none 0 0, .slice none 0 0] 29)).frozen? ⟨w.heap.size, 0, none⟩ = false := bel_free ((Below.refl _ _).alloc (Nat.le_refl _) _) (by omega) f0
    have ff1 : (w1.alloc (.cells #[.slice none 0 0, .slice none 0 0] 29)).frozen? ⟨w.heap.size, 1, none⟩ = false := bel_free ((Below.refl _ _).alloc (Nat.le_refl _) _) (by omega) f1
    go_wp2_with fail
    refine bodyPost_ret (v := .tuple #[.agg #[.slice none 0 0, .slice none 0 0], .bool false]) (by simp [results, Try.results36, go_sem, *]) rfl ?_
    exact ⟨none, 0, none, 0, rfl, own_none _ _ _ _, own_none _ _ _ _, (fun x y e => by cases e), (by (repeat (first | with_reducible exact Below.refl _ _ | (with_reducible refine bel_next ?_ ?_ (by assumption)) | (with_reducible refine Below.alloc ?_ ?_ _) | (with_reducible refine Below.drew ?_) | (with_reducible refine below_drewN ?_ _) | (with_reducible refine Below.setCell ?_ ?_ _))) <;> (first | omega | (simp; done) | (simp; omega)))⟩
  case true =>
    have hsu := HSU.out rfl
    clear HSU
    have HSU := Lib.hid hsu
    clear hsu
    go_enter Try.func36, Try.ntmps36
    go_wp2_with fail
    refine (sUnroll_any xs us true HV.out ad cp _ hm hcp hcm (HR.out.below ((Below.refl _ _).alloc (Nat.le_refl _) _))).mono ?_
    rintro e w1 ⟨au, cu, rfl, hu, hb1⟩
    have z1 := hb1.size
    simp at z1
    have k0 := bel_keeps hb1 (b := w.heap.size) (o := 0) (v := .slice none 0 0) (by first | (go_simp; done) | assumption)
    have k1 := bel_keeps hb1 (b := w.heap.size) (o := 1) (v := .slice none 0 0) (by first | (go_simp; done) | assumption)
    have f0 := bel_free hb1 (b := w.heap.size) (o := 0) (by simp) (by first | (go_simp; done) | assumption)
    have f1 := bel_free hb1 (b := w.heap.size) (o := 1) (by simp) (by first | (go_simp; done) | assumption)
    have HU := Lib.hid hu.rd
    have HB1 := Lib.hid hb1
    clear hu hb1
    go_wp2_with fail
    obtain ⟨W1, hW1⟩ : ∃ X, X = w1.alloc (.cells #[.slice none 0 0, .slice none 0 0] 29) := ⟨_, rfl⟩
    have hB0 : Bld W1 w1.heap.size w1.heap.size [] (.slice none 0 0) := by
      rw [hW1]
      exact ⟨by simp, Nat.le_refl _, by simp, ⟨none, 0, by go_simp, own_none _ _ _ _, fun a e => by cases e⟩, by go_simp, by go_simp, by go_simp⟩
    have hbW : Below w1.heap.size w1 W1 := by rw [hW1]; exact (Below.refl _ _).alloc (Nat.le_refl _) _
    have zW : w1.heap.size ≤ W1.heap.size := hbW.size
    rw [← hW1]
    have HBW := Lib.hid hbW
    clear hW1 hbW
    refine (l14Const_any [] 0 (by omega) (by omega) (.slice none 0 0) w1.heap.size w1.heap.size W1 hB0 (by simp)).mono ?_
    rintro e w2 ⟨gw, cw, rfl, hs⟩
    have HS := Lib.hid hs
    have z2 := hs.l.size
    have ge2 := hs.ge
    clear hs
    obtain ⟨G0, hG0⟩ : ∃ x, x = (constP 0 []).1 := ⟨_, rfl⟩
    obtain ⟨W0, hW0⟩ : ∃ x, x = (constP 0 []).2 := ⟨_, rfl⟩
    rw [← hG0, ← hW0] at HS
    have HG0 := Lib.hid hG0
    have HW0 := Lib.hid hW0
    clear hG0 hW0
    obtain ⟨rw0, hrw⟩ : ∃ r : RV, r = ⟨some ⟨gw, 0, none⟩, cw, W0⟩ := ⟨_, rfl⟩
    have HV0 : Hid (Value.slice (some ⟨gw, 0, none⟩) 4 cw = rw0.v) := by show _ = _; rw [hrw]; rfl
    have HRW := Lib.hid hrw
    clear hrw
    obtain ⟨W2, hW2⟩ : ∃ X, X = w2.alloc (.cells #[] 23) := ⟨_, rfl⟩
    have HQ0 := Lib.hid (show Bq w2 W2 w1.heap.size w1.heap.size G0 (.slice none 0 0) w2.heap.size 0 0 [] by rw [hW2]; exact Bq.start HS.out.b)
    go_wp2_with fail
    rw [← hW2]
    clear hW2
    go_loopw [8, 9] (fun u i wr => ∃ (k c g : Nat), k ≤ 8 ∧ i = .int .i64 k ∧ u = .slice (some ⟨g, 0, none⟩) k c ∧ Bq w2 wr w1.heap.size w1.heap.size G0 (.slice none 0 0) g k c (rvCells (List.replicate k rw0))) (fun _ i _ => 8 - (intOf i).toNat)
    case atStart => exact ⟨0, 0, _, Nat.zero_le _, rfl, rfl, HQ0.out⟩
    case round =>
      obtain ⟨k, c, g, hk, rfl, rfl, hq⟩ := hrel
      have HQ := Lib.hid hq
      have zq := hq.l.size
      have gq := hq.o.ge
      clear hq
      by_cases hlt : k < 8
      · have hk' : (k : Int) < 8 := by omega
        go_wp2_with (refine wpList_pushV _ rfl (.tmp 26) (.tmp 28) rfl w2.heap.size g k c (rvCells (List.replicate k rw0)) rw0 wr.heap.size 1 (by rfl) (by rfl) (HQ.out.o.alloc _) (by rw [← HV0.out]; go_simp) (by omega) (by simp; omega) ?_; intro g5 c5 w5 ho5 hb5 hg5 hat5)
        have HP := HQ.out.push _ ho5 hb5 hg5 hat5
        rw [show rvCells (List.replicate k rw0) ++ [rw0.v] = rvCells (List.replicate (k + 1) rw0) by simp [rvCells, List.replicate_succ']] at HP
        go_wp2_with fail
        go_roundw
        case rel => exact ⟨k + 1, c5, g5, by omega, by go_num, rfl, HP⟩
        case measure => first | (simp [intOf]; done) | (simp [intOf]; omega)
      · obtain rfl : k = 8 := by omega
        go_wp2_with fail
        have HW4 : Hid (W0.length = 4) := by show _ = _; rw [HW0.out]; exact rnds_len _ _ 4
        have hrv : RvOk wr (Ap wr w1.heap.size g none) rw0 := by
          rw [HRW.out]
          exact ⟨HW4.out, own_cap' HS.out.o, HS.out.o.rd.keep fun b off e => HQ.out.r.kp (by cases e; exact HS.out.f), fun b off e => by cases e; exact ⟨HQ.out.r.frn HS.out.f, by omega, fun a ha => by cases ha⟩⟩
        have hcs0 : CS W1 wr w1.heap.size w1.heap.size g c G0 none 0 [] (List.replicate 8 rw0) rw0 := ⟨HQ.out.b, own_none _ _ _ _, HQ.out.o.lo (by omega), by simp, (fun a ha => by cases ha), HQ.out.f, (fun a ha => by cases ha), (fun r hr => by obtain rfl := List.eq_of_mem_replicate hr; exact hrv), hrv, HS.out.l.trans HQ.out.l, zW⟩
        have hst0 : cmpL zero0 (us.take 0) cmp0 = (G0, [], regsOf (List.replicate 8 rw0)) := by
          show cmp0 = _
          rw [HRW.out, HG0.out, HW0.out]; rfl
        have HC0 := Lib.hid hcs0
        have HS0 := Lib.hid hst0
        have hz0 : at0 W0 ((0 : Nat) : Int) = zero0 := by rw [HW0.out]; rfl
        have HZ0 := Lib.hid hz0
        clear hrv hcs0 hst0 hz0 hlt hk zq gq
        clear HQ
        go_loopw [10] (fun i wr => ∃ (k : Nat) (ao : Option Addr) (co : Nat) (G : List Gt) (O : List Int) (rs : List RV), k ≤ us.length ∧ i = .int .i64 k ∧ cmpL zero0 (us.take k) cmp0 = (G, O, regsOf rs) ∧ CS W1 wr w1.heap.size w1.heap.size g c G ao co O rs rw0) (fun i _ => us.length - (intOf i).toNat)
        case atStart => exact ⟨0, none, 0, G0, [], _, Nat.zero_le _, rfl, HS0.out, HC0.out⟩
        case round =>
          obtain ⟨k, ao, co, G, O, rs, hk, rfl, hst, hcs⟩ := hrel
          have hok := cmpL_ok HSU.out k hk
          rw [hst] at hok
          have HST := Lib.hid hst
          have HCS := Lib.hid hcs
          have HOK := Lib.hid hok
          have hgl := hok.len
          have hol := hok.ol
          simp only at hgl hol
          have BU := Lib.hid (HBW.out.trans hcs.l)
          have zr := BU.out.size
          have gg := hcs.r.ge
          clear hst hcs hok
          by_cases hlt : k < us.length
          · have hlt' : (k : Int) < (us.length : Int) := by omega
            obtain ⟨b, off, op, dst, sa, sb, sc, sn, hau, hbl, hx, d0, d1, d2, d3, d4, d5⟩ := (HU.out.below BU.out).st k hlt
            have hbL : b < w1.heap.size := by
              have := HU.out
              rw [hau] at this
              rcases this with h | ⟨b', o', e, hc⟩
              · have := congrArg List.length h; rw [stCells_length] at this; simp at this; omega
              · cases e; exact lt_of_cell (hc 0 (by rw [stCells_length]; omega))
            subst hau
            have hsu := HSU.out _ (List.mem_of_getElem? hx)
            have HSN : Hid (cmpL zero0 (us.take (k + 1)) cmp0 = cmpStep zero0 (G, O, regsOf rs) ⟨op, dst, sa, sb, sc, sn⟩) := by show _ = _; rw [cmpL_snoc hx, HST.out]
            have HSS := Lib.hid hsu
            clear hx hsu
            by_cases ho : op = 11
            · subst ho
              have ha := HSS.out.out rfl
              simp only at ha
              obtain ⟨na, rfl⟩ := Int.eq_ofNat_of_zero_le ha.1
              have hna : (na : Int) < 8 := by omega
              obtain ⟨bl, off2, ax, cx, ws, e2, hbl2, kc, HX, HLx, hcx, hrx, hfx⟩ := HCS.out.r.rd.rv HCS.out.ok na (by have := HCS.out.rl; omega)
              cases e2
              rw [Nat.zero_add] at kc
              obtain ⟨bx1, ox1, rfl, hb9, _⟩ := hrx.elem 0 (by omega)
              have HXX := Lib.hid HX
              have HLX := Lib.hid HLx
              have HCD := Lib.hid (HCS.out.below ((Below.refl _ _).drew))
              have HRX := Lib.hid (show RdC wr.drew (some ⟨bx1, ox1, none⟩) (I64 ws) from hrx.below ((Below.refl _ _).drew))
              have snd := HCS.out.b.snd
              have snf := HCS.out.b.f1
              clear hrx hfx HX HLx
              have nbg : b ≠ g := by omega
              have hle := HCS.out.b.le
              go_wp2_with fail
              go_region_law (refine step_appA _ rfl el_int (.tmp 43) (.tmp 51) rfl w1.heap.size O.length co ao (I64 O) (I64 ws) ⟨bx1, ox1, none⟩ 4 cx (by rfl) (by rfl) HCD.out.o (by simp [HLX.out]) HRX.out (I64_one ws) (by omega) (by omega) (by omega) (by simp; omega) ?_; intro g5 c5 w5 ho5 hb5 hg5 hat5; have hB5 := HCD.out.bld hg5; have s5 := hB5.snd; have t5 := hB5.f1; have hN := HCD.out.out (X := ws) (g' := g5) (c' := c5) (by rw [List.length_append, HLX.out, I64_append]; exact ho5) hg5 (hat5.imp id (fun e => by rw [e]; exact Nat.le_refl _)); rw [List.length_append, HLX.out] at hN; have HN := Lib.hid hN; clear hN)
              all_goals go_wp2_with fail
              all_goals go_roundw
              all_goals first
                | (show _ < _; first | (simp [intOf]; done) | (simp [intOf]; omega))
                | exact ⟨k + 1, some ⟨g5, 0, none⟩, c5, G, O ++ ws, rs, by omega, by go_num, by rw [HSN.out]; unfold cmpStep; rw [if_pos rfl, HXX.out], HN.out⟩
                | ((repeat apply Exists.intro); exact ⟨⟨k + 1, some ⟨g5, 0, none⟩, c5, G, O ++ ws, rs, by omega, by go_num, by rw [HSN.out]; unfold cmpStep; rw [if_pos rfl, HXX.out], HN.out⟩, rfl⟩)
            · have ho' : (op == 11) = false := by simp [ho]
              have hsc := HSS.out.st ho
              have hd := HSS.out.dst
              simp only at hd
              obtain ⟨nd, rfl⟩ := Int.eq_ofNat_of_zero_le hd.1
              have HSC := Lib.hid hsc
              clear hsc
              have hnd : (nd : Int) < 8 := by omega
              have HCD := Lib.hid (HCS.out.below ((Below.refl _ _).drew))
              have hw0 := HCS.out.wd.rd.elem 0 (by rw [HCS.out.wd.len]; omega)
              rw [HRW.out] at hw0
              obtain ⟨bz, oz, ez, hbz, cz0⟩ := hw0
              cases ez
              rw [HZ0.out] at cz0
              have cz1 : wr.cell? ⟨gw, 0, none⟩ = some (.int .i64 zero0) := cz0
              have fz := (HCS.out.wd.fr gw 0 (by rw [HRW.out])).1
              have hfb : Frn wr w1.heap.size b := HCS.out.b.frn_lo hbL
              have FB := Lib.hid hfb
              have FZ := Lib.hid fz
              have HD1 := Lib.hid d1
              have HD0 := Lib.hid d0
              have HD2 := Lib.hid d2
              have HD3 := Lib.hid d3
              have HD4 := Lib.hid d4
              have HD5 := Lib.hid d5
              have HCZ := Lib.hid cz1
              have nbg : b ≠ g := by omega
              have nzg : gw ≠ g := (HCS.out.wd.fr gw 0 (by rw [HRW.out])).2.1
              clear cz0 fz hfb hbz
              go_wp2_with fail
              go_region_held3 (fun w' => w'.cell? ⟨b, off + k * 6, none⟩ = some (.int .i64 op) ∧ w'.cell? ⟨b, off + k * 6 + 1, none⟩ = some (.int .i64 nd) ∧ w'.cell? ⟨b, off + k * 6 + 2, none⟩ = some (.int .i64 sa) ∧ w'.cell? ⟨b, off + k * 6 + 3, none⟩ = some (.int .i64 sb) ∧ w'.cell? ⟨b, off + k * 6 + 4, none⟩ = some (.int .i64 sc) ∧ w'.cell? ⟨b, off + k * 6 + 5, none⟩ = some (.int .i64 sn) ∧ w'.cell? ⟨gw, 0, none⟩ = some (.int .i64 zero0))
                (first | (go_keep; done) | (refine ⟨?_, ?_, ?_, ?_, ?_, ?_, ?_⟩ <;> (refine cell_std (by assumption) ?_ <;> first | exact nbg | exact nzg)))
                ((go_at_call 75; refine (l15Word_any ⟨op, nd, sa, sb, sc, sn⟩ HSC.out G _ w1.heap.size w1.heap.size _ HCD.out.b (by omega) rs HCD.out.rl (some ⟨g, 0, none⟩) c HCD.out.r.rd (fun b off e => by cases e; exact HCD.out.fr) (fun r hr => ⟨(HCD.out.ok r hr).len, (HCD.out.ok r hr).cap, (HCD.out.ok r hr).rd, fun b off e => ((HCD.out.ok r hr).fr b off e).1⟩) zero0).mono ?_; rintro e w9 ⟨g9, c9, rfl, h9⟩; have H9 := Lib.hid h9; have z9 : wr.heap.size ≤ w9.heap.size := h9.l.size; have e0 := h9.cell FB.out HD0.out; have e1 := h9.cell FB.out HD1.out; have e2 := h9.cell FB.out HD2.out; have e3 := h9.cell FB.out HD3.out; have e4 := h9.cell FB.out HD4.out; have e5 := h9.cell FB.out HD5.out; have ez := h9.cell FZ.out HCZ.out; obtain ⟨er, fr9⟩ := (HCD.out.r.later (h9.r.kp HCD.out.fr)).cellV nd (by rw [rvCells_length, HCD.out.rl]; omega); have HN := Lib.hid (HCD.out.word (j := nd) h9 (stG_inv HOK.out.ok HOK.out.rw HOK.out.z HSC.out).2.1); clear h9))
              all_goals go_wp2_with fail
              all_goals go_roundw
              all_goals first
                | (show _ < _; first | (simp [intOf]; done) | (simp [intOf]; omega))
                | exact ⟨k + 1, ao, co, _, O, _, by omega, by go_num, by rw [HSN.out]; simp only [cmpStep, if_neg ho, Int.toNat_natCast, regsOf, List.map_set], HN.out⟩
                | ((repeat apply Exists.intro); exact ⟨⟨k + 1, ao, co, _, O, _, by omega, by go_num, by rw [HSN.out]; simp only [cmpStep, if_neg ho, Int.toNat_natCast, regsOf, List.map_set], HN.out⟩, rfl⟩)
          · obtain rfl : k = us.length := by omega
            have hlt' : ¬ ((us.length : Int) < (us.length : Int)) := by omega
            obtain ⟨adR, capR, hcR, hoR, hneR⟩ := HCS.out.b.row
            have hcS := HCS.out.b.snd
            have q0 : wr.cell? ⟨w.heap.size, 0, none⟩ = some (.slice none 0 0) := (BU.out.cell (by simp only; omega)).trans k0
            have q1 : wr.cell? ⟨w.heap.size, 1, none⟩ = some (.slice none 0 0) := (BU.out.cell (by simp only; omega)).trans k1
            have q2 : wr.frozen? ⟨w.heap.size, 0, none⟩ = false := (BU.out.frozen (by simp only; omega)).trans f0
            have q3 : wr.frozen? ⟨w.heap.size, 1, none⟩ = false := (BU.out.frozen (by simp only; omega)).trans f1
            have HOR := Lib.hid hoR
            have HNR := Lib.hid hneR
            clear hoR hneR
            go_wp2_with fail
            refine bodyPost_ret (v := .tuple #[.agg #[.slice adR G.length capR, .slice ao O.length co], .bool true]) (by simp [results, Try.results36, go_sem, *]) rfl ?_
            have hst := HST.out
            rw [List.take_length] at hst
            have eG : cmpG us true = G := by simp [cmpG, hst]
            have eO : cmpO us true = O := by simp [cmpO, hst]
            rw [eG, eO]
            refine ⟨adR, capR, ao, co, rfl, (HOR.out.lo (by omega)).keep fun x hx => ?_, (HCS.out.o.lo (by omega)).keep fun x hx => ?_, fun x y hx hy e => ?_, ?_⟩
            · have := HOR.out.blk x hx; exact (by (repeat (first | with_reducible exact Kp.refl _ _ | (with_reducible refine Kp.rng ?_ (by assumption) ?_) | (with_reducible refine Kp.below ?_ (by assumption)) | (with_reducible refine Kp.grown ?_ (by assumption) ?_) | (with_reducible refine Kp.alloc ?_ _) | (with_reducible refine Kp.drew ?_) | (with_reducible refine Kp.drewN ?_ _) | (with_reducible refine Kp.setCell ?_ _ ?_))) <;> (first | omega | (simp; done) | (simp; omega)))
            · have := HCS.out.o.blk x hx; exact (by (repeat (first | with_reducible exact Kp.refl _ _ | (with_reducible refine Kp.rng ?_ (by assumption) ?_) | (with_reducible refine Kp.below ?_ (by assumption)) | (with_reducible refine Kp.grown ?_ (by assumption) ?_) | (with_reducible refine Kp.alloc ?_ _) | (with_reducible refine Kp.drew ?_) | (with_reducible refine Kp.drewN ?_ _) | (with_reducible refine Kp.setCell ?_ _ ?_))) <;> (first | omega | (simp; done) | (simp; omega)))
            · have f := (HCS.out.fo y hy).2.2
              unfold gblk at f
              rw [hcR, hx] at f
              exact f (by simp [e])
            · have hbu := BU.out
              have hb1 := HB1.out
              exact (by (repeat (first | with_reducible exact Below.refl _ _ | (with_reducible refine bel_next ?_ ?_ (by assumption)) | (with_reducible refine Below.alloc ?_ ?_ _) | (with_reducible refine Below.drew ?_) | (with_reducible refine below_drewN ?_ _) | (with_reducible refine Below.setCell ?_ ?_ _))) <;> (first | omega | (simp; done) | (simp; omega)))

end Go.Proofs.Ytfcijloiebnloaa

/- CmpI -/
namespace Go.Proofs.Ytfcijloiebnloaa
open Go.RowKit
set_option linter.unusedVariables false
set_option linter.unusedSimpArgs false

set_option maxRecDepth 20000 in
set_option maxHeartbeats 8000000 in
theorem ibitwise_any (gs : List Gt) (os : List Int) (a1 a2 : Option Addr) (c1 c2 : Nat) (w : World) (hm : gs.length ≤ 1048576) (hm2 : os.length ≤ 1048576) (hr : RdC w a1 (gtCells gs)) (hr2 : RdC w a2 (I64 os)) (kd : Int) (xs : List Int) (nx : Nat) (ax : Option Addr) (cx : Nat) (hlx : xs.length = nx) (hmx : nx ≤ 1048576) (hrx : RdC w ax (I64 xs)) (ys : List Int) (ny : Nat) (ay : Option Addr) (cy : Nat) (hly : ys.length = ny) (hmy : ny ≤ 1048576) (hry : RdC w ay (I64 ys)) (hx4 : nx = 4) (hy4 : ny = 4) (h59 : gs.length ≤ 5900) :
    Calls Try.prog 105 #[.agg #[.slice a1 gs.length c1, .slice a2 os.length c2], .int .i64 kd, .slice ax nx cx, .slice ay ny cy] w fun e w' => PostW w w' e (wP (true) (bitsP kd xs ys gs) gs []).1 os (wP (true) (bitsP kd xs ys gs) gs []).2 := by
  have HR := Lib.hid hr
  have HR2 := Lib.hid hr2
  have HRx := Lib.hid hrx
  have HRy := Lib.hid hry
  clear hr hr2 hrx hry
  have nH : w.heap.size ≠ w.heap.size + 1 := by omega
  obtain ⟨PG, hPG⟩ : ∃ z, z = (wP (true) (bitsP kd xs ys gs) gs []).1 := ⟨_, rfl⟩
  obtain ⟨PW, hPW⟩ : ∃ z, z = (wP (true) (bitsP kd xs ys gs) gs []).2 := ⟨_, rfl⟩
  rw [← hPG, ← hPW]
  have HPG := Lib.hid hPG
  have HPW := Lib.hid hPW
  clear hPG hPW
  go_enter Try.func105, Try.ntmps105
  go_wp2_with fail
  refine (copyCircuit_any gs os _ _ _ _ _ hm hm2 (HR.out.below (by (repeat (first | with_reducible exact Below.refl _ _ | (with_reducible refine bel_next ?_ ?_ (by assumption)) | (with_reducible refine Below.alloc ?_ ?_ _) | (with_reducible refine Below.drew ?_) | (with_reducible refine below_drewN ?_ _) | (with_reducible refine Below.setCell ?_ ?_ _))) <;> (first | omega | (simp; done) | (simp; omega)))) (HR2.out.below (by (repeat (first | with_reducible exact Below.refl _ _ | (with_reducible refine bel_next ?_ ?_ (by assumption)) | (with_reducible refine Below.alloc ?_ ?_ _) | (with_reducible refine Below.drew ?_) | (with_reducible refine below_drewN ?_ _) | (with_reducible refine Below.setCell ?_ ?_ _))) <;> (first | omega | (simp; done) | (simp; omega))))).mono ?_
  rintro e w1 ⟨g1, d1, g2, d2, rfl, ho1, ho2, hne, hb1⟩
  have z1 := hb1.size
  (try simp at z1)
  have y1a : w.heap.size < w1.heap.size := (by omega)
  have y1b : w.heap.size + 1 < w1.heap.size := (by omega)
  have k1_0 := bel_keeps hb1 (b := w.heap.size) (o := 0) (v := .slice a1 gs.length c1) (by first | (go_simp; done) | assumption)
  have k1_1 := bel_keeps hb1 (b := w.heap.size) (o := 1) (v := .slice a2 os.length c2) (by first | (go_simp; done) | assumption)
  have k1_2 := bel_keeps hb1 (b := w.heap.size + 1) (o := 0) (v := .slice none 0 0) (by first | (go_simp; done) | assumption)
  have k1_3 := bel_keeps hb1 (b := w.heap.size + 1) (o := 1) (v := .slice none 0 0) (by first | (go_simp; done) | assumption)
  have f1_0 := bel_free hb1 (b := w.heap.size + 1) (o := 0) (by first | omega | (simp; done) | (simp; omega)) (by first | (go_simp; done) | assumption)
  have f1_1 := bel_free hb1 (b := w.heap.size + 1) (o := 1) (by first | omega | (simp; done) | (simp; omega)) (by first | (go_simp; done) | assumption)
  have hbw1 : Below w.heap.size w w1 := (by (repeat (first | with_reducible exact Below.refl _ _ | (with_reducible refine bel_next ?_ ?_ (by assumption)) | (with_reducible refine Below.alloc ?_ ?_ _) | (with_reducible refine Below.drew ?_) | (with_reducible refine below_drewN ?_ _) | (with_reducible refine Below.setCell ?_ ?_ _))) <;> (first | omega | (simp; done) | (simp; omega)))
  go_wp2_with fail
  obtain ⟨W, hW⟩ : ∃ W, W = w1.alloc (.cells #[.slice (some ⟨g1, 0, none⟩) gs.length d1, .slice (some ⟨g2, 0, none⟩) os.length d2] 72) := ⟨_, rfl⟩
  obtain ⟨bx, hbx⟩ : ∃ b, b = w1.heap.size := ⟨_, rfl⟩
  rw [← hW, ← hbx]
  have hbW : Below w1.heap.size w1 W := by rw [hW]; exact (Below.refl _ _).alloc (Nat.le_refl _) _
  have HWB := Lib.hid (WB.start (w0 := w) (w := W) (bx := bx) (ho1.lo (by simp)) (ho2.lo (by simp)) hne (hbw1.trans (hbW.mono (by omega))) hbW hbx (by rw [hW]; simp) (by rw [hW, hbx]; go_simp) (by rw [hW, hbx]; go_simp) (by rw [hW, hbx]; go_simp) (by rw [hW, hbx]; go_simp))
  have hbb : w.heap.size + 2 ≤ bx := by omega
  have zW := hbW.size
  (try simp at zW)
  have yWa : w.heap.size < W.heap.size := (by omega)
  have yWb : w.heap.size + 1 < W.heap.size := (by omega)
  have kW_0 := bel_keeps hbW (b := w.heap.size) (o := 0) (v := .slice a1 gs.length c1) (by first | (go_simp; done) | assumption)
  have kW_1 := bel_keeps hbW (b := w.heap.size) (o := 1) (v := .slice a2 os.length c2) (by first | (go_simp; done) | assumption)
  have kW_2 := bel_keeps hbW (b := w.heap.size + 1) (o := 0) (v := .slice none 0 0) (by first | (go_simp; done) | assumption)
  have kW_3 := bel_keeps hbW (b := w.heap.size + 1) (o := 1) (v := .slice none 0 0) (by first | (go_simp; done) | assumption)
  have fW_0 := bel_free hbW (b := w.heap.size + 1) (o := 0) (by first | omega | (simp; done) | (simp; omega)) (by first | (go_simp; done) | assumption)
  have fW_1 := bel_free hbW (b := w.heap.size + 1) (o := 1) (by first | omega | (simp; done) | (simp; omega)) (by first | (go_simp; done) | assumption)
  clear k1_0 k1_1 k1_2 k1_3 f1_0 f1_1
  have hbz : bx + 1 = W.heap.size := (by rw [hW, hbx]; simp)
  clear hW hbx hbW ho1 ho2 hne hb1 hbw1
  obtain ⟨w9, h9⟩ : ∃ X, X = W := ⟨_, rfl⟩
  have hb9 : Below W.heap.size W w9 := by rw [h9]; exact Below.refl _ _
  have hbz9 : bx + 1 = w9.heap.size := by rw [h9]; exact hbz
  rw [← h9, hbz9]
  clear h9 hbz hbz9
  have HWB9 := Lib.hid (HWB.out.below hb9)
  have z9 := hb9.size
  (try simp at z9)
  have y9a : w.heap.size < w9.heap.size := (by omega)
  have y9b : w.heap.size + 1 < w9.heap.size := (by omega)
  have k9_0 := bel_keeps hb9 (b := w.heap.size) (o := 0) (v := .slice a1 gs.length c1) (by first | (go_simp; done) | assumption)
  have k9_1 := bel_keeps hb9 (b := w.heap.size) (o := 1) (v := .slice a2 os.length c2) (by first | (go_simp; done) | assumption)
  have k9_2 := bel_keeps hb9 (b := w.heap.size + 1) (o := 0) (v := .slice none 0 0) (by first | (go_simp; done) | assumption)
  have k9_3 := bel_keeps hb9 (b := w.heap.size + 1) (o := 1) (v := .slice none 0 0) (by first | (go_simp; done) | assumption)
  have f9_0 := bel_free hb9 (b := w.heap.size + 1) (o := 0) (by first | omega | (simp; done) | (simp; omega)) (by first | (go_simp; done) | assumption)
  have f9_1 := bel_free hb9 (b := w.heap.size + 1) (o := 1) (by first | omega | (simp; done) | (simp; omega)) (by first | (go_simp; done) | assumption)
  clear kW_0 kW_1 kW_2 kW_3 fW_0 fW_1
  clear hb9
  have e1 : PG = (bitsP kd xs ys gs).1 := by rw [HPG.out, show (true) = true from rfl]; rfl
  have e2 : PW = (bitsP kd xs ys gs).2 := by rw [HPW.out, show (true) = true from rfl]; rfl
  have HE1 := Lib.hid e1
  have HE2 := Lib.hid e2
  clear e1 e2
  subst hx4; subst hy4
  have HB := Lib.hid HWB9.out.b
  have hBl := HWB9.out.b.le
  have HN2 := Lib.hid HWB9.out.f
  have HFx := Lib.hid (HWB9.out.fra HRx.out (by omega))
  have hrox := HRx.out.below HWB9.out.l
  clear HRx
  have HRx := Lib.hid hrox
  have HLx := Lib.hid hlx
  clear hrox hlx
  have HFy := Lib.hid (HWB9.out.fra HRy.out (by omega))
  have hroy := HRy.out.below HWB9.out.l
  clear HRy
  have HRy := Lib.hid hroy
  have HLy := Lib.hid hly
  clear hroy hly
  obtain ⟨W9, hW9⟩ : ∃ X, X = w9.alloc (.cells #[] 3) := ⟨_, rfl⟩
  have HS0 := Lib.hid (show Bs w9 W9 (w.heap.size + 2) bx gs (.slice (some ⟨g2, 0, none⟩) os.length d2) w9.heap.size 0 0 [] by rw [hW9]; exact Bs.start HWB9.out.b)
  have hBl := HWB9.out.b.le
  go_wp2_with fail
  rw [← hW9]
  clear hW9
  go_loopw [11, 20] (fun u i wr => ∃ (k ct gt : Nat) (G : List Gt) (T : List Int), k ≤ 4 ∧ i = .int .i64 k ∧ u = .slice (some ⟨gt, 0, none⟩) k ct ∧ rnds (fun h k => put1 h ⟨kd, at0 xs k, at0 ys k⟩) gs k = (G, T) ∧ Bs w9 wr (w.heap.size + 2) bx G (.slice (some ⟨g2, 0, none⟩) os.length d2) gt k ct T) (fun _ i _ => 4 - (intOf i).toNat)
  case atStart => exact ⟨0, 0, _, _, _, Nat.zero_le _, rfl, rfl, rfl, HS0.out⟩
  case round =>
    obtain ⟨k, ct, gt, G, T, hk, rfl, rfl, hsp, hbs⟩ := hrel
    have hGl := rnds_le (f := fun h k => put1 h ⟨kd, at0 xs k, at0 ys k⟩) (m := 1) (by intro h k; simp [put1]) gs k
    rw [hsp] at hGl
    simp only at hGl
    have HSP := Lib.hid hsp
    have HBS := Lib.hid hbs
    have zr := hbs.l.size
    have gtl := hbs.ge
    clear hsp hbs
    by_cases hlt : k < 4
    · have hk' : (k : Int) < 4 := by omega
      have HST := Lib.hid (rnds_succ (fun h k => put1 h ⟨kd, at0 xs k, at0 ys k⟩) gs k HSP.out)
      obtain ⟨blx, offx, rfl, hbx, hcx⟩ := HRx.out.elem k (by rw [HLx.out]; exact hlt)
      obtain ⟨vx, hvx⟩ : ∃ z, z = at0 xs (k : Int) := ⟨_, rfl⟩
      rw [← hvx] at hcx
      have HVx := Lib.hid hvx
      have HCx := Lib.hid hcx
      have hcx0 := HBS.out.cell (HFx.out _ _ rfl) HCx.out
      clear hvx hcx
      obtain ⟨bly, offy, rfl, hby, hcy⟩ := HRy.out.elem k (by rw [HLy.out]; exact hlt)
      obtain ⟨vy, hvy⟩ : ∃ z, z = at0 ys (k : Int) := ⟨_, rfl⟩
      rw [← hvy] at hcy
      have HVy := Lib.hid hvy
      have HCy := Lib.hid hcy
      have hcy0 := HBS.out.cell (HFy.out _ _ rfl) HCy.out
      clear hvy hcy
      obtain ⟨G1, e1⟩ : ∃ X, X = G ++ [⟨kd, vx, vy⟩] := ⟨_, rfl⟩
      have E1 := Lib.hid e1
      have L1 := Lib.hid (show G1.length = G.length + 1 by rw [e1]; simp)
      clear e1
      have HPUT : ∀ W, Bld W (w.heap.size + 2) bx G (.slice (some ⟨g2, 0, none⟩) os.length d2) → Calls Try.prog 59 #[.pointer (some ⟨bx, 0, none⟩), .int .i64 kd, .int .i64 vx, .int .i64 vy] W fun e w' => e = .returned (.int .i64 (G.length : Int)) ∧ Bld w' (w.heap.size + 2) bx G1 (.slice (some ⟨g2, 0, none⟩) os.length d2) ∧ Fr bx W w' ∧ Below (w.heap.size + 2) W w' := fun W h => by
        have := bgate_any G kd vx vy (.slice (some ⟨g2, 0, none⟩) os.length d2) (w.heap.size + 2) bx W h (by omega)
        rw [← E1.out] at this; exact this
      have HPT1 := Lib.hid HPUT
      clear HPUT
      have HN : Hid (rnds (fun h k => put1 h ⟨kd, at0 xs k, at0 ys k⟩) gs (k + 1) = (G1, T ++ [(G.length : Int)])) := by show _ = _; rw [HST.out, E1.out, HVx.out, HVy.out]; simp [put1]
      go_wp2_with fail
      go_region_held3 (fun w' => w'.cell? ⟨blx, offx + k, none⟩ = some (.int .i64 vx) ∧ w'.cell? ⟨bly, offy + k, none⟩ = some (.int .i64 vy)) (first | go_keep) (first | (go_at_call 59; refine (HPT1.out _ (HBS.out.drew).b).mono ?_; rintro e w2 ⟨rfl, hB2, hF2, hL2⟩; have S1 := Lib.hid ((HBS.out.drew).on hB2 hF2 hL2); have z1 : wr.heap.size ≤ w2.heap.size := hL2.size; have hcx1 := S1.out.cell (HFx.out _ _ rfl) HCx.out; have hcy1 := S1.out.cell (HFy.out _ _ rfl) HCy.out; clear hB2 hF2 hL2) | (refine step_push _ rfl (.tmp 23) (.tmp 35) rfl w9.heap.size gt k ct T (G.length : Int) w2.heap.size 1 (by rfl) (by rfl) (S1.out.o.alloc _) (by go_simp) (by omega) (by simp; omega) ?_; intro g6 d6 w8 ho6 hb6 hg6 hat6; have HP := Lib.hid (S1.out.push _ ho6 hb6 hg6 hat6); have hcx2 := HP.out.cell (HFx.out _ _ rfl) HCx.out; have hcy2 := HP.out.cell (HFy.out _ _ rfl) HCy.out; clear ho6 hb6 hg6 hat6))
      all_goals go_wp2_with fail
      all_goals go_roundw
      all_goals first
        | (show _ < _; first | (simp [intOf]; done) | (simp [intOf]; omega))
        | exact ⟨k + 1, d6, g6, _, _, by omega, by go_num, rfl, HN.out, HP.out⟩
    · obtain rfl : k = 4 := by omega
      have hp : bitsP kd xs ys gs = (G, T) := HSP.out
      rw [hp] at HE1 HE2
      clear hp
      have HWB10 := Lib.hid (HWB9.out.on HBS.out.b HBS.out.r HBS.out.l)
      have k10_0 := Fr.cell HBS.out.r (HWB9.out.b.frn_lo (by omega)) k9_0
      have k10_1 := Fr.cell HBS.out.r (HWB9.out.b.frn_lo (by omega)) k9_1
      have k10_2 := Fr.cell HBS.out.r (HWB9.out.b.frn_lo (by omega)) k9_2
      have k10_3 := Fr.cell HBS.out.r (HWB9.out.b.frn_lo (by omega)) k9_3
      have f10_0 := Fr.free HBS.out.r (HWB9.out.b.frn_lo (by omega)) f9_0
      have f10_1 := Fr.free HBS.out.r (HWB9.out.b.frn_lo (by omega)) f9_1
      clear k9_0 k9_1 k9_2 k9_3 f9_0 f9_1
      have HS10 := HBS
      obtain ⟨adR, capR, hcR, _, _⟩ := HWB10.out.b.row
      have hc1R := HWB10.out.b.snd
      have hlR := HWB10.out.l
      go_wp2_with fail
      refine bodyPost_ret (v := .tuple #[.agg #[.slice adR (G).length capR, .slice (some ⟨g2, 0, none⟩) os.length d2], .slice (some ⟨gt, 0, none⟩) 4 ct]) (by simp [results, Try.results105, go_sem, *]) rfl ?_
      rw [HE1.out, HE2.out]
      exact HWB10.out.postW hcR (by have := HS10.out.o.len; simpa using this.symm) (by have h1 := HS10.out.ge; have h2 := HWB9.out.b.le; exact HS10.out.o.later (by (repeat (first | with_reducible exact Kp.refl _ _ | (with_reducible refine Kp.rng ?_ (by assumption) ?_) | (with_reducible refine Kp.below ?_ (by assumption)) | (with_reducible refine Kp.grown ?_ (by assumption) ?_) | (with_reducible refine Kp.alloc ?_ _) | (with_reducible refine Kp.drew ?_) | (with_reducible refine Kp.drewN ?_ _) | (with_reducible refine Kp.setCell ?_ _ ?_))) <;> (first | omega | (simp; done) | (simp; omega)))) (fun y e => by obtain rfl := Option.some.inj e; exact ⟨HS10.out.f.2.2, by have h1 := HS10.out.ge; have h2 := HWB9.out.f.1; show gt ≠ g2; omega⟩) (by have := HWB9.out.b.le; omega) (fun b hb => (by (repeat (first | with_reducible exact Kp.refl _ _ | (with_reducible refine Kp.rng ?_ (by assumption) ?_) | (with_reducible refine Kp.below ?_ (by assumption)) | (with_reducible refine Kp.grown ?_ (by assumption) ?_) | (with_reducible refine Kp.alloc ?_ _) | (with_reducible refine Kp.drew ?_) | (with_reducible refine Kp.drewN ?_ _) | (with_reducible refine Kp.setCell ?_ _ ?_))) <;> (first | omega | (simp; done) | (simp; omega)))) (by (repeat (first | with_reducible exact Below.refl _ _ | (with_reducible refine bel_next ?_ ?_ (by assumption)) | (with_reducible refine Below.alloc ?_ ?_ _) | (with_reducible refine Below.drew ?_) | (with_reducible refine below_drewN ?_ _) | (with_reducible refine Below.setCell ?_ ?_ _))) <;> (first | omega | (simp; done) | (simp; omega)))
set_option maxRecDepth 20000 in
set_option maxHeartbeats 8000000 in
theorem iinputWord_any (gs : List Gt) (os : List Int) (a1 a2 : Option Addr) (c1 c2 : Nat) (w : World) (hm : gs.length ≤ 1048576) (hm2 : os.length ≤ 1048576) (hr : RdC w a1 (gtCells gs)) (hr2 : RdC w a2 (I64 os)) (pa sn : Int)  (hp0 : 0 ≤ pa ∧ pa ≤ 4) (hs0 : 0 ≤ sn ∧ sn ≤ 3) (h59 : gs.length ≤ 5900) :
    Calls Try.prog 104 #[.agg #[.slice a1 gs.length c1, .slice a2 os.length c2], .int .i64 pa, .int .i64 sn] w fun e w' => PostW w w' e (wP (true) (inputP (pa * 4 + sn) gs) gs []).1 os (wP (true) (inputP (pa * 4 + sn) gs) gs []).2 := by
  have HR := Lib.hid hr
  have HR2 := Lib.hid hr2
  clear hr hr2
  have nH : w.heap.size ≠ w.heap.size + 1 := by omega
  obtain ⟨PG, hPG⟩ : ∃ z, z = (wP (true) (inputP (pa * 4 + sn) gs) gs []).1 := ⟨_, rfl⟩
  obtain ⟨PW, hPW⟩ : ∃ z, z = (wP (true) (inputP (pa * 4 + sn) gs) gs []).2 := ⟨_, rfl⟩
  rw [← hPG, ← hPW]
  have HPG := Lib.hid hPG
  have HPW := Lib.hid hPW
  clear hPG hPW
  go_enter Try.func104, Try.ntmps104
  go_wp2_with fail
  refine (copyCircuit_any gs os _ _ _ _ _ hm hm2 (HR.out.below (by (repeat (first | with_reducible exact Below.refl _ _ | (with_reducible refine bel_next ?_ ?_ (by assumption)) | (with_reducible refine Below.alloc ?_ ?_ _) | (with_reducible refine Below.drew ?_) | (with_reducible refine below_drewN ?_ _) | (with_reducible refine Below.setCell ?_ ?_ _))) <;> (first | omega | (simp; done) | (simp; omega)))) (HR2.out.below (by (repeat (first | with_reducible exact Below.refl _ _ | (with_reducible refine bel_next ?_ ?_ (by assumption)) | (with_reducible refine Below.alloc ?_ ?_ _) | (with_reducible refine Below.drew ?_) | (with_reducible refine below_drewN ?_ _) | (with_reducible refine Below.setCell ?_ ?_ _))) <;> (first | omega | (simp; done) | (simp; omega))))).mono ?_
  rintro e w1 ⟨g1, d1, g2, d2, rfl, ho1, ho2, hne, hb1⟩
  have z1 := hb1.size
  (try simp at z1)
  have y1a : w.heap.size < w1.heap.size := (by omega)
  have y1b : w.heap.size + 1 < w1.heap.size := (by omega)
  have k1_0 := bel_keeps hb1 (b := w.heap.size) (o := 0) (v := .slice a1 gs.length c1) (by first | (go_simp; done) | assumption)
  have k1_1 := bel_keeps hb1 (b := w.heap.size) (o := 1) (v := .slice a2 os.length c2) (by first | (go_simp; done) | assumption)
  have k1_2 := bel_keeps hb1 (b := w.heap.size + 1) (o := 0) (v := .slice none 0 0) (by first | (go_simp; done) | assumption)
  have k1_3 := bel_keeps hb1 (b := w.heap.size + 1) (o := 1) (v := .slice none 0 0) (by first | (go_simp; done) | assumption)
  have f1_0 := bel_free hb1 (b := w.heap.size + 1) (o := 0) (by first | omega | (simp; done) | (simp; omega)) (by first | (go_simp; done) | assumption)
  have f1_1 := bel_free hb1 (b := w.heap.size + 1) (o := 1) (by first | omega | (simp; done) | (simp; omega)) (by first | (go_simp; done) | assumption)
  have hbw1 : Below w.heap.size w w1 := (by (repeat (first | with_reducible exact Below.refl _ _ | (with_reducible refine bel_next ?_ ?_ (by assumption)) | (with_reducible refine Below.alloc ?_ ?_ _) | (with_reducible refine Below.drew ?_) | (with_reducible refine below_drewN ?_ _) | (with_reducible refine Below.setCell ?_ ?_ _))) <;> (first | omega | (simp; done) | (simp; omega)))
  go_wp2_with fail
  obtain ⟨W, hW⟩ : ∃ W, W = w1.alloc (.cells #[.slice (some ⟨g1, 0, none⟩) gs.length d1, .slice (some ⟨g2, 0, none⟩) os.length d2] 72) := ⟨_, rfl⟩
  obtain ⟨bx, hbx⟩ : ∃ b, b = w1.heap.size := ⟨_, rfl⟩
  rw [← hW, ← hbx]
  have hbW : Below w1.heap.size w1 W := by rw [hW]; exact (Below.refl _ _).alloc (Nat.le_refl _) _
  have HWB := Lib.hid (WB.start (w0 := w) (w := W) (bx := bx) (ho1.lo (by simp)) (ho2.lo (by simp)) hne (hbw1.trans (hbW.mono (by omega))) hbW hbx (by rw [hW]; simp) (by rw [hW, hbx]; go_simp) (by rw [hW, hbx]; go_simp) (by rw [hW, hbx]; go_simp) (by rw [hW, hbx]; go_simp))
  have hbb : w.heap.size + 2 ≤ bx := by omega
  have zW := hbW.size
  (try simp at zW)
  have yWa : w.heap.size < W.heap.size := (by omega)
  have yWb : w.heap.size + 1 < W.heap.size := (by omega)
  have kW_0 := bel_keeps hbW (b := w.heap.size) (o := 0) (v := .slice a1 gs.length c1) (by first | (go_simp; done) | assumption)
  have kW_1 := bel_keeps hbW (b := w.heap.size) (o := 1) (v := .slice a2 os.length c2) (by first | (go_simp; done) | assumption)
  have kW_2 := bel_keeps hbW (b := w.heap.size + 1) (o := 0) (v := .slice none 0 0) (by first | (go_simp; done) | assumption)
  have kW_3 := bel_keeps hbW (b := w.heap.size + 1) (o := 1) (v := .slice none 0 0) (by first | (go_simp; done) | assumption)
  have fW_0 := bel_free hbW (b := w.heap.size + 1) (o := 0) (by first | omega | (simp; done) | (simp; omega)) (by first | (go_simp; done) | assumption)
  have fW_1 := bel_free hbW (b := w.heap.size + 1) (o := 1) (by first | omega | (simp; done) | (simp; omega)) (by first | (go_simp; done) | assumption)
  clear k1_0 k1_1 k1_2 k1_3 f1_0 f1_1
  have hbz : bx + 1 = W.heap.size := (by rw [hW, hbx]; simp)
  clear hW hbx hbW ho1 ho2 hne hb1 hbw1
  obtain ⟨w9, h9⟩ : ∃ X, X = W := ⟨_, rfl⟩
  have hb9 : Below W.heap.size W w9 := by rw [h9]; exact Below.refl _ _
  have hbz9 : bx + 1 = w9.heap.size := by rw [h9]; exact hbz
  rw [← h9, hbz9]
  clear h9 hbz hbz9
  have HWB9 := Lib.hid (HWB.out.below hb9)
  have z9 := hb9.size
  (try simp at z9)
  have y9a : w.heap.size < w9.heap.size := (by omega)
  have y9b : w.heap.size + 1 < w9.heap.size := (by omega)
  have k9_0 := bel_keeps hb9 (b := w.heap.size) (o := 0) (v := .slice a1 gs.length c1) (by first | (go_simp; done) | assumption)
  have k9_1 := bel_keeps hb9 (b := w.heap.size) (o := 1) (v := .slice a2 os.length c2) (by first | (go_simp; done) | assumption)
  have k9_2 := bel_keeps hb9 (b := w.heap.size + 1) (o := 0) (v := .slice none 0 0) (by first | (go_simp; done) | assumption)
  have k9_3 := bel_keeps hb9 (b := w.heap.size + 1) (o := 1) (v := .slice none 0 0) (by first | (go_simp; done) | assumption)
  have f9_0 := bel_free hb9 (b := w.heap.size + 1) (o := 0) (by first | omega | (simp; done) | (simp; omega)) (by first | (go_simp; done) | assumption)
  have f9_1 := bel_free hb9 (b := w.heap.size + 1) (o := 1) (by first | omega | (simp; done) | (simp; omega)) (by first | (go_simp; done) | assumption)
  clear kW_0 kW_1 kW_2 kW_3 fW_0 fW_1
  clear hb9
  have e1 : PG = (inputP (pa * 4 + sn) gs).1 := by rw [HPG.out, show (true) = true from rfl]; rfl
  have e2 : PW = (inputP (pa * 4 + sn) gs).2 := by rw [HPW.out, show (true) = true from rfl]; rfl
  have HE1 := Lib.hid e1
  have HE2 := Lib.hid e2
  clear e1 e2
  have hw1 : IntKind.i64.wrap (pa * 4) = pa * 4 := wrap_i64_id (by omega) (by omega)
  have hw2 : IntKind.i64.wrap (pa * 4 + sn) = pa * 4 + sn := wrap_i64_id (by omega) (by omega)
  have hw3 : IntKind.i64.wrap ((pa * 4 + sn) * 4) = (pa * 4 + sn) * 4 := wrap_i64_id (by omega) (by omega)
  obtain ⟨W9, hW9⟩ : ∃ X, X = w9.alloc (.cells #[] 3) := ⟨_, rfl⟩
  have HS0 := Lib.hid (show Bs w9 W9 (w.heap.size + 2) bx gs (.slice (some ⟨g2, 0, none⟩) os.length d2) w9.heap.size 0 0 [] by rw [hW9]; exact Bs.start HWB9.out.b)
  have hBl := HWB9.out.b.le
  go_wp2_with fail
  rw [← hW9]
  clear hW9
  go_loopw [9, 10] (fun u i wr => ∃ (k ct gt : Nat) (G : List Gt) (T : List Int), k ≤ 4 ∧ i = .int .i64 k ∧ u = .slice (some ⟨gt, 0, none⟩) k ct ∧ rnds (fun h k => put1 h ⟨1, ((pa * 4 + sn) * 4 + k), 0⟩) gs k = (G, T) ∧ Bs w9 wr (w.heap.size + 2) bx G (.slice (some ⟨g2, 0, none⟩) os.length d2) gt k ct T) (fun _ i _ => 4 - (intOf i).toNat)
  case atStart => exact ⟨0, 0, _, _, _, Nat.zero_le _, rfl, rfl, rfl, HS0.out⟩
  case round =>
    obtain ⟨k, ct, gt, G, T, hk, rfl, rfl, hsp, hbs⟩ := hrel
    have hGl := rnds_le (f := fun h k => put1 h ⟨1, ((pa * 4 + sn) * 4 + k), 0⟩) (m := 1) (by intro h k; simp [put1]) gs k
    rw [hsp] at hGl
    simp only at hGl
    have HSP := Lib.hid hsp
    have HBS := Lib.hid hbs
    have zr := hbs.l.size
    have gtl := hbs.ge
    clear hsp hbs
    by_cases hlt : k < 4
    · have hk' : (k : Int) < 4 := by omega
      have hw4 : IntKind.i64.wrap ((pa * 4 + sn) * 4 + k) = ((pa * 4 + sn) * 4 + k) := wrap_i64_id (by omega) (by omega)
      have HST := Lib.hid (rnds_succ (fun h k => put1 h ⟨1, ((pa * 4 + sn) * 4 + k), 0⟩) gs k HSP.out)
      go_wp2_with fail
      refine (bgate_any G 1 ((pa * 4 + sn) * 4 + k) 0 (.slice (some ⟨g2, 0, none⟩) os.length d2) (w.heap.size + 2) bx _ (HBS.out).b (by first | omega | (simp; omega))).mono ?_
      rintro e w2 ⟨rfl, hB2, hF2, hL2⟩
      obtain ⟨G1, e1⟩ : ∃ X, X = G ++ [⟨1, ((pa * 4 + sn) * 4 + k), 0⟩] := ⟨_, rfl⟩
      rw [← e1] at hB2
      have l1 : G1.length = G.length + 1 := by rw [e1]; simp
      have E1 := Lib.hid e1
      have S1 := Lib.hid ((HBS.out).on hB2 hF2 hL2)
      have z1 : wr.heap.size ≤ w2.heap.size := hL2.size
      have L1 := Lib.hid l1
      have n1 : G1.length ≤ 900000 + 100 + 0 := by omega
      clear e1 hB2 hF2 hL2 l1
      go_wp2_with (refine wpList_push _ rfl (.tmp 20) (.tmp 30) rfl w9.heap.size gt k ct T (G.length : Int) w2.heap.size 1 (by rfl) (by rfl) (S1.out.o.alloc _) (by go_simp) (by omega) (by simp; omega) ?_; intro g6 d6 w8 ho6 hb6 hg6 hat6)
      have HN : Hid (rnds (fun h k => put1 h ⟨1, ((pa * 4 + sn) * 4 + k), 0⟩) gs (k + 1) = (G1, T ++ [(G.length : Int)])) := by show _ = _; rw [HST.out, E1.out]; simp [put1]
      have HP := Lib.hid (S1.out.push _ ho6 hb6 hg6 hat6)
      clear ho6 hb6 hg6 hat6
      go_wp2_with fail
      go_roundw
      case rel => exact ⟨k + 1, d6, g6, _, _, by omega, by go_num, rfl, HN.out, HP.out⟩
      case measure => first | (simp [intOf]; done) | (simp [intOf]; omega)
    · obtain rfl : k = 4 := by omega
      have hp : inputP (pa * 4 + sn) gs = (G, T) := HSP.out
      rw [hp] at HE1 HE2
      clear hp
      have HWB10 := Lib.hid (HWB9.out.on HBS.out.b HBS.out.r HBS.out.l)
      have k10_0 := Fr.cell HBS.out.r (HWB9.out.b.frn_lo (by omega)) k9_0
      have k10_1 := Fr.cell HBS.out.r (HWB9.out.b.frn_lo (by omega)) k9_1
      have k10_2 := Fr.cell HBS.out.r (HWB9.out.b.frn_lo (by omega)) k9_2
      have k10_3 := Fr.cell HBS.out.r (HWB9.out.b.frn_lo (by omega)) k9_3
      have f10_0 := Fr.free HBS.out.r (HWB9.out.b.frn_lo (by omega)) f9_0
      have f10_1 := Fr.free HBS.out.r (HWB9.out.b.frn_lo (by omega)) f9_1
      clear k9_0 k9_1 k9_2 k9_3 f9_0 f9_1
      have HS10 := HBS
      obtain ⟨adR, capR, hcR, _, _⟩ := HWB10.out.b.row
      have hc1R := HWB10.out.b.snd
      have hlR := HWB10.out.l
      go_wp2_with fail
      refine bodyPost_ret (v := .tuple #[.agg #[.slice adR (G).length capR, .slice (some ⟨g2, 0, none⟩) os.length d2], .slice (some ⟨gt, 0, none⟩) 4 ct]) (by simp [results, Try.results104, go_sem, *]) rfl ?_
      rw [HE1.out, HE2.out]
      exact HWB10.out.postW hcR (by have := HS10.out.o.len; simpa using this.symm) (by have h1 := HS10.out.ge; have h2 := HWB9.out.b.le; exact HS10.out.o.later (by (repeat (first | with_reducible exact Kp.refl _ _ | (with_reducible refine Kp.rng ?_ (by assumption) ?_) | (with_reducible refine Kp.below ?_ (by assumption)) | (with_reducible refine Kp.grown ?_ (by assumption) ?_) | (with_reducible refine Kp.alloc ?_ _) | (with_reducible refine Kp.drew ?_) | (with_reducible refine Kp.drewN ?_ _) | (with_reducible refine Kp.setCell ?_ _ ?_))) <;> (first | omega | (simp; done) | (simp; omega)))) (fun y e => by obtain rfl := Option.some.inj e; exact ⟨HS10.out.f.2.2, by have h1 := HS10.out.ge; have h2 := HWB9.out.f.1; show gt ≠ g2; omega⟩) (by have := HWB9.out.b.le; omega) (fun b hb => (by (repeat (first | with_reducible exact Kp.refl _ _ | (with_reducible refine Kp.rng ?_ (by assumption) ?_) | (with_reducible refine Kp.below ?_ (by assumption)) | (with_reducible refine Kp.grown ?_ (by assumption) ?_) | (with_reducible refine Kp.alloc ?_ _) | (with_reducible refine Kp.drew ?_) | (with_reducible refine Kp.drewN ?_ _) | (with_reducible refine Kp.setCell ?_ _ ?_))) <;> (first | omega | (simp; done) | (simp; omega)))) (by (repeat (first | with_reducible exact Below.refl _ _ | (with_reducible refine bel_next ?_ ?_ (by assumption)) | (with_reducible refine Below.alloc ?_ ?_ _) | (with_reducible refine Below.drew ?_) | (with_reducible refine below_drewN ?_ _) | (with_reducible refine Below.setCell ?_ ?_ _))) <;> (first | omega | (simp; done) | (simp; omega)))
end Go.Proofs.Ytfcijloiebnloaa

/- WordI -/
namespace Go.Proofs.Ytfcijloiebnloaa
open Go.RowKit
set_option linter.unusedVariables false
set_option linter.unusedSimpArgs false

theorem bsumW (gs : List Gt) (first : Int) (v : Value) (lo bx : Nat) (w : World) (hB : Bld w lo bx gs v) (hn : gs.length ≤ 900000) (xs : List Int) (ax : Option Addr) (cx : Nat) (hlx : xs.length = 4) (hrx : RdC w ax (I64 xs)) (hfx : FrA w bx ax) (ys : List Int) (ay : Option Addr) (cy : Nat) (hly : ys.length = 4) (hry : RdC w ay (I64 ys)) (hfy : FrA w bx ay) (hcx : 4 ≤ cx) :
    Calls Try.prog 68 #[.pointer (some ⟨bx, 0, none⟩), .slice ax 4 cx, .slice ay 4 cy, .int .i64 first, .int .i64 0] w fun e w' => ∃ g c', e = .returned (.slice (some ⟨g, 0, none⟩) 4 c') ∧ Bs w w' lo bx (sumP xs ys first 3 gs).1 v g 4 c' (sumP xs ys first 3 gs).2 := by
  have := bsum0 gs first v lo bx w hB hn xs ax cx hlx hrx hfx ys ay cy hly hry hfy hcx
  simpa only [List.drop_zero, List.take_zero, List.nil_append] using this
set_option maxRecDepth 20000 in
set_option maxHeartbeats 8000000 in
theorem iWordAdd_any (gs : List Gt) (os : List Int) (a1 a2 : Option Addr) (c1 c2 : Nat) (w : World) (hm : gs.length ≤ 1048576) (hm2 : os.length ≤ 1048576) (hr : RdC w a1 (gtCells gs)) (hr2 : RdC w a2 (I64 os))  (xs : List Int) (nx : Nat) (ax : Option Addr) (cx : Nat) (hlx : xs.length = nx) (hmx : nx ≤ 1048576) (hrx : RdC w ax (I64 xs)) (ys : List Int) (ny : Nat) (ay : Option Addr) (cy : Nat) (hly : ys.length = ny) (hmy : ny ≤ 1048576) (hry : RdC w ay (I64 ys)) (hcx : nx ≤ cx) :
    Calls Try.prog 28 #[.agg #[.slice a1 gs.length c1, .slice a2 os.length c2], .slice ax nx cx, .slice ay ny cy] w fun e w' => PostW w w' e (wP (askB gs os xs ys) (sumP xs ys 0 3 gs) gs []).1 os (wP (askB gs os xs ys) (sumP xs ys 0 3 gs) gs []).2 := by
  have HR := Lib.hid hr
  have HR2 := Lib.hid hr2
  have HRx := Lib.hid hrx
  have HRy := Lib.hid hry
  clear hr hr2 hrx hry
  have nH : w.heap.size ≠ w.heap.size + 1 := by omega
  obtain ⟨PG, hPG⟩ : ∃ z, z = (wP (askB gs os xs ys) (sumP xs ys 0 3 gs) gs []).1 := ⟨_, rfl⟩
  obtain ⟨PW, hPW⟩ : ∃ z, z = (wP (askB gs os xs ys) (sumP xs ys 0 3 gs) gs []).2 := ⟨_, rfl⟩
  rw [← hPG, ← hPW]
  have HPG := Lib.hid hPG
  have HPW := Lib.hid hPW
  clear hPG hPW
  go_enter Try.func28, Try.ntmps28
  go_wp2_with fail
  refine (copyCircuit_any gs os _ _ _ _ _ hm hm2 (HR.out.below (by (repeat (first | with_reducible exact Below.refl _ _ | (with_reducible refine bel_next ?_ ?_ (by assumption)) | (with_reducible refine Below.alloc ?_ ?_ _) | (with_reducible refine Below.drew ?_) | (with_reducible refine below_drewN ?_ _) | (with_reducible refine Below.setCell ?_ ?_ _))) <;> (first | omega | (simp; done) | (simp; omega)))) (HR2.out.below (by (repeat (first | with_reducible exact Below.refl _ _ | (with_reducible refine bel_next ?_ ?_ (by assumption)) | (with_reducible refine Below.alloc ?_ ?_ _) | (with_reducible refine Below.drew ?_) | (with_reducible refine below_drewN ?_ _) | (with_reducible refine Below.setCell ?_ ?_ _))) <;> (first | omega | (simp; done) | (simp; omega))))).mono ?_
  rintro e w1 ⟨g1, d1, g2, d2, rfl, ho1, ho2, hne, hb1⟩
  have z1 := hb1.size
  (try simp at z1)
  have y1a : w.heap.size < w1.heap.size := (by omega)
  have y1b : w.heap.size + 1 < w1.heap.size := (by omega)
  have k1_0 := bel_keeps hb1 (b := w.heap.size) (o := 0) (v := .slice a1 gs.length c1) (by first | (go_simp; done) | assumption)
  have k1_1 := bel_keeps hb1 (b := w.heap.size) (o := 1) (v := .slice a2 os.length c2) (by first | (go_simp; done) | assumption)
  have k1_2 := bel_keeps hb1 (b := w.heap.size + 1) (o := 0) (v := .slice none 0 0) (by first | (go_simp; done) | assumption)
  have k1_3 := bel_keeps hb1 (b := w.heap.size + 1) (o := 1) (v := .slice none 0 0) (by first | (go_simp; done) | assumption)
  have f1_0 := bel_free hb1 (b := w.heap.size + 1) (o := 0) (by first | omega | (simp; done) | (simp; omega)) (by first | (go_simp; done) | assumption)
  have f1_1 := bel_free hb1 (b := w.heap.size + 1) (o := 1) (by first | omega | (simp; done) | (simp; omega)) (by first | (go_simp; done) | assumption)
  have hbw1 : Below w.heap.size w w1 := (by (repeat (first | with_reducible exact Below.refl _ _ | (with_reducible refine bel_next ?_ ?_ (by assumption)) | (with_reducible refine Below.alloc ?_ ?_ _) | (with_reducible refine Below.drew ?_) | (with_reducible refine below_drewN ?_ _) | (with_reducible refine Below.setCell ?_ ?_ _))) <;> (first | omega | (simp; done) | (simp; omega)))
  go_wp2_with fail
  obtain ⟨W, hW⟩ : ∃ W, W = w1.alloc (.cells #[.slice (some ⟨g1, 0, none⟩) gs.length d1, .slice (some ⟨g2, 0, none⟩) os.length d2] 72) := ⟨_, rfl⟩
  obtain ⟨bx, hbx⟩ : ∃ b, b = w1.heap.size := ⟨_, rfl⟩
  rw [← hW, ← hbx]
  have hWs : W.heap.size = bx + 1 := by rw [hW, hbx]; simp
  rw [← hWs]
  clear hWs
  have hbW : Below w1.heap.size w1 W := by rw [hW]; exact (Below.refl _ _).alloc (Nat.le_refl _) _
  have HWB := Lib.hid (WB.start (w0 := w) (w := W) (bx := bx) (ho1.lo (by simp)) (ho2.lo (by simp)) hne (hbw1.trans (hbW.mono (by omega))) hbW hbx (by rw [hW]; simp) (by rw [hW, hbx]; go_simp) (by rw [hW, hbx]; go_simp) (by rw [hW, hbx]; go_simp) (by rw [hW, hbx]; go_simp))
  have hbb : w.heap.size + 2 ≤ bx := by omega
  have zW := hbW.size
  (try simp at zW)
  have yWa : w.heap.size < W.heap.size := (by omega)
  have yWb : w.heap.size + 1 < W.heap.size := (by omega)
  have kW_0 := bel_keeps hbW (b := w.heap.size) (o := 0) (v := .slice a1 gs.length c1) (by first | (go_simp; done) | assumption)
  have kW_1 := bel_keeps hbW (b := w.heap.size) (o := 1) (v := .slice a2 os.length c2) (by first | (go_simp; done) | assumption)
  have kW_2 := bel_keeps hbW (b := w.heap.size + 1) (o := 0) (v := .slice none 0 0) (by first | (go_simp; done) | assumption)
  have kW_3 := bel_keeps hbW (b := w.heap.size + 1) (o := 1) (v := .slice none 0 0) (by first | (go_simp; done) | assumption)
  have fW_0 := bel_free hbW (b := w.heap.size + 1) (o := 0) (by first | omega | (simp; done) | (simp; omega)) (by first | (go_simp; done) | assumption)
  have fW_1 := bel_free hbW (b := w.heap.size + 1) (o := 1) (by first | omega | (simp; done) | (simp; omega)) (by first | (go_simp; done) | assumption)
  clear k1_0 k1_1 k1_2 k1_3 f1_0 f1_1
  clear hW hbx hbW ho1 ho2 hne hb1 hbw1
  have hlW := HWB.out.l
  refine (isWordOf2_any gs os _ _ _ _ _ hm hm2 (HR.out.below (hlW.trans (((Below.refl _ _).alloc (Nat.le_refl _) _).mono (by omega)))) (HR2.out.below (hlW.trans (((Below.refl _ _).alloc (Nat.le_refl _) _).mono (by omega)))) xs nx ax cx hlx hmx (HRx.out.below (hlW.trans (((Below.refl _ _).alloc (Nat.le_refl _) _).mono (by omega)))) ys ny ay cy hly hmy (HRy.out.below (hlW.trans (((Below.refl _ _).alloc (Nat.le_refl _) _).mono (by omega)))) W.heap.size 2 (by go_simp) (by go_simp)).mono ?_
  rintro e w9 ⟨rfl, hb0⟩
  have hb9 : Below W.heap.size W w9 := ((Below.refl _ _).alloc (Nat.le_refl _) _).trans (hb0.mono (by simp))
  clear hb0
  have HWB9 := Lib.hid (HWB.out.below hb9)
  have z9 := hb9.size
  (try simp at z9)
  have y9a : w.heap.size < w9.heap.size := (by omega)
  have y9b : w.heap.size + 1 < w9.heap.size := (by omega)
  have k9_0 := bel_keeps hb9 (b := w.heap.size) (o := 0) (v := .slice a1 gs.length c1) (by first | (go_simp; done) | assumption)
  have k9_1 := bel_keeps hb9 (b := w.heap.size) (o := 1) (v := .slice a2 os.length c2) (by first | (go_simp; done) | assumption)
  have k9_2 := bel_keeps hb9 (b := w.heap.size + 1) (o := 0) (v := .slice none 0 0) (by first | (go_simp; done) | assumption)
  have k9_3 := bel_keeps hb9 (b := w.heap.size + 1) (o := 1) (v := .slice none 0 0) (by first | (go_simp; done) | assumption)
  have f9_0 := bel_free hb9 (b := w.heap.size + 1) (o := 0) (by first | omega | (simp; done) | (simp; omega)) (by first | (go_simp; done) | assumption)
  have f9_1 := bel_free hb9 (b := w.heap.size + 1) (o := 1) (by first | omega | (simp; done) | (simp; omega)) (by first | (go_simp; done) | assumption)
  clear kW_0 kW_1 kW_2 kW_3 fW_0 fW_1
  clear hb9
  cases hq : askB gs os xs ys
  · have e1 : PG = gs := by rw [HPG.out, show (askB gs os xs ys) = false from hq]; rfl
    have e2 : PW = [] := by rw [HPW.out, show (askB gs os xs ys) = false from hq]; rfl
    have HE1 := Lib.hid e1
    have HE2 := Lib.hid e2
    clear e1 e2
    obtain ⟨adR, capR, hcR, _, _⟩ := HWB9.out.b.row
    have hc1R := HWB9.out.b.snd
    have hlR := HWB9.out.l
    go_wp2_with fail
    refine bodyPost_ret (v := .tuple #[.agg #[.slice adR gs.length capR, .slice (some ⟨g2, 0, none⟩) os.length d2], .slice none 0 0]) (by simp [results, Try.results28, go_sem, *]) rfl ?_
    rw [HE1.out, HE2.out]
    exact HWB9.out.postW hcR rfl (own_nil _ _ _ _) (fun y e => by cases e) (Nat.le_refl _) (fun b hb => (by (repeat (first | with_reducible exact Kp.refl _ _ | (with_reducible refine Kp.rng ?_ (by assumption) ?_) | (with_reducible refine Kp.below ?_ (by assumption)) | (with_reducible refine Kp.grown ?_ (by assumption) ?_) | (with_reducible refine Kp.alloc ?_ _) | (with_reducible refine Kp.drew ?_) | (with_reducible refine Kp.drewN ?_ _) | (with_reducible refine Kp.setCell ?_ _ ?_))) <;> (first | omega | (simp; done) | (simp; omega)))) (by (repeat (first | with_reducible exact Below.refl _ _ | (with_reducible refine bel_next ?_ ?_ (by assumption)) | (with_reducible refine Below.alloc ?_ ?_ _) | (with_reducible refine Below.drew ?_) | (with_reducible refine below_drewN ?_ _) | (with_reducible refine Below.setCell ?_ ?_ _))) <;> (first | omega | (simp; done) | (simp; omega) | (simp [World.setCell]; omega)))
  · have e1 : PG = (sumP xs ys 0 3 gs).1 := by rw [HPG.out, show (askB gs os xs ys) = true from hq]; rfl
    have e2 : PW = (sumP xs ys 0 3 gs).2 := by rw [HPW.out, show (askB gs os xs ys) = true from hq]; rfl
    have HE1 := Lib.hid e1
    have HE2 := Lib.hid e2
    clear e1 e2
    obtain ⟨hx4, hy4, h59⟩ := askB_len hq
    rw [hlx] at hx4
    rw [hly] at hy4
    subst hx4; subst hy4
    have frx10 := HWB9.out.fra HRx.out (by omega)
    have rdx10 := HRx.out.below HWB9.out.l
    have fry10 := HWB9.out.fra HRy.out (by omega)
    have rdy10 := HRy.out.below HWB9.out.l
    go_wp2_with fail
    refine (bsumW gs 0 _ _ bx _ HWB9.out.b (by omega) xs ax cx hlx rdx10 frx10 ys ay cy hly rdy10 fry10 hcx).mono ?_
    rintro e w10 ⟨h10, c10, rfl, hs10⟩
    have HWB10 := Lib.hid (HWB9.out.on hs10.b hs10.r hs10.l)
    have k10_0 := Fr.cell hs10.r (HWB9.out.b.frn_lo (by omega)) k9_0
    have k10_1 := Fr.cell hs10.r (HWB9.out.b.frn_lo (by omega)) k9_1
    have k10_2 := Fr.cell hs10.r (HWB9.out.b.frn_lo (by omega)) k9_2
    have k10_3 := Fr.cell hs10.r (HWB9.out.b.frn_lo (by omega)) k9_3
    have f10_0 := Fr.free hs10.r (HWB9.out.b.frn_lo (by omega)) f9_0
    have f10_1 := Fr.free hs10.r (HWB9.out.b.frn_lo (by omega)) f9_1
    clear k9_0 k9_1 k9_2 k9_3 f9_0 f9_1
    have HS10 := Lib.hid hs10
    clear hs10 frx10 rdx10 fry10 rdy10
    obtain ⟨adR, capR, hcR, _, _⟩ := HWB10.out.b.row
    have hc1R := HWB10.out.b.snd
    have hlR := HWB10.out.l
    go_wp2_with fail
    refine bodyPost_ret (v := .tuple #[.agg #[.slice adR (sumP xs ys 0 3 gs).1.length capR, .slice (some ⟨g2, 0, none⟩) os.length d2], .slice (some ⟨h10, 0, none⟩) 4 c10]) (by simp [results, Try.results28, go_sem, *]) rfl ?_
    rw [HE1.out, HE2.out]
    exact HWB10.out.postW hcR (by have := HS10.out.o.len; simpa using this.symm) (by have h1 := HS10.out.ge; have h2 := HWB9.out.b.le; exact HS10.out.o.later (by (repeat (first | with_reducible exact Kp.refl _ _ | (with_reducible refine Kp.rng ?_ (by assumption) ?_) | (with_reducible refine Kp.below ?_ (by assumption)) | (with_reducible refine Kp.grown ?_ (by assumption) ?_) | (with_reducible refine Kp.alloc ?_ _) | (with_reducible refine Kp.drew ?_) | (with_reducible refine Kp.drewN ?_ _) | (with_reducible refine Kp.setCell ?_ _ ?_))) <;> (first | omega | (simp; done) | (simp; omega)))) (fun y e => by obtain rfl := Option.some.inj e; exact ⟨HS10.out.f.2.2, by have h1 := HS10.out.ge; have h2 := HWB9.out.f.1; show h10 ≠ g2; omega⟩) (by have := HWB9.out.b.le; omega) (fun b hb => (by (repeat (first | with_reducible exact Kp.refl _ _ | (with_reducible refine Kp.rng ?_ (by assumption) ?_) | (with_reducible refine Kp.below ?_ (by assumption)) | (with_reducible refine Kp.grown ?_ (by assumption) ?_) | (with_reducible refine Kp.alloc ?_ _) | (with_reducible refine Kp.drew ?_) | (with_reducible refine Kp.drewN ?_ _) | (with_reducible refine Kp.setCell ?_ _ ?_))) <;> (first | omega | (simp; done) | (simp; omega)))) (by (repeat (first | with_reducible exact Below.refl _ _ | (with_reducible refine bel_next ?_ ?_ (by assumption)) | (with_reducible refine Below.alloc ?_ ?_ _) | (with_reducible refine Below.drew ?_) | (with_reducible refine below_drewN ?_ _) | (with_reducible refine Below.setCell ?_ ?_ _))) <;> (first | omega | (simp; done) | (simp; omega)))
set_option maxRecDepth 20000 in
set_option maxHeartbeats 8000000 in
theorem iWordSub_any (gs : List Gt) (os : List Int) (a1 a2 : Option Addr) (c1 c2 : Nat) (w : World) (hm : gs.length ≤ 1048576) (hm2 : os.length ≤ 1048576) (hr : RdC w a1 (gtCells gs)) (hr2 : RdC w a2 (I64 os))  (xs : List Int) (nx : Nat) (ax : Option Addr) (cx : Nat) (hlx : xs.length = nx) (hmx : nx ≤ 1048576) (hrx : RdC w ax (I64 xs)) (ys : List Int) (ny : Nat) (ay : Option Addr) (cy : Nat) (hly : ys.length = ny) (hmy : ny ≤ 1048576) (hry : RdC w ay (I64 ys)) (hcx : nx ≤ cx) :
    Calls Try.prog 32 #[.agg #[.slice a1 gs.length c1, .slice a2 os.length c2], .slice ax nx cx, .slice ay ny cy] w fun e w' => PostW w w' e (wP (askB gs os xs ys) (sumP xs (notsP ys gs).2 1 3 (notsP ys gs).1) gs []).1 os (wP (askB gs os xs ys) (sumP xs (notsP ys gs).2 1 3 (notsP ys gs).1) gs []).2 := by
  have HR := Lib.hid hr
  have HR2 := Lib.hid hr2
  have HRx := Lib.hid hrx
  have HRy := Lib.hid hry
  clear hr hr2 hrx hry
  have nH : w.heap.size ≠ w.heap.size + 1 := by omega
  obtain ⟨PG, hPG⟩ : ∃ z, z = (wP (askB gs os xs ys) (sumP xs (notsP ys gs).2 1 3 (notsP ys gs).1) gs []).1 := ⟨_, rfl⟩
  obtain ⟨PW, hPW⟩ : ∃ z, z = (wP (askB gs os xs ys) (sumP xs (notsP ys gs).2 1 3 (notsP ys gs).1) gs []).2 := ⟨_, rfl⟩
  rw [← hPG, ← hPW]
  have HPG := Lib.hid hPG
  have HPW := Lib.hid hPW
  clear hPG hPW
  go_enter Try.func32, Try.ntmps32
  go_wp2_with fail
  refine (copyCircuit_any gs os _ _ _ _ _ hm hm2 (HR.out.below (by (repeat (first | with_reducible exact Below.refl _ _ | (with_reducible refine bel_next ?_ ?_ (by assumption)) | (with_reducible refine Below.alloc ?_ ?_ _) | (with_reducible refine Below.drew ?_) | (with_reducible refine below_drewN ?_ _) | (with_reducible refine Below.setCell ?_ ?_ _))) <;> (first | omega | (simp; done) | (simp; omega)))) (HR2.out.below (by (repeat (first | with_reducible exact Below.refl _ _ | (with_reducible refine bel_next ?_ ?_ (by assumption)) | (with_reducible refine Below.alloc ?_ ?_ _) | (with_reducible refine Below.drew ?_) | (with_reducible refine below_drewN ?_ _) | (with_reducible refine Below.setCell ?_ ?_ _))) <;> (first | omega | (simp; done) | (simp; omega))))).mono ?_
  rintro e w1 ⟨g1, d1, g2, d2, rfl, ho1, ho2, hne, hb1⟩
  have z1 := hb1.size
  (try simp at z1)
  have y1a : w.heap.size < w1.heap.size := (by omega)
  have y1b : w.heap.size + 1 < w1.heap.size := (by omega)
  have k1_0 := bel_keeps hb1 (b := w.heap.size) (o := 0) (v := .slice a1 gs.length c1) (by first | (go_simp; done) | assumption)
  have k1_1 := bel_keeps hb1 (b := w.heap.size) (o := 1) (v := .slice a2 os.length c2) (by first | (go_simp; done) | assumption)
  have k1_2 := bel_keeps hb1 (b := w.heap.size + 1) (o := 0) (v := .slice none 0 0) (by first | (go_simp; done) | assumption)
  have k1_3 := bel_keeps hb1 (b := w.heap.size + 1) (o := 1) (v := .slice none 0 0) (by first | (go_simp; done) | assumption)
  have f1_0 := bel_free hb1 (b := w.heap.size + 1) (o := 0) (by first | omega | (simp; done) | (simp; omega)) (by first | (go_simp; done) | assumption)
  have f1_1 := bel_free hb1 (b := w.heap.size + 1) (o := 1) (by first | omega | (simp; done) | (simp; omega)) (by first | (go_simp; done) | assumption)
  have hbw1 : Below w.heap.size w w1 := (by (repeat (first | with_reducible exact Below.refl _ _ | (with_reducible refine bel_next ?_ ?_ (by assumption)) | (with_reducible refine Below.alloc ?_ ?_ _) | (with_reducible refine Below.drew ?_) | (with_reducible refine below_drewN ?_ _) | (with_reducible refine Below.setCell ?_ ?_ _))) <;> (first | omega | (simp; done) | (simp; omega)))
  go_wp2_with fail
  obtain ⟨W, hW⟩ : ∃ W, W = w1.alloc (.cells #[.slice (some ⟨g1, 0, none⟩) gs.length d1, .slice (some ⟨g2, 0, none⟩) os.length d2] 72) := ⟨_, rfl⟩
  obtain ⟨bx, hbx⟩ : ∃ b, b = w1.heap.size := ⟨_, rfl⟩
  rw [← hW, ← hbx]
  have hWs : W.heap.size = bx + 1 := by rw [hW, hbx]; simp
  rw [← hWs]
  clear hWs
  have hbW : Below w1.heap.size w1 W := by rw [hW]; exact (Below.refl _ _).alloc (Nat.le_refl _) _
  have HWB := Lib.hid (WB.start (w0 := w) (w := W) (bx := bx) (ho1.lo (by simp)) (ho2.lo (by simp)) hne (hbw1.trans (hbW.mono (by omega))) hbW hbx (by rw [hW]; simp) (by rw [hW, hbx]; go_simp) (by rw [hW, hbx]; go_simp) (by rw [hW, hbx]; go_simp) (by rw [hW, hbx]; go_simp))
  have hbb : w.heap.size + 2 ≤ bx := by omega
  have zW := hbW.size
  (try simp at zW)
  have yWa : w.heap.size < W.heap.size := (by omega)
  have yWb : w.heap.size + 1 < W.heap.size := (by omega)
  have kW_0 := bel_keeps hbW (b := w.heap.size) (o := 0) (v := .slice a1 gs.length c1) (by first | (go_simp; done) | assumption)
  have kW_1 := bel_keeps hbW (b := w.heap.size) (o := 1) (v := .slice a2 os.length c2) (by first | (go_simp; done) | assumption)
  have kW_2 := bel_keeps hbW (b := w.heap.size + 1) (o := 0) (v := .slice none 0 0) (by first | (go_simp; done) | assumption)
  have kW_3 := bel_keeps hbW (b := w.heap.size + 1) (o := 1) (v := .slice none 0 0) (by first | (go_simp; done) | assumption)
  have fW_0 := bel_free hbW (b := w.heap.size + 1) (o := 0) (by first | omega | (simp; done) | (simp; omega)) (by first | (go_simp; done) | assumption)
  have fW_1 := bel_free hbW (b := w.heap.size + 1) (o := 1) (by first | omega | (simp; done) | (simp; omega)) (by first | (go_simp; done) | assumption)
  clear k1_0 k1_1 k1_2 k1_3 f1_0 f1_1
  clear hW hbx hbW ho1 ho2 hne hb1 hbw1
  have hlW := HWB.out.l
  refine (isWordOf2_any gs os _ _ _ _ _ hm hm2 (HR.out.below (hlW.trans (((Below.refl _ _).alloc (Nat.le_refl _) _).mono (by omega)))) (HR2.out.below (hlW.trans (((Below.refl _ _).alloc (Nat.le_refl _) _).mono (by omega)))) xs nx ax cx hlx hmx (HRx.out.below (hlW.trans (((Below.refl _ _).alloc (Nat.le_refl _) _).mono (by omega)))) ys ny ay cy hly hmy (HRy.out.below (hlW.trans (((Below.refl _ _).alloc (Nat.le_refl _) _).mono (by omega)))) W.heap.size 2 (by go_simp) (by go_simp)).mono ?_
  rintro e w9 ⟨rfl, hb0⟩
  have hb9 : Below W.heap.size W w9 := ((Below.refl _ _).alloc (Nat.le_refl _) _).trans (hb0.mono (by simp))
  clear hb0
  have HWB9 := Lib.hid (HWB.out.below hb9)
  have z9 := hb9.size
  (try simp at z9)
  have y9a : w.heap.size < w9.heap.size := (by omega)
  have y9b : w.heap.size + 1 < w9.heap.size := (by omega)
  have k9_0 := bel_keeps hb9 (b := w.heap.size) (o := 0) (v := .slice a1 gs.length c1) (by first | (go_simp; done) | assumption)
  have k9_1 := bel_keeps hb9 (b := w.heap.size) (o := 1) (v := .slice a2 os.length c2) (by first | (go_simp; done) | assumption)
  have k9_2 := bel_keeps hb9 (b := w.heap.size + 1) (o := 0) (v := .slice none 0 0) (by first | (go_simp; done) | assumption)
  have k9_3 := bel_keeps hb9 (b := w.heap.size + 1) (o := 1) (v := .slice none 0 0) (by first | (go_simp; done) | assumption)
  have f9_0 := bel_free hb9 (b := w.heap.size + 1) (o := 0) (by first | omega | (simp; done) | (simp; omega)) (by first | (go_simp; done) | assumption)
  have f9_1 := bel_free hb9 (b := w.heap.size + 1) (o := 1) (by first | omega | (simp; done) | (simp; omega)) (by first | (go_simp; done) | assumption)
  clear kW_0 kW_1 kW_2 kW_3 fW_0 fW_1
  clear hb9
  cases hq : askB gs os xs ys
  · have e1 : PG = gs := by rw [HPG.out, show (askB gs os xs ys) = false from hq]; rfl
    have e2 : PW = [] := by rw [HPW.out, show (askB gs os xs ys) = false from hq]; rfl
    have HE1 := Lib.hid e1
    have HE2 := Lib.hid e2
    clear e1 e2
    obtain ⟨adR, capR, hcR, _, _⟩ := HWB9.out.b.row
    have hc1R := HWB9.out.b.snd
    have hlR := HWB9.out.l
    go_wp2_with fail
    refine bodyPost_ret (v := .tuple #[.agg #[.slice adR gs.length capR, .slice (some ⟨g2, 0, none⟩) os.length d2], .slice none 0 0]) (by simp [results, Try.results32, go_sem, *]) rfl ?_
    rw [HE1.out, HE2.out]
    exact HWB9.out.postW hcR rfl (own_nil _ _ _ _) (fun y e => by cases e) (Nat.le_refl _) (fun b hb => (by (repeat (first | with_reducible exact Kp.refl _ _ | (with_reducible refine Kp.rng ?_ (by assumption) ?_) | (with_reducible refine Kp.below ?_ (by assumption)) | (with_reducible refine Kp.grown ?_ (by assumption) ?_) | (with_reducible refine Kp.alloc ?_ _) | (with_reducible refine Kp.drew ?_) | (with_reducible refine Kp.drewN ?_ _) | (with_reducible refine Kp.setCell ?_ _ ?_))) <;> (first | omega | (simp; done) | (simp; omega)))) (by (repeat (first | with_reducible exact Below.refl _ _ | (with_reducible refine bel_next ?_ ?_ (by assumption)) | (with_reducible refine Below.alloc ?_ ?_ _) | (with_reducible refine Below.drew ?_) | (with_reducible refine below_drewN ?_ _) | (with_reducible refine Below.setCell ?_ ?_ _))) <;> (first | omega | (simp; done) | (simp; omega) | (simp [World.setCell]; omega)))
  · have e1 : PG = (sumP xs (notsP ys gs).2 1 3 (notsP ys gs).1).1 := by rw [HPG.out, show (askB gs os xs ys) = true from hq]; rfl
    have e2 : PW = (sumP xs (notsP ys gs).2 1 3 (notsP ys gs).1).2 := by rw [HPW.out, show (askB gs os xs ys) = true from hq]; rfl
    have HE1 := Lib.hid e1
    have HE2 := Lib.hid e2
    clear e1 e2
    obtain ⟨hx4, hy4, h59⟩ := askB_len hq
    rw [hlx] at hx4
    rw [hly] at hy4
    subst hx4; subst hy4
    have frx10 := HWB9.out.fra HRx.out (by omega)
    have rdx10 := HRx.out.below HWB9.out.l
    have fry10 := HWB9.out.fra HRy.out (by omega)
    have rdy10 := HRy.out.below HWB9.out.l
    go_wp2_with fail
    refine (nots_any gs _ _ bx _ HWB9.out.b (by omega) ys ay cy hly rdy10 fry10).mono ?_
    rintro e w10 ⟨h10, c10, rfl, hs10⟩
    have HWB10 := Lib.hid (HWB9.out.on hs10.b hs10.r hs10.l)
    have k10_0 := Fr.cell hs10.r (HWB9.out.b.frn_lo (by omega)) k9_0
    have k10_1 := Fr.cell hs10.r (HWB9.out.b.frn_lo (by omega)) k9_1
    have k10_2 := Fr.cell hs10.r (HWB9.out.b.frn_lo (by omega)) k9_2
    have k10_3 := Fr.cell hs10.r (HWB9.out.b.frn_lo (by omega)) k9_3
    have f10_0 := Fr.free hs10.r (HWB9.out.b.frn_lo (by omega)) f9_0
    have f10_1 := Fr.free hs10.r (HWB9.out.b.frn_lo (by omega)) f9_1
    clear k9_0 k9_1 k9_2 k9_3 f9_0 f9_1
    have HS10 := Lib.hid hs10
    clear hs10 frx10 rdx10 fry10 rdy10
    have frx11 := HWB10.out.fra HRx.out (by omega)
    have rdx11 := HRx.out.below HWB10.out.l
    have fry11 := HWB10.out.fra HRy.out (by omega)
    have rdy11 := HRy.out.below HWB10.out.l
    go_wp2_with fail
    refine (bsumW (notsP ys gs).1 1 _ _ bx _ HWB10.out.b (by have := (notsP_len ys gs).1; omega) xs ax cx hlx rdx11 frx11 (notsP ys gs).2 (some ⟨h10, 0, none⟩) c10 (notsP_len ys gs).2 HS10.out.o.rd (fun b off e => by cases e; exact HS10.out.f) hcx).mono ?_
    rintro e w11 ⟨h11, c11, rfl, hs11⟩
    have HWB11 := Lib.hid (HWB10.out.on hs11.b hs11.r hs11.l)
    have k11_0 := Fr.cell hs11.r (HWB10.out.b.frn_lo (by omega)) k10_0
    have k11_1 := Fr.cell hs11.r (HWB10.out.b.frn_lo (by omega)) k10_1
    have k11_2 := Fr.cell hs11.r (HWB10.out.b.frn_lo (by omega)) k10_2
    have k11_3 := Fr.cell hs11.r (HWB10.out.b.frn_lo (by omega)) k10_3
    have f11_0 := Fr.free hs11.r (HWB10.out.b.frn_lo (by omega)) f10_0
    have f11_1 := Fr.free hs11.r (HWB10.out.b.frn_lo (by omega)) f10_1
    clear k10_0 k10_1 k10_2 k10_3 f10_0 f10_1
    have HS11 := Lib.hid hs11
    clear hs11 frx11 rdx11 fry11 rdy11
    obtain ⟨adR, capR, hcR, _, _⟩ := HWB11.out.b.row
    have hc1R := HWB11.out.b.snd
    have hlR := HWB11.out.l
    go_wp2_with fail
    refine bodyPost_ret (v := .tuple #[.agg #[.slice adR (sumP xs (notsP ys gs).2 1 3 (notsP ys gs).1).1.length capR, .slice (some ⟨g2, 0, none⟩) os.length d2], .slice (some ⟨h11, 0, none⟩) 4 c11]) (by simp [results, Try.results32, go_sem, *]) rfl ?_
    rw [HE1.out, HE2.out]
    exact HWB11.out.postW hcR (by have := HS11.out.o.len; simpa using this.symm) (by have h1 := HS11.out.ge; have h2 := HWB10.out.b.le; exact HS11.out.o.later (by (repeat (first | with_reducible exact Kp.refl _ _ | (with_reducible refine Kp.rng ?_ (by assumption) ?_) | (with_reducible refine Kp.below ?_ (by assumption)) | (with_reducible refine Kp.grown ?_ (by assumption) ?_) | (with_reducible refine Kp.alloc ?_ _) | (with_reducible refine Kp.drew ?_) | (with_reducible refine Kp.drewN ?_ _) | (with_reducible refine Kp.setCell ?_ _ ?_))) <;> (first | omega | (simp; done) | (simp; omega)))) (fun y e => by obtain rfl := Option.some.inj e; exact ⟨HS11.out.f.2.2, by have h1 := HS11.out.ge; have h2 := HWB10.out.f.1; show h11 ≠ g2; omega⟩) (by have := HWB10.out.b.le; omega) (fun b hb => (by (repeat (first | with_reducible exact Kp.refl _ _ | (with_reducible refine Kp.rng ?_ (by assumption) ?_) | (with_reducible refine Kp.below ?_ (by assumption)) | (with_reducible refine Kp.grown ?_ (by assumption) ?_) | (with_reducible refine Kp.alloc ?_ _) | (with_reducible refine Kp.drew ?_) | (with_reducible refine Kp.drewN ?_ _) | (with_reducible refine Kp.setCell ?_ _ ?_))) <;> (first | omega | (simp; done) | (simp; omega)))) (by (repeat (first | with_reducible exact Below.refl _ _ | (with_reducible refine bel_next ?_ ?_ (by assumption)) | (with_reducible refine Below.alloc ?_ ?_ _) | (with_reducible refine Below.drew ?_) | (with_reducible refine below_drewN ?_ _) | (with_reducible refine Below.setCell ?_ ?_ _))) <;> (first | omega | (simp; done) | (simp; omega)))
end Go.Proofs.Ytfcijloiebnloaa
