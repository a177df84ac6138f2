/- CmpP, CmpV, CmpW, CmpT0, CmpI, WordI, in one text. -/
import Derived.Test.YtfcijloiebnloaaMulF0
import Derived.Test.YtfcijloiebnloaaStmt
import Derived.StillTailTactics
import Derived.Deep.RegionHeld3
import Derived.Deep.RegionLaw
import Derived.Test.YtfcijloiebnloaaCmpAllA
import Derived.Test.YtfcijloiebnloaaWordS0
/- CmpP -/
namespace Go.Proofs.Ytfcijloiebnloaa
open Go.RowKit
set_option linter.unusedVariables false
set_option linter.unusedSimpArgs false

/-- A register in memory: its word, and where it lies. -/
structure RV where
  ad : Option Addr
  cp : Nat
  l : List Int
def RV.v (r : RV) : Value := .slice r.ad 4 r.cp
def rvCells (rs : List RV) : List Value := rs.map RV.v
def regsOf (rs : List RV) : List (List Int) := rs.map RV.l
def rgA (regs : List (List Int)) (i : Int) : List Int := regs.getD i.toNat []
theorem rvCells_length (rs : List RV) : (rvCells rs).length = rs.length := by simp [rvCells]
/-- A word of a register can be read, and stands apart from what F bars. -/
structure RvOk (w : World) (F : Option Addr → Prop) (r : RV) : Prop where
  len : r.l.length = 4
  cap : 4 ≤ r.cp
  rd : RdC w r.ad (I64 r.l)
  fr : F r.ad
theorem RdC.elemV {w : World} {ad : Option Addr} {cs : List Value} (h : RdC w ad cs) (k : Nat) (hk : k < cs.length) : ∃ b off, ad = some ⟨b, off, none⟩ ∧ b < w.heap.size ∧ w.cell? ⟨b, off + k, none⟩ = some cs[k] := by
  rcases h with h | ⟨b, off, h1, h2⟩
  · rw [h] at hk; simp at hk
  · exact ⟨b, off, h1, lt_of_cell (h2 k hk), h2 k hk⟩
/-- One register. -/
theorem RdC.rv {w : World} {ad : Option Addr} {rs : List RV} {F : Option Addr → Prop} (h : RdC w ad (rvCells rs)) (hok : ∀ r ∈ rs, RvOk w F r) (k : Nat) (hk : k < rs.length) :
    ∃ (b off : Nat) (ax : Option Addr) (cx : Nat) (xs : List Int), ad = some ⟨b, off, none⟩ ∧ b < w.heap.size ∧ w.cell? ⟨b, off + k, none⟩ = some (.slice ax 4 cx) ∧ rgA (regsOf rs) (k : Int) = xs ∧ xs.length = 4 ∧ 4 ≤ cx ∧ RdC w ax (I64 xs) ∧ F ax := by
  obtain ⟨b, off, e, hb, hc⟩ := h.elemV k (by rw [rvCells_length]; exact hk)
  have hr := hok rs[k] (List.getElem_mem hk)
  refine ⟨b, off, rs[k].ad, rs[k].cp, rs[k].l, e, hb, ?_, ?_, hr.len, hr.cap, hr.rd, hr.fr⟩
  · rw [hc]; simp [rvCells, RV.v]
  · simp [rgA, regsOf, List.getD, hk]
theorem Bs.back {w W W2 : World} {lo bx g k c : Nat} {gs G : List Gt} {v : Value} {T : List Int} (hB : Bld w lo bx gs v) (h : Below w.heap.size w W) (h2 : Bs W W2 lo bx G v g k c T) : Bs w W2 lo bx G v g k c T :=
  ⟨h2.b, h2.o.lo h.size, h2.f, (Fr.below hB h).trans h2.r, (h.mono hB.le).trans h2.l, hB.le⟩
theorem FrA.below {w W : World} {lo bx : Nat} {gs : List Gt} {v : Value} {ad : Option Addr} (hB : Bld w lo bx gs v) (h : Below w.heap.size w W) (hf : FrA w bx ad) : FrA W bx ad := (Fr.below hB h).fra hf
theorem own_four (w : World) (x y z t : Int) : Own (w.alloc (.cells #[.int .i64 x, .int .i64 y, .int .i64 z, .int .i64 t] 3)) w.heap.size 3 1 (some ⟨w.heap.size, 0, none⟩) 4 4 (I64 [x, y, z, t]) := by
  refine ⟨by simp, .inr ⟨w.heap.size, 4, #[.int .i64 x, .int .i64 y, .int .i64 z, .int .i64 t], rfl, Nat.le_refl _, heap_alloc_new w _, Nat.le_refl _, by unfold maxLen; omega, ?_⟩⟩
  exact ⟨rfl, rfl⟩
/-- A list of four, made behind a gate. -/
theorem Bs.mk4 {w W : World} {lo bx : Nat} {gs G : List Gt} {v : Value} (hB : Bld w lo bx gs v) (h : Bld W lo bx G v) (hF : Fr bx w W) (hL : Below lo w W) (x y z t : Int) : Bs w (W.alloc (.cells #[.int .i64 x, .int .i64 y, .int .i64 z, .int .i64 t] 3)) lo bx G v W.heap.size 4 4 [x, y, z, t] := by
  have h2 : Bs W (W.alloc (.cells #[.int .i64 x, .int .i64 y, .int .i64 z, .int .i64 t] 3)) lo bx G v W.heap.size 4 4 [x, y, z, t] := ⟨h.al _, own_four W x y z t, frn_new h (fun b hb => Below.heap_alloc _ _ _ (h.mine hb)) (Nat.le_refl _) (by simp), Fr.al h _, (Below.refl _ _).alloc h.le _, h.le⟩
  exact ⟨h2.b, h2.o.lo hL.size, h2.f, hF.trans h2.r, hL.trans h2.l, hB.le⟩
theorem and7 (n : Nat) (h : n < 8) : bits BinOp.and IntKind.i64 (n : Int) 7 = n := by
  have : n = 0 ∨ n = 1 ∨ n = 2 ∨ n = 3 ∨ n = 4 ∨ n = 5 ∨ n = 6 ∨ n = 7 := by omega
  rcases this with rfl | rfl | rfl | rfl | rfl | rfl | rfl | rfl <;> rfl
/-- The gates of a statement, and the word of its register. -/
def stG (regs : List (List Int)) (zero : Int) (s : St) (gs : List Gt) : List Gt × List Int :=
  if s.op = 1 then constP s.n gs
  else if s.op = 2 then inputP (s.a * 4 + s.n) gs
  else if s.op = 3 then sumP (rgA regs s.a) (rgA regs s.b) 0 3 gs
  else if s.op = 4 then sumP (rgA regs s.a) (notsP (rgA regs s.b) gs).2 1 3 (notsP (rgA regs s.b) gs).1
  else if s.op = 5 then mulP (rgA regs s.a) (rgA regs s.b) gs
  else if s.op = 6 then bitsP 4 (rgA regs s.a) (rgA regs s.b) gs
  else if s.op = 7 then bitsP 3 (rgA regs s.a) (rgA regs s.b) gs
  else if s.op = 8 then ((lessP (rgA regs s.a) (rgA regs s.b) gs).1, [(lessP (rgA regs s.a) (rgA regs s.b) gs).2, zero, zero, zero])
  else if s.op = 9 then ((equalP (rgA regs s.a) (rgA regs s.b) gs).1, [(equalP (rgA regs s.a) (rgA regs s.b) gs).2, zero, zero, zero])
  else muxP (at0 (rgA regs s.a) (0 : Nat)) (rgA regs s.b) (rgA regs s.c) gs
/-- What a statement of an unrolled program is, an output apart. -/
structure StC (s : St) : Prop where
  o1 : 1 ≤ s.op
  o2 : s.op ≤ 10
  a : 0 ≤ s.a ∧ s.a < 8
  b : 0 ≤ s.b ∧ s.b < 8
  c : 0 ≤ s.c ∧ s.c < 8
  k : s.op = 1 → 0 ≤ s.n ∧ s.n ≤ 15
  i : s.op = 2 → s.a ≤ 4 ∧ 0 ≤ s.n ∧ s.n ≤ 3

end Go.Proofs.Ytfcijloiebnloaa

/- CmpV -/
namespace Go.Proofs.Ytfcijloiebnloaa
open Go.RowKit
set_option linter.unusedVariables false
set_option linter.unusedSimpArgs false

theorem stG_inv {gs : List Gt} {regs : List (List Int)} {zero : Int} {s : St} (hok : gtsOk 0 gs = true) (hr : ∀ i : Nat, i < 8 → Wrs gs 4 (rgA regs (i : Int))) (hz : 0 ≤ zero ∧ zero < gs.length) (hs : StC s) :
    Bd gs 34 (stG regs zero s gs).1 ∧ Wrs (stG regs zero s gs).1 4 (stG regs zero s gs).2 := by
  obtain ⟨op, dst, sa, sb, sc, sn⟩ := s
  have ha := hs.a
  have hb := hs.b
  have hc := hs.c
  have h1 := hs.o1
  have h2 := hs.o2
  have hi := hs.i
  clear hs
  simp only at ha hb hc h1 h2 hi
  obtain ⟨na, rfl⟩ := Int.eq_ofNat_of_zero_le ha.1
  obtain ⟨nb, rfl⟩ := Int.eq_ofNat_of_zero_le hb.1
  obtain ⟨nc, rfl⟩ := Int.eq_ofNat_of_zero_le hc.1
  have wx := hr na (by omega)
  have wy := hr nb (by omega)
  have wz := hr nc (by omega)
  have four : ∀ {G : List Gt} {x : Int}, Bd gs 34 G → 0 ≤ x ∧ x < G.length → Wrs G 4 [x, zero, zero, zero] := fun {G x} b hx => ⟨rfl, fun j hj => by
    have := b.len
    have : j = 0 ∨ j = 1 ∨ j = 2 ∨ j = 3 := by omega
    rcases this with rfl | rfl | rfl | rfl <;> simp [at0] <;> omega⟩
  have hop : op = 1 ∨ op = 2 ∨ op = 3 ∨ op = 4 ∨ op = 5 ∨ op = 6 ∨ op = 7 ∨ op = 8 ∨ op = 9 ∨ op = 10 := by omega
  rcases hop with rfl | rfl | rfl | rfl | rfl | rfl | rfl | rfl | rfl | rfl
  · have r := constP_inv (n := sn) hok
    exact ⟨r.1.mono (by omega), r.2.1⟩
  · have r := inputP_inv (m := (na : Int) * 4 + sn) hok (by have := hi rfl; omega) (by have := hi rfl; omega)
    exact ⟨r.1.mono (by omega), r.2.1⟩
  · have r := sumP_inv (first := 0) (n := 3) hok wx wy (by omega)
    exact ⟨r.1.mono (by omega), r.2.1⟩
  · have r := sub_val hok wx wy
    exact ⟨r.1.mono (by omega), r.2.1⟩
  · have r := mul_val hok wx wy
    exact ⟨r.1, r.2.1⟩
  · have r := bitsP_inv (kd := 4) (.inr rfl) hok wx wy
    exact ⟨r.1.mono (by omega), r.2.1⟩
  · have r := bitsP_inv (kd := 3) (.inl rfl) hok wx wy
    exact ⟨r.1.mono (by omega), r.2.1⟩
  · have r := less_val hok wx wy
    exact ⟨r.1.mono (by omega), four (r.1.mono (by omega)) r.2.1⟩
  · have r := equal_val hok wx wy
    exact ⟨r.1.mono (by omega), four (r.1.mono (by omega)) r.2.1⟩
  · have r := muxP_inv hok (wx.2 0 (by omega)) wy wz
    exact ⟨r.1.mono (by omega), r.2.1⟩
/-- What a statement of an unrolled program is. -/
structure StU (s : St) : Prop where
  out : s.op = 11 → 0 ≤ s.a ∧ s.a < 8
  st : s.op ≠ 11 → StC s
  dst : 0 ≤ s.dst ∧ s.dst < 8
/-- The gates, the outputs, the registers' words. -/
def cmpStep (zero : Int) (t : List Gt × List Int × List (List Int)) (s : St) : List Gt × List Int × List (List Int) :=
  if s.op = 11 then (t.1, t.2.1 ++ rgA t.2.2 s.a, t.2.2) else ((stG t.2.2 zero s t.1).1, t.2.1, t.2.2.set s.dst.toNat (stG t.2.2 zero s t.1).2)
def cmpL (zero : Int) (us : List St) (t : List Gt × List Int × List (List Int)) : List Gt × List Int × List (List Int) := us.foldl (cmpStep zero) t
theorem cmpL_snoc {zero : Int} {us : List St} {k : Nat} {s : St} (h : us[k]? = some s) (t : List Gt × List Int × List (List Int)) : cmpL zero (us.take (k + 1)) t = cmpStep zero (cmpL zero (us.take k) t) s := by
  unfold cmpL; rw [take_snoc h, List.foldl_append]; rfl
structure COk (zero : Int) (n m : Nat) (t : List Gt × List Int × List (List Int)) : Prop where
  ok : gtsOk 0 t.1 = true
  len : t.1.length ≤ n
  rl : t.2.2.length = 8
  rw : ∀ i : Nat, i < 8 → Wrs t.1 4 (rgA t.2.2 (i : Int))
  z : 0 ≤ zero ∧ zero < t.1.length
  os : ∀ o ∈ t.2.1, 0 ≤ o ∧ o < t.1.length
  ol : t.2.1.length ≤ m
theorem cmpStep_ok {zero : Int} {n m : Nat} {t : List Gt × List Int × List (List Int)} {s : St} (h : COk zero n m t) (hs : StU s) : COk zero (n + 34) (m + 4) (cmpStep zero t s) := by
  unfold cmpStep
  by_cases ho : s.op = 11
  · rw [if_pos ho]
    have ha := hs.out ho
    obtain ⟨na, hna⟩ := Int.eq_ofNat_of_zero_le ha.1
    have hw := h.rw na (by omega)
    refine ⟨h.ok, by have := h.len; simp only; omega, h.rl, h.rw, h.z, fun o hm => ?_, by have := h.ol; have := hw.1; simp only [List.length_append]; rw [hna]; omega⟩
    simp only [List.mem_append] at hm
    rcases hm with hm | hm
    · exact h.os o hm
    · rw [hna] at hm
      obtain ⟨j, hj, e⟩ := List.mem_iff_getElem.1 hm
      have h1 := hw.2 j (by have := hw.1; omega)
      rw [at0_nat] at h1
      simp [List.getD, hj, e] at h1
      exact h1
  · rw [if_neg ho]
    have r := stG_inv h.ok h.rw h.z (hs.st ho)
    have hl := r.1.len
    refine ⟨r.1.ok, by have := h.len; simp only; omega, by simp [h.rl], fun i hi => ?_, ⟨h.z.1, by have := h.z.2; simp only; omega⟩, fun o hm => by have := h.os o hm; simp only; omega, by have := h.ol; simp only; omega⟩
    simp only
    obtain ⟨nd, hnd⟩ := Int.eq_ofNat_of_zero_le hs.dst.1
    have e : rgA (t.2.2.set s.dst.toNat (stG t.2.2 zero s t.1).2) (i : Int) = if nd = i then (stG t.2.2 zero s t.1).2 else rgA t.2.2 (i : Int) := by
      rw [hnd]
      simp only [rgA, Int.toNat_natCast, List.getD, List.getElem?_set]
      by_cases hq : nd = i
      · subst hq; simp [h.rl, hi]
      · simp [hq]
    rw [e]
    split
    · exact r.2
    · exact (h.rw i hi).up r.1
/-- The beginning: the word of the number 0 in each register. -/
def cmp0 : List Gt × List Int × List (List Int) := ((constP 0 []).1, [], List.replicate 8 (constP 0 []).2)
def zero0 : Int := at0 (constP 0 []).2 (0 : Nat)
theorem cmp0_ok : COk zero0 4 0 cmp0 := by
  have r := constP_inv (gs := []) (n := 0) rfl
  have hl := r.1.len
  refine ⟨r.1.ok, by have h := hl.2; simp only [List.length_nil, Nat.zero_add] at h; exact h, rfl, fun i hi => ?_, r.2.1.2 0 (by omega), fun o hm => by simp [cmp0] at hm, Nat.le_refl _⟩
  have e : rgA cmp0.2.2 (i : Int) = (constP 0 []).2 := by
    show (List.replicate 8 (constP 0 []).2).getD (i : Int).toNat [] = _
    rw [Int.toNat_natCast, List.getD_eq_getElem?_getD, List.getElem?_replicate, if_pos hi]; rfl
  rw [e]; exact r.2.1
theorem cmpL_ok {us : List St} (hu : ∀ s ∈ us, StU s) (k : Nat) (hk : k ≤ us.length) : COk zero0 (4 + 34 * k) (4 * k) (cmpL zero0 (us.take k) cmp0) := by
  induction k with
  | zero => exact cmp0_ok
  | succ k ih =>
    have h := cmpStep_ok (ih (by omega)) (hu us[k] (List.getElem_mem (by omega)))
    rw [cmpL_snoc (List.getElem?_eq_getElem (by omega))]
    exact h

end Go.Proofs.Ytfcijloiebnloaa

/- CmpW -/
namespace Go.Proofs.Ytfcijloiebnloaa
open Go.RowKit
set_option linter.unusedVariables false
set_option linter.unusedSimpArgs false

theorem stU_of {s : St} (h : stOk s = true) (h12 : s.op ≠ 12) (h13 : s.op ≠ 13) : StU s := by
  obtain ⟨op, dst, sa, sb, sc, sn⟩ := s
  simp only at h12 h13
  simp only [stOk] at h
  split at h
  · simp [inB] at h; exact ⟨fun e => by simp only at e; omega, fun _ => ⟨by simp only; omega, by simp only; omega, by simp only; omega, by simp only; omega, by simp only; omega, fun _ => by simp only; omega, fun _ => by simp only at *; omega⟩, by simp only; omega⟩
  split at h
  · simp [inB] at h; exact ⟨fun e => by simp only at e; omega, fun _ => ⟨by simp only; omega, by simp only; omega, by simp only; omega, by simp only; omega, by simp only; omega, fun _ => by simp only at *; omega, fun _ => by simp only at *; omega⟩, by simp only; omega⟩
  split at h
  · rename_i h39
    simp [inB] at h h39; exact ⟨fun e => by simp only at e; omega, fun _ => ⟨by simp only; omega, by simp only; omega, by simp only; omega, by simp only; omega, by simp only; omega, fun _ => by simp only at *; omega, fun _ => by simp only at *; omega⟩, by simp only; omega⟩
  split at h
  · simp [inB] at h; exact ⟨fun e => by simp only at e; omega, fun _ => ⟨by simp only; omega, by simp only; omega, by simp only; omega, by simp only; omega, by simp only; omega, fun _ => by simp only at *; omega, fun _ => by simp only at *; omega⟩, by simp only; omega⟩
  split at h
  · rename_i h11
    simp [inB] at h; exact ⟨fun _ => by simp only; omega, fun e => absurd h11 e, by simp only; omega⟩
  simp at h
  exact absurd h.1 h13
/-- A word that neither the building, nor the registers' list gr, nor the outputs' list ao holds. -/
def Ap (w : World) (bx gr : Nat) (ao ad : Option Addr) : Prop := ∀ b off, ad = some ⟨b, off, none⟩ → Frn w bx b ∧ b ≠ gr ∧ ∀ a, ao = some a → b ≠ a.block
structure CS (w0 w : World) (L bx gr cr : Nat) (G : List Gt) (ao : Option Addr) (co : Nat) (O : List Int) (rs : List RV) (rw : RV) : Prop where
  b : Bld w L bx G (.slice ao O.length co)
  o : Own w L 3 1 ao O.length co (I64 O)
  r : Own w L 23 1 (some ⟨gr, 0, none⟩) 8 cr (rvCells rs)
  rl : rs.length = 8
  fo : ∀ a, ao = some a → Frn w bx a.block
  fr : Frn w bx gr
  ne : ∀ a, ao = some a → a.block ≠ gr
  ok : ∀ r ∈ rs, RvOk w (Ap w bx gr ao) r
  wd : RvOk w (Ap w bx gr ao) rw
  l : Below L w0 w
  lw : L ≤ w0.heap.size
theorem RvOk.step {w w2 : World} {bx gr : Nat} {ao : Option Addr} {r : RV} (h : RvOk w (Ap w bx gr ao) r) (hF : Fr bx w w2) : RvOk w2 (Ap w2 bx gr ao) r :=
  ⟨h.len, h.cap, h.rd.keep fun b off e => hF.kp (h.fr b off e).1, fun b off e => ⟨hF.frn (h.fr b off e).1, (h.fr b off e).2⟩⟩
theorem RvOk.set {w : World} {lo bx gr j : Nat} {ao : Option Addr} {G : List Gt} {v x : Value} {r : RV} (h : RvOk w (Ap w bx gr ao) r) (hB : Bld w lo bx G v) (hf : Frn w bx gr) : RvOk (w.setCell ⟨gr, j, none⟩ x) (Ap (w.setCell ⟨gr, j, none⟩ x) bx gr ao) r := by
  have hs : (w.setCell ⟨gr, j, none⟩ x).heap.size = w.heap.size := by simp [World.setCell]
  have hk : ∀ b, b ≠ gr → (w.setCell ⟨gr, j, none⟩ x).heap[b]? = w.heap[b]? := fun b hb => Below.heap_setCell _ _ _ _ hb
  have hm : ∀ b, b = bx ∨ gblk w bx = some b → (w.setCell ⟨gr, j, none⟩ x).heap[b]? = w.heap[b]? := fun b hb => hk b (by
    rintro rfl
    rcases hb with e | e
    · exact hf.2.1 e
    · exact hf.2.2 e)
  exact ⟨h.len, h.cap, h.rd.keep fun b off e => fun hb => ⟨hk b (h.fr b off e).2.1, by rw [hs]; exact hb⟩, fun b off e => ⟨frn_other hB hm (by omega) (h.fr b off e).1, (h.fr b off e).2⟩⟩
theorem rvCells_set (rs : List RV) (j : Nat) (r : RV) : (rvCells rs).set j r.v = rvCells (rs.set j r) := by simp [rvCells, List.map_set]
/-- A statement's word is stored in its register. -/
theorem CS.word {w0 w w2 : World} {L bx gr cr : Nat} {G G' : List Gt} {ao : Option Addr} {co : Nat} {O : List Int} {rs : List RV} {rw : RV} {g c' j : Nat} {X : List Int} (h : CS w0 w L bx gr cr G ao co O rs rw)
    (hb : Bs w w2 L bx G' (.slice ao O.length co) g 4 c' X) (hX : X.length = 4) : CS w0 (w2.setCell ⟨gr, j, none⟩ (.slice (some ⟨g, 0, none⟩) 4 c')) L bx gr cr G' ao co O (rs.set j ⟨some ⟨g, 0, none⟩, c', X⟩) rw := by
  have hf2 := hb.r.frn h.fr
  have hgg := hb.ge
  have hgw := h.fr.1
  have hL := h.b.le
  have hlt := h.r.ge
  have hs : (w2.setCell ⟨gr, j, none⟩ (.slice (some ⟨g, 0, none⟩) 4 c')).heap.size = w2.heap.size := by simp [World.setCell]
  have hk : ∀ b, b ≠ gr → (w2.setCell ⟨gr, j, none⟩ (.slice (some ⟨g, 0, none⟩) 4 c')).heap[b]? = w2.heap[b]? := fun b hb => Below.heap_setCell _ _ _ _ hb
  have hm : ∀ b, b = bx ∨ gblk w2 bx = some b → (w2.setCell ⟨gr, j, none⟩ (.slice (some ⟨g, 0, none⟩) 4 c')).heap[b]? = w2.heap[b]? := fun b hb => hk b (by
    rintro rfl
    rcases hb with e | e
    · exact hf2.2.1 e
    · exact hf2.2.2 e)
  have hnew : RvOk w2 (Ap w2 bx gr ao) ⟨some ⟨g, 0, none⟩, c', X⟩ := ⟨hX, own_cap' hb.o, hb.o.rd, fun b off e => by
    cases e
    refine ⟨hb.f, by omega, fun a ha => ?_⟩
    have := (h.fo a ha).1
    omega⟩
  have o2 : Own w2 L 3 1 ao O.length co (I64 O) := h.o.keep fun a ha => hb.r.kp (h.fo a ha)
  have r2 := (h.r.later (hb.r.kp h.fr)).put j (RV.v ⟨some ⟨g, 0, none⟩, c', X⟩)
  rw [rvCells_set] at r2
  refine ⟨hb.b.other hm (by omega), o2.keep fun a ha hlt => ⟨hk _ (h.ne a ha), by omega⟩, r2, by simp [h.rl], fun a ha => frn_other hb.b hm (by omega) (hb.r.frn (h.fo a ha)), frn_other hb.b hm (by omega) hf2, h.ne, fun r hr => ?_, (h.wd.step hb.r).set hb.b hf2, h.l.trans (hb.l.setCell hlt.1 _), h.lw⟩
  rcases List.mem_or_eq_of_mem_set hr with h1 | rfl
  · exact ((h.ok r h1).step hb.r).set hb.b hf2
  · exact hnew.set hb.b hf2
theorem Bld.setSnd {w : World} {lo bx : Nat} {G : List Gt} {v : Value} (h : Bld w lo bx G v) (v' : Value) : Bld (w.setCell ⟨bx, 1, none⟩ v') lo bx G v' ∧ ∀ b, Frn w bx b → Frn (w.setCell ⟨bx, 1, none⟩ v') bx b := by
  obtain ⟨ad, cap, hc, ho, hne⟩ := h.row
  have hc1 := h.snd
  have f0 := h.f0
  have f1 := h.f1
  have hs : (w.setCell ⟨bx, 1, none⟩ v').heap.size = w.heap.size := by simp [World.setCell]
  have hk : ∀ b, b ≠ bx → (w.setCell ⟨bx, 1, none⟩ v').heap[b]? = w.heap[b]? := fun b hb => Below.heap_setCell _ _ _ _ hb
  have c0 : (w.setCell ⟨bx, 1, none⟩ v').cell? ⟨bx, 0, none⟩ = some (.slice ad G.length cap) := by go_simp
  have c1 : (w.setCell ⟨bx, 1, none⟩ v').cell? ⟨bx, 1, none⟩ = some v' := by go_simp
  have g0 : (w.setCell ⟨bx, 1, none⟩ v').frozen? ⟨bx, 0, none⟩ = false := by go_simp
  have g1 : (w.setCell ⟨bx, 1, none⟩ v').frozen? ⟨bx, 1, none⟩ = false := by go_simp
  have hgk : gblk (w.setCell ⟨bx, 1, none⟩ v') bx = gblk w bx := by unfold gblk; rw [c0, hc]
  exact ⟨⟨by rw [hs]; exact h.lt, h.ge, by rw [hs]; exact h.le, ⟨ad, cap, c0, ho.keep fun a ha hlt => ⟨hk _ (hne a ha), by rw [hs]; exact hlt⟩, hne⟩, c1, g0, g1⟩, fun b hb => ⟨by rw [hs]; exact hb.1, hb.2.1, by rw [hgk]; exact hb.2.2⟩⟩
theorem RvOk.out {w w2 : World} {L bx gr : Nat} {G : List Gt} {v x : Value} {ao : Option Addr} {g' : Nat} {r : RV} (h : RvOk w (Ap w bx gr ao) r) (hB : Bld w L bx G v) (hB2 : Bld w2 L bx G v) (hg : w.grownBy w2 (ao.map (·.block))) (hr : ∀ q, ao.map (·.block) = some q → Frn w bx q)
    (hat : ao = some ⟨g', 0, none⟩ ∨ w.heap.size ≤ g') : RvOk (w2.setCell ⟨bx, 1, none⟩ x) (Ap (w2.setCell ⟨bx, 1, none⟩ x) bx gr (some ⟨g', 0, none⟩)) r := by
  have hs : (w2.setCell ⟨bx, 1, none⟩ x).heap.size = w2.heap.size := by simp [World.setCell]
  have hk : ∀ b, b ≠ bx → (w2.setCell ⟨bx, 1, none⟩ x).heap[b]? = w2.heap[b]? := fun b hb => Below.heap_setCell _ _ _ _ hb
  have hz := hg.size
  refine ⟨h.len, h.cap, h.rd.keep fun b off e hlt => ?_, fun b off e => ?_⟩
  · have f := h.fr b off e
    have e1 := hg.block b hlt (fun q => by
      cases ao with
      | none => cases q
      | some a => exact f.2.2 a rfl (Option.some.inj q))
    exact ⟨(hk b f.1.2.1).trans e1, by rw [hs]; omega⟩
  · have f := h.fr b off e
    refine ⟨(hB2.setSnd x).2 b (frn_grown hB hg hr f.1), f.2.1, fun a ha => ?_⟩
    cases ha
    rcases hat with e2 | e2
    · exact f.2.2 _ e2
    · have := f.1.1; show b ≠ g'; omega
/-- An output's word is appended. -/
theorem CS.out {w0 w w2 : World} {L bx gr cr : Nat} {G : List Gt} {ao : Option Addr} {co : Nat} {O X : List Int} {rs : List RV} {rw : RV} {g' c' : Nat} (h : CS w0 w L bx gr cr G ao co O rs rw)
    (ho : Own w2 L 3 1 (some ⟨g', 0, none⟩) (O ++ X).length c' (I64 (O ++ X))) (hg : w.grownBy w2 (ao.map (·.block))) (hat : ao = some ⟨g', 0, none⟩ ∨ w.heap.size ≤ g') :
    CS w0 (w2.setCell ⟨bx, 1, none⟩ (.slice (some ⟨g', 0, none⟩) (O ++ X).length c')) L bx gr cr G (some ⟨g', 0, none⟩) c' (O ++ X) rs rw := by
  have hr : ∀ q, ao.map (·.block) = some q → Frn w bx q := fun q e => by
    cases ao with
    | none => cases e
    | some a => cases e; exact h.fo a rfl
  have hB2 := h.b.grown hg hr
  have hz := hg.size
  have hbx := h.b.lt
  have hgr := h.fr.1
  have hgL := h.r.ge
  have hlo := h.b.le
  have hge := ho.ge
  have hs : (w2.setCell ⟨bx, 1, none⟩ (.slice (some ⟨g', 0, none⟩) (O ++ X).length c')).heap.size = w2.heap.size := by simp [World.setCell]
  have hk : ∀ b, b ≠ bx → (w2.setCell ⟨bx, 1, none⟩ (.slice (some ⟨g', 0, none⟩) (O ++ X).length c')).heap[b]? = w2.heap[b]? := fun b hb => Below.heap_setCell _ _ _ _ hb
  have hgf : Frn w2 bx g' := by
    rcases hat with e | e
    · exact frn_grown h.b hg hr (h.fo _ e)
    · exact frn_grown_new h.b hg hr e hge.2
  have hgn : g' ≠ gr := by
    rcases hat with e | e
    · exact h.ne _ e
    · omega
  have hrk : Kp gr w w2 := fun hlt => ⟨hg.block gr hlt (fun q => by
    cases ao with
    | none => cases q
    | some a => exact h.ne a rfl (Option.some.inj q).symm), by omega⟩
  have hbl : Below L w w2 := (Below.refl _ _).grown hg hlo (fun q e => by
    cases ao with
    | none => cases e
    | some a => cases e; exact (h.o.blk a rfl).2.2.1)
  have P := hB2.setSnd (.slice (some ⟨g', 0, none⟩) (O ++ X).length c')
  refine ⟨P.1, ho.later fun hlt => ⟨hk _ hgf.2.1, by omega⟩, (h.r.later hrk).later fun hlt => ⟨hk _ h.fr.2.1, by omega⟩, h.rl, fun a ha => ?_, P.2 _ (frn_grown h.b hg hr h.fr), fun a ha => ?_, fun r hr2 => (h.ok r hr2).out h.b hB2 hg hr hat, h.wd.out h.b hB2 hg hr hat, h.l.trans (hbl.setCell h.b.ge _), h.lw⟩
  · cases ha; exact P.2 _ hgf
  · cases ha; exact hgn

end Go.Proofs.Ytfcijloiebnloaa

/- CmpT0 -/
namespace Go.Proofs.Ytfcijloiebnloaa
open Go.RowKit
set_option linter.unusedVariables false
set_option linter.unusedSimpArgs false

theorem info_words : (Try.prog.info? 23).map (fun i => (i.zero, i.size, i.bytes)) = some (some (.slice none 0 0), 1, 24) := by kernel_rfl
theorem el_words : El 56 23 1 24 (.slice none 0 0) := by
  obtain ⟨i0, hi, hz0, hz1, hz2⟩ := info_parts info_words
  exact ⟨⟨i0, Try.underlying56, hi, hz0, hz1, hz2⟩, rfl, by omega⟩
section
variable {ops : Array Oper} {rest : List Oper} {o : Oper} {a : Act} {Q : Exit → Act → World → Prop}
/-- One word behind a list of words. -/
theorem wpList_pushV (w : World) (hgd : o.guard = none) (s x : Operand) (ho : o.op = .call { callee := .builtin .append, args := #[s, x], argTypes := #[56, 56] })
    (lo g n cap : Nat) (cs : List Value) (r : RV) (B c : Nat) (hs : a.eval s = .slice (some ⟨g, 0, none⟩) n cap) (hx : a.eval x = .slice (some ⟨B, 0, none⟩) 1 c)
    (hown : Own w lo 23 1 (some ⟨g, 0, none⟩) n cap cs) (hnew : w.cell? ⟨B, 0, none⟩ = some r.v) (hn : n < 1000) (hlo : lo ≤ w.heap.size)
    (h : ∀ g' cap' w', Own w' lo 23 1 (some ⟨g', 0, none⟩) (n + 1) cap' (cs ++ [r.v]) → Below lo w w' → w.grownBy w' (some g) → (g' = g ∨ g' = w.heap.size) → wpList Try.prog ops Q rest (a.put o.dst (.slice (some ⟨g', 0, none⟩) (n + 1) cap')) w') :
    wpList Try.prog ops Q (o :: rest) a w :=
  wpList_appm w hgd el_words s x ho lo g n cap cs [r.v] (some ⟨B, 0, none⟩) 1 c hs hx hown rfl
    (.inr ⟨B, 0, rfl, fun j hj => by have : j = 0 := by simpa using hj
                                     subst this; exact hnew⟩) (fun u hu => by simp at hu; subst hu; rfl) (by intro h; cases h) (by omega) (by omega) hlo h
end
/-- From w0 on: the building, and a list of words of the call's own. -/
structure Bq (w0 w : World) (lo bx : Nat) (G : List Gt) (v : Value) (gt k ct : Nat) (cs : List Value) : Prop where
  b : Bld w lo bx G v
  o : Own w w0.heap.size 23 1 (some ⟨gt, 0, none⟩) k ct cs
  f : Frn w bx gt
  r : Fr bx w0 w
  l : Below lo w0 w
  z : lo ≤ w0.heap.size
theorem Bq.start {w : World} {lo bx : Nat} {G : List Gt} {v : Value} (h : Bld w lo bx G v) : Bq w (w.alloc (.cells #[] 23)) lo bx G v w.heap.size 0 0 [] :=
  ⟨h.al _, own_new w _ _, frn_new h (fun b hb => Below.heap_alloc _ _ _ (h.mine hb)) (Nat.le_refl _) (by simp), Fr.al h _, (Below.refl _ _).alloc h.le _, h.le⟩
theorem Bq.push {w0 w w' : World} {lo bx gt k ct g c' : Nat} {G : List Gt} {v u : Value} {cs : List Value} (h : Bq w0 w lo bx G v gt k ct cs) (o : Obj) (ho : Own w' w0.heap.size 23 1 (some ⟨g, 0, none⟩) (k + 1) c' (cs ++ [u]))
    (hb : Below w0.heap.size (w.alloc o) w') (hg : (w.alloc o).grownBy w' (some gt)) (hat : g = gt ∨ g = (w.alloc o).heap.size) : Bq w0 w' lo bx G v g (k + 1) c' (cs ++ [u]) := by
  have h' := h.b.al o
  have hF := Fr.al h.b o
  have hr : ∀ q, some gt = some q → Frn (w.alloc o) bx q := fun q e => by obtain rfl := Option.some.inj e; exact (hF _ h.f).2
  have hge := h.o.ge
  refine ⟨h'.grown hg hr, ho, ?_, ?_, ?_, h.z⟩
  · rcases hat with rfl | e
    · exact frn_grown h' hg hr (hF _ h.f).2
    · exact frn_grown_new h' hg hr (by omega) ho.ge.2
  · intro b hb0
    have h1 := h.r b hb0
    have h2 := hF b h1.2
    have hne : b ≠ gt := by have := hb0.1; omega
    exact ⟨(hg.block b h2.2.1 (fun e => hne (Option.some.inj e))).trans (h2.1.trans h1.1), frn_grown h' hg hr h2.2⟩
  · have hlo := h.b.le
    have hz := h.z
    exact h.l.trans (((Below.refl _ _).alloc hlo _).trans ((Below.refl _ _).grown hg (by simp; omega) (fun q e => by obtain rfl := Option.some.inj e; omega)))
/-- The result of a compiler. -/
def cmpG (us : List St) (ok : Bool) : List Gt := if ok = true then (cmpL zero0 us cmp0).1 else []
def cmpO (us : List St) (ok : Bool) : List Int := if ok = true then (cmpL zero0 us cmp0).2.1 else []
def PostC (w0 w' : World) (e : Ending) (G : List Gt) (os : List Int) (ok : Bool) : Prop :=
  ∃ b1 d1 b2 d2, e = .returned (.tuple #[.agg #[.slice b1 G.length d1, .slice b2 os.length d2], .bool ok]) ∧ Own w' w0.heap.size 109 3 b1 G.length d1 (gtCells G) ∧ Own w' w0.heap.size 3 1 b2 os.length d2 (I64 os) ∧ (∀ x y, b1 = some x → b2 = some y → x.block ≠ y.block) ∧ Below w0.heap.size w0 w'
theorem cell_std {w : World} {a : Addr} {x : Value} {b off : Nat} {v : Value} (h : w.cell? ⟨b, off, none⟩ = some v) (hne : b ≠ a.block) : (w.setCell a x).cell? ⟨b, off, none⟩ = some v :=
  (World.cell?_of_block (w := w) (a := ⟨b, off, none⟩) (Below.heap_setCell _ _ _ _ hne)).trans h
theorem own_none (w : World) (lo e size : Nat) : Own w lo e size none 0 0 [] := ⟨by simp, .inl ⟨rfl, rfl⟩⟩
theorem Own.cellV {w : World} {lo e g n cap : Nat} {cs : List Value} (h : Own w lo e 1 (some ⟨g, 0, none⟩) n cap cs) (j : Nat) (hj : j < cs.length) : w.cell? ⟨g, j, none⟩ = some cs[j] ∧ w.frozen? ⟨g, j, none⟩ = false := h.get j hj
theorem CS.below {w0 w w2 : World} {L bx gr cr : Nat} {G : List Gt} {ao : Option Addr} {co : Nat} {O : List Int} {rs : List RV} {rw : RV} (h : CS w0 w L bx gr cr G ao co O rs rw) (k : Below w.heap.size w w2) : CS w0 w2 L bx gr cr G ao co O rs rw :=
  have hF := Fr.below h.b k
  ⟨h.b.below k, h.o.keep fun a ha => hF.kp (h.fo a ha), h.r.later (hF.kp h.fr), h.rl, fun a ha => hF.frn (h.fo a ha), hF.frn h.fr, h.ne, fun r hr => (h.ok r hr).step hF, h.wd.step hF, h.l.trans (k.mono h.b.le), h.lw⟩
theorem CS.bld {w0 w w2 : World} {L bx gr cr : Nat} {G : List Gt} {ao : Option Addr} {co : Nat} {O : List Int} {rs : List RV} {rw : RV} (h : CS w0 w L bx gr cr G ao co O rs rw) (hg : w.grownBy w2 (ao.map (·.block))) : Bld w2 L bx G (.slice ao O.length co) :=
  h.b.grown hg fun q e => by
    cases ao with
    | none => cases e
    | some a => cases e; exact h.fo a rfl

end Go.Proofs.Ytfcijloiebnloaa

/- CmpI -/
namespace Go.Proofs.Ytfcijloiebnloaa
open Go.RowKit
set_option linter.unusedVariables false
set_option linter.unusedSimpArgs false

set_option maxRecDepth 20000 in
set_option maxHeartbeats 8000000 in
theorem ibitwise_any (gs : List Gt) (os : List Int) (a1 a2 : Option Addr) (c1 c2 : Nat) (w : World) (hm : gs.length ≤ 1048576) (hm2 : os.length ≤ 1048576) (hr : RdC w a1 (gtCells gs)) (hr2 : RdC w a2 (I64 os)) (kd : Int) (xs : List Int) (nx : Nat) (ax : Option Addr) (cx : Nat) (hlx : xs.length = nx) (hmx : nx ≤ 1048576) (hrx : RdC w ax (I64 xs)) (ys : List Int) (ny : Nat) (ay : Option Addr) (cy : Nat) (hly : ys.length = ny) (hmy : ny ≤ 1048576) (hry : RdC w ay (I64 ys)) (hx4 : nx = 4) (hy4 : ny = 4) (h59 : gs.length ≤ 5900) :
    Calls Try.prog 105 #[.agg #[.slice a1 gs.length c1, .slice a2 os.length c2], .int .i64 kd, .slice ax nx cx, .slice ay ny cy] w fun e w' => PostW w w' e (wP (true) (bitsP kd xs ys gs) gs []).1 os (wP (true) (bitsP kd xs ys gs) gs []).2 := by
  have HR := Lib.hid hr
  have HR2 := Lib.hid hr2
  have HRx := Lib.hid hrx
  have HRy := Lib.hid hry
  clear hr hr2 hrx hry
  have nH : w.heap.size ≠ w.heap.size + 1 := by omega
  obtain ⟨PG, hPG⟩ : ∃ z, z = (wP (true) (bitsP kd xs ys gs) gs []).1 := ⟨_, rfl⟩
  obtain ⟨PW, hPW⟩ : ∃ z, z = (wP (true) (bitsP kd xs ys gs) gs []).2 := ⟨_, rfl⟩
  rw [← hPG, ← hPW]
  have HPG := Lib.hid hPG
  have HPW := Lib.hid hPW
  clear hPG hPW
  go_enter Try.func105, Try.ntmps105
  go_wp2_with fail
  refine (copyCircuit_any gs os _ _ _ _ _ hm hm2 (HR.out.below (by (repeat (first | with_reducible exact Below.refl _ _ | (with_reducible refine bel_next ?_ ?_ (by assumption)) | (with_reducible refine Below.alloc ?_ ?_ _) | (with_reducible refine Below.drew ?_) | (with_reducible refine below_drewN ?_ _) | (with_reducible refine Below.setCell ?_ ?_ _))) <;> (first | omega | (simp; done) | (simp; omega)))) (HR2.out.below (by (repeat (first | with_reducible exact Below.refl _ _ | (with_reducible refine bel_next ?_ ?_ (by assumption)) | (with_reducible refine Below.alloc ?_ ?_ _) | (with_reducible refine Below.drew ?_) | (with_reducible refine below_drewN ?_ _) | (with_reducible refine Below.setCell ?_ ?_ _))) <;> (first | omega | (simp; done) | (simp; omega))))).mono ?_
  rintro e w1 ⟨g1, d1, g2, d2, rfl, ho1, ho2, hne, hb1⟩
  have z1 := hb1.size
  (try simp at z1)
  have y1a : w.heap.size < w1.heap.size := (by omega)
  have y1b : w.heap.size + 1 < w1.heap.size := (by omega)
  have k1_0 := bel_keeps hb1 (b := w.heap.size) (o := 0) (v := .slice a1 gs.length c1) (by first | (go_simp; done) | assumption)
  have k1_1 := bel_keeps hb1 (b := w.heap.size) (o := 1) (v := .slice a2 os.length c2) (by first | (go_simp; done) | assumption)
  have k1_2 := bel_keeps hb1 (b := w.heap.size + 1) (o := 0) (v := .slice none 0 0) (by first | (go_simp; done) | assumption)
  have k1_3 := bel_keeps hb1 (b := w.heap.size + 1) (o := 1) (v := .slice none 0 0) (by first | (go_simp; done) | assumption)
  have f1_0 := bel_free hb1 (b := w.heap.size + 1) (o := 0) (by first | omega | (simp; done) | (simp; omega)) (by first | (go_simp; done) | assumption)
  have f1_1 := bel_free hb1 (b := w.heap.size + 1) (o := 1) (by first | omega | (simp; done) | (simp; omega)) (by first | (go_simp; done) | assumption)
  have hbw1 : Below w.heap.size w w1 := (by (repeat (first | with_reducible exact Below.refl _ _ | (with_reducible refine bel_next ?_ ?_ (by assumption)) | (with_reducible refine Below.alloc ?_ ?_ _) | (with_reducible refine Below.drew ?_) | (with_reducible refine below_drewN ?_ _) | (with_reducible refine Below.setCell ?_ ?_ _))) <;> (first | omega | (simp; done) | (simp; omega)))
  go_wp2_with fail
  obtain ⟨W, hW⟩ : ∃ W, W = w1.alloc (.cells #[.slice (some ⟨g1, 0, none⟩) gs.length d1, .slice (some ⟨g2, 0, none⟩) os.length d2] 72) := ⟨_, rfl⟩
  obtain ⟨bx, hbx⟩ : ∃ b, b = w1.heap.size := ⟨_, rfl⟩
  rw [← hW, ← hbx]
  have hbW : Below w1.heap.size w1 W := by rw [hW]; exact (Below.refl _ _).alloc (Nat.le_refl _) _
  have HWB := Lib.hid (WB.start (w0 := w) (w := W) (bx := bx) (ho1.lo (by simp)) (ho2.lo (by simp)) hne (hbw1.trans (hbW.mono (by omega))) hbW hbx (by rw [hW]; simp) (by rw [hW, hbx]; go_simp) (by rw [hW, hbx]; go_simp) (by rw [hW, hbx]; go_simp) (by rw [hW, hbx]; go_simp))
  have hbb : w.heap.size + 2 ≤ bx := by omega
  have zW := hbW.size
  (try simp at zW)
  have yWa : w.heap.size < W.heap.size := (by omega)
  have yWb : w.heap.size + 1 < W.heap.size := (by omega)
  have kW_0 := bel_keeps hbW (b := w.heap.size) (o := 0) (v := .slice a1 gs.length c1) (by first | (go_simp; done) | assumption)
  have kW_1 := bel_keeps hbW (b := w.heap.size) (o := 1) (v := .slice a2 os.length c2) (by first | (go_simp; done) | assumption)
  have kW_2 := bel_keeps hbW (b := w.heap.size + 1) (o := 0) (v := .slice none 0 0) (by first | (go_simp; done) | assumption)
  have kW_3 := bel_keeps hbW (b := w.heap.size + 1) (o := 1) (v := .slice none 0 0) (by first | (go_simp; done) | assumption)
  have fW_0 := bel_free hbW (b := w.heap.size + 1) (o := 0) (by first | omega | (simp; done) | (simp; omega)) (by first | (go_simp; done) | assumption)
  have fW_1 := bel_free hbW (b := w.heap.size + 1) (o := 1) (by first | omega | (simp; done) | (simp; omega)) (by first | (go_simp; done) | assumption)
  clear k1_0 k1_1 k1_2 k1_3 f1_0 f1_1
  have hbz : bx + 1 = W.heap.size := (by rw [hW, hbx]; simp)
  clear hW hbx hbW ho1 ho2 hne hb1 hbw1
  obtain ⟨w9, h9⟩ : ∃ X, X = W := ⟨_, rfl⟩
  have hb9 : Below W.heap.size W w9 := by rw [h9]; exact Below.refl _ _
  have hbz9 : bx + 1 = w9.heap.size := by rw [h9]; exact hbz
  rw [← h9, hbz9]
  clear h9 hbz hbz9
  have HWB9 := Lib.hid (HWB.out.below hb9)
  have z9 := hb9.size
  (try simp at z9)
  have y9a : w.heap.size < w9.heap.size := (by omega)
  have y9b : w.heap.size + 1 < w9.heap.size := (by omega)
  have k9_0 := bel_keeps hb9 (b := w.heap.size) (o := 0) (v := .slice a1 gs.length c1) (by first | (go_simp; done) | assumption)
  have k9_1 := bel_keeps hb9 (b := w.heap.size) (o := 1) (v := .slice a2 os.length c2) (by first | (go_simp; done) | assumption)
  have k9_2 := bel_keeps hb9 (b := w.heap.size + 1) (o := 0) (v := .slice none 0 0) (by first | (go_simp; done) | assumption)
  have k9_3 := bel_keeps hb9 (b := w.heap.size + 1) (o := 1) (v := .slice none 0 0) (by first | (go_simp; done) | assumption)
  have f9_0 := bel_free hb9 (b := w.heap.size + 1) (o := 0) (by first | omega | (simp; done) | (simp; omega)) (by first | (go_simp; done) | assumption)
  have f9_1 := bel_free hb9 (b := w.heap.size + 1) (o := 1) (by first | omega | (simp; done) | (simp; omega)) (by first | (go_simp; done) | assumption)
  clear kW_0 kW_1 kW_2 kW_3 fW_0 fW_1
  clear hb9
  have e1 : PG = (bitsP kd xs ys gs).1 := by rw [HPG.out, show (true) = true from rfl]; rfl
  have e2 : PW = (bitsP kd xs ys gs).2 := by rw [HPW.out, show (true) = true from rfl]; rfl
  have HE1 := Lib.hid e1
  have HE2 := Lib.hid e2
  clear e1 e2
  subst hx4; subst hy4
  have HB := Lib.hid HWB9.out.b
  have hBl := HWB9.out.b.le
  have HN2 := Lib.hid HWB9.out.f
  have HFx := Lib.hid (HWB9.out.fra HRx.out (by omega))
  have hrox := HRx.out.below HWB9.out.l
  clear HRx
  have HRx := Lib.hid hrox
  have HLx := Lib.hid hlx
  clear hrox hlx
  have HFy := Lib.hid (HWB9.out.fra HRy.out (by omega))
  have hroy := HRy.out.below HWB9.out.l
  clear HRy
  have HRy := Lib.hid hroy
  have HLy := Lib.hid hly
  clear hroy hly
  obtain ⟨W9, hW9⟩ : ∃ X, X = w9.alloc (.cells #[] 3) := ⟨_, rfl⟩
  have HS0 := Lib.hid (show Bs w9 W9 (w.heap.size + 2) bx gs (.slice (some ⟨g2, 0, none⟩) os.length d2) w9.heap.size 0 0 [] by rw [hW9]; exact Bs.start HWB9.out.b)
  have hBl := HWB9.out.b.le
  go_wp2_with fail
  rw [← hW9]
  clear hW9
  go_loopw [11, 20] (fun u i wr => ∃ (k ct gt : Nat) (G : List Gt) (T : List Int), k ≤ 4 ∧ i = .int .i64 k ∧ u = .slice (some ⟨gt, 0, none⟩) k ct ∧ rnds (fun h k => put1 h ⟨kd, at0 xs k, at0 ys k⟩) gs k = (G, T) ∧ Bs w9 wr (w.heap.size + 2) bx G (.slice (some ⟨g2, 0, none⟩) os.length d2) gt k ct T) (fun _ i _ => 4 - (intOf i).toNat)
  case atStart => exact ⟨0, 0, _, _, _, Nat.zero_le _, rfl, rfl, rfl, HS0.out⟩
  case round =>
    obtain ⟨k, ct, gt, G, T, hk, rfl, rfl, hsp, hbs⟩ := hrel
    have hGl := rnds_le (f := fun h k => put1 h ⟨kd, at0 xs k, at0 ys k⟩) (m := 1) (by intro h k; simp [put1]) gs k
    rw [hsp] at hGl
    simp only at hGl
    have HSP := Lib.hid hsp
    have HBS := Lib.hid hbs
    have zr := hbs.l.size
    have gtl := hbs.ge
    clear hsp hbs
    by_cases hlt : k < 4
    · have hk' : (k : Int) < 4 := by omega
      have HST := Lib.hid (rnds_succ (fun h k => put1 h ⟨kd, at0 xs k, at0 ys k⟩) gs k HSP.out)
      obtain ⟨blx, offx, rfl, hbx, hcx⟩ := HRx.out.elem k (by rw [HLx.out]; exact hlt)
      obtain ⟨vx, hvx⟩ : ∃ z, z = at0 xs (k : Int) := ⟨_, rfl⟩
      rw [← hvx] at hcx
      have HVx := Lib.hid hvx
      have HCx := Lib.hid hcx
      have hcx0 := HBS.out.cell (HFx.out _ _ rfl) HCx.out
      clear hvx hcx
      obtain ⟨bly, offy, rfl, hby, hcy⟩ := HRy.out.elem k (by rw [HLy.out]; exact hlt)
      obtain ⟨vy, hvy⟩ : ∃ z, z = at0 ys (k : Int) := ⟨_, rfl⟩
      rw [← hvy] at hcy
      have HVy := Lib.hid hvy
      have HCy := Lib.hid hcy
      have hcy0 := HBS.out.cell (HFy.out _ _ rfl) HCy.out
      clear hvy hcy
      obtain ⟨G1, e1⟩ : ∃ X, X = G ++ [⟨kd, vx, vy⟩] := ⟨_, rfl⟩
      have E1 := Lib.hid e1
      have L1 := Lib.hid (show G1.length = G.length + 1 by rw [e1]; simp)
      clear e1
      have HPUT : ∀ W, Bld W (w.heap.size + 2) bx G (.slice (some ⟨g2, 0, none⟩) os.length d2) → Calls Try.prog 59 #[.pointer (some ⟨bx, 0, none⟩), .int .i64 kd, .int .i64 vx, .int .i64 vy] W fun e w' => e = .returned (.int .i64 (G.length : Int)) ∧ Bld w' (w.heap.size + 2) bx G1 (.slice (some ⟨g2, 0, none⟩) os.length d2) ∧ Fr bx W w' ∧ Below (w.heap.size + 2) W w' := fun W h => by
        have := bgate_any G kd vx vy (.slice (some ⟨g2, 0, none⟩) os.length d2) (w.heap.size + 2) bx W h (by omega)
        rw [← E1.out] at this; exact this
      have HPT1 := Lib.hid HPUT
      clear HPUT
      have HN : Hid (rnds (fun h k => put1 h ⟨kd, at0 xs k, at0 ys k⟩) gs (k + 1) = (G1, T ++ [(G.length : Int)])) := by show _ = _; rw [HST.out, E1.out, HVx.out, HVy.out]; simp [put1]
      go_wp2_with fail
      go_region_held3 (fun w' => w'.cell? ⟨blx, offx + k, none⟩ = some (.int .i64 vx) ∧ w'.cell? ⟨bly, offy + k, none⟩ = some (.int .i64 vy)) (first | go_keep) (first | (go_at_call 59; refine (HPT1.out _ (HBS.out.drew).b).mono ?_; rintro e w2 ⟨rfl, hB2, hF2, hL2⟩; have S1 := Lib.hid ((HBS.out.drew).on hB2 hF2 hL2); have z1 : wr.heap.size ≤ w2.heap.size := hL2.size; have hcx1 := S1.out.cell (HFx.out _ _ rfl) HCx.out; have hcy1 := S1.out.cell (HFy.out _ _ rfl) HCy.out; clear hB2 hF2 hL2) | (refine step_push _ rfl (.tmp 23) (.tmp 35) rfl w9.heap.size gt k ct T (G.length : Int) w2.heap.size 1 (by rfl) (by rfl) (S1.out.o.alloc _) (by go_simp) (by omega) (by simp; omega) ?_; intro g6 d6 w8 ho6 hb6 hg6 hat6; have HP := Lib.hid (S1.out.push _ ho6 hb6 hg6 hat6); have hcx2 := HP.out.cell (HFx.out _ _ rfl) HCx.out; have hcy2 := HP.out.cell (HFy.out _ _ rfl) HCy.out; clear ho6 hb6 hg6 hat6))
      all_goals go_wp2_with fail
      all_goals go_roundw
      all_goals first
        | (show _ < _; first | (simp [intOf]; done) | (simp [intOf]; omega))
        | exact ⟨k + 1, d6, g6, _, _, by omega, by go_num, rfl, HN.out, HP.out⟩
    · obtain rfl : k = 4 := by omega
      have hp : bitsP kd xs ys gs = (G, T) := HSP.out
      rw [hp] at HE1 HE2
      clear hp
      have HWB10 := Lib.hid (HWB9.out.on HBS.out.b HBS.out.r HBS.out.l)
      have k10_0 := Fr.cell HBS.out.r (HWB9.out.b.frn_lo (by omega)) k9_0
      have k10_1 := Fr.cell HBS.out.r (HWB9.out.b.frn_lo (by omega)) k9_1
      have k10_2 := Fr.cell HBS.out.r (HWB9.out.b.frn_lo (by omega)) k9_2
      have k10_3 := Fr.cell HBS.out.r (HWB9.out.b.frn_lo (by omega)) k9_3
      have f10_0 := Fr.free HBS.out.r (HWB9.out.b.frn_lo (by omega)) f9_0
      have f10_1 := Fr.free HBS.out.r (HWB9.out.b.frn_lo (by omega)) f9_1
      clear k9_0 k9_1 k9_2 k9_3 f9_0 f9_1
      have HS10 := HBS
      obtain ⟨adR, capR, hcR, _, _⟩ := HWB10.out.b.row
      have hc1R := HWB10.out.b.snd
      have hlR := HWB10.out.l
      go_wp2_with fail
      refine bodyPost_ret (v := .tuple #[.agg #[.slice adR (G).length capR, .slice (some ⟨g2, 0, none⟩) os.length d2], .slice (some ⟨gt, 0, none⟩) 4 ct]) (by simp [results, Try.results105, go_sem, *]) rfl ?_
      rw [HE1.out, HE2.out]
      exact HWB10.out.postW hcR (by have := HS10.out.o.len; simpa using this.symm) (by have h1 := HS10.out.ge; have h2 := HWB9.out.b.le; exact HS10.out.o.later (by (repeat (first | with_reducible exact Kp.refl _ _ | (with_reducible refine Kp.rng ?_ (by assumption) ?_) | (with_reducible refine Kp.below ?_ (by assumption)) | (with_reducible refine Kp.grown ?_ (by assumption) ?_) | (with_reducible refine Kp.alloc ?_ _) | (with_reducible refine Kp.drew ?_) | (with_reducible refine Kp.drewN ?_ _) | (with_reducible refine Kp.setCell ?_ _ ?_))) <;> (first | omega | (simp; done) | (simp; omega)))) (fun y e => by obtain rfl := Option.some.inj e; exact ⟨HS10.out.f.2.2, by have h1 := HS10.out.ge; have h2 := HWB9.out.f.1; show gt ≠ g2; omega⟩) (by have := HWB9.out.b.le; omega) (fun b hb => (by (repeat (first | with_reducible exact Kp.refl _ _ | (with_reducible refine Kp.rng ?_ (by assumption) ?_) | (with_reducible refine Kp.below ?_ (by assumption)) | (with_reducible refine Kp.grown ?_ (by assumption) ?_) | (with_reducible refine Kp.alloc ?_ _) | (with_reducible refine Kp.drew ?_) | (with_reducible refine Kp.drewN ?_ _) | (with_reducible refine Kp.setCell ?_ _ ?_))) <;> (first | omega | (simp; done) | (simp; omega)))) (by (repeat (first | with_reducible exact Below.refl _ _ | (with_reducible refine bel_next ?_ ?_ (by assumption)) | (with_reducible refine Below.alloc ?_ ?_ _) | (with_reducible refine Below.drew ?_) | (with_reducible refine below_drewN ?_ _) | (with_reducible refine Below.setCell ?_ ?_ _))) <;> (first | omega | (simp; done) | (simp; omega)))
set_option maxRecDepth 20000 in
set_option maxHeartbeats 8000000 in
theorem iinputWord_any (gs : List Gt) (os : List Int) (a1 a2 : Option Addr) (c1 c2 : Nat) (w : World) (hm : gs.length ≤ 1048576) (hm2 : os.length ≤ 1048576) (hr : RdC w a1 (gtCells gs)) (hr2 : RdC w a2 (I64 os)) (pa sn : Int)  (hp0 : 0 ≤ pa ∧ pa ≤ 4) (hs0 : 0 ≤ sn ∧ sn ≤ 3) (h59 : gs.length ≤ 5900) :
    Calls Try.prog 104 #[.agg #[.slice a1 gs.length c1, .slice a2 os.length c2], .int .i64 pa, .int .i64 sn] w fun e w' => PostW w w' e (wP (true) (inputP (pa * 4 + sn) gs) gs []).1 os (wP (true) (inputP (pa * 4 + sn) gs) gs []).2 := by
  have HR := Lib.hid hr
  have HR2 := Lib.hid hr2
  clear hr hr2
  have nH : w.heap.size ≠ w.heap.size + 1 := by omega
  obtain ⟨PG, hPG⟩ : ∃ z, z = (wP (true) (inputP (pa * 4 + sn) gs) gs []).1 := ⟨_, rfl⟩
  obtain ⟨PW, hPW⟩ : ∃ z, z = (wP (true) (inputP (pa * 4 + sn) gs) gs []).2 := ⟨_, rfl⟩
  rw [← hPG, ← hPW]
  have HPG := Lib.hid hPG
  have HPW := Lib.hid hPW
  clear hPG hPW
  go_enter Try.func104, Try.ntmps104
  go_wp2_with fail
  refine (copyCircuit_any gs os _ _ _ _ _ hm hm2 (HR.out.below (by (repeat (first | with_reducible exact Below.refl _ _ | (with_reducible refine bel_next ?_ ?_ (by assumption)) | (with_reducible refine Below.alloc ?_ ?_ _) | (with_reducible refine Below.drew ?_) | (with_reducible refine below_drewN ?_ _) | (with_reducible refine Below.setCell ?_ ?_ _))) <;> (first | omega | (simp; done) | (simp; omega)))) (HR2.out.below (by (repeat (first | with_reducible exact Below.refl _ _ | (with_reducible refine bel_next ?_ ?_ (by assumption)) | (with_reducible refine Below.alloc ?_ ?_ _) | (with_reducible refine Below.drew ?_) | (with_reducible refine below_drewN ?_ _) | (with_reducible refine Below.setCell ?_ ?_ _))) <;> (first | omega | (simp; done) | (simp; omega))))).mono ?_
  rintro e w1 ⟨g1, d1, g2, d2, rfl, ho1, ho2, hne, hb1⟩
  have z1 := hb1.size
  (try simp at z1)
  have y1a : w.heap.size < w1.heap.size := (by omega)
  have y1b : w.heap.size + 1 < w1.heap.size := (by omega)
  have k1_0 := bel_keeps hb1 (b := w.heap.size) (o := 0) (v := .slice a1 gs.length c1) (by first | (go_simp; done) | assumption)
  have k1_1 := bel_keeps hb1 (b := w.heap.size) (o := 1) (v := .slice a2 os.length c2) (by first | (go_simp; done) | assumption)
  have k1_2 := bel_keeps hb1 (b := w.heap.size + 1) (o := 0) (v := .slice none 0 0) (by first | (go_simp; done) | assumption)
  have k1_3 := bel_keeps hb1 (b := w.heap.size + 1) (o := 1) (v := .slice none 0 0) (by first | (go_simp; done) | assumption)
  have f1_0 := bel_free hb1 (b := w.heap.size + 1) (o := 0) (by first | omega | (simp; done) | (simp; omega)) (by first | (go_simp; done) | assumption)
  have f1_1 := bel_free hb1 (b := w.heap.size + 1) (o := 1) (by first | omega | (simp; done) | (simp; omega)) (by first | (go_simp; done) | assumption)
  have hbw1 : Below w.heap.size w w1 := (by (repeat (first | with_reducible exact Below.refl _ _ | (with_reducible refine bel_next ?_ ?_ (by assumption)) | (with_reducible refine Below.alloc ?_ ?_ _) | (with_reducible refine Below.drew ?_) | (with_reducible refine below_drewN ?_ _) | (with_reducible refine Below.setCell ?_ ?_ _))) <;> (first | omega | (simp; done) | (simp; omega)))
  go_wp2_with fail
  obtain ⟨W, hW⟩ : ∃ W, W = w1.alloc (.cells #[.slice (some ⟨g1, 0, none⟩) gs.length d1, .slice (some ⟨g2, 0, none⟩) os.length d2] 72) := ⟨_, rfl⟩
  obtain ⟨bx, hbx⟩ : ∃ b, b = w1.heap.size := ⟨_, rfl⟩
  rw [← hW, ← hbx]
  have hbW : Below w1.heap.size w1 W := by rw [hW]; exact (Below.refl _ _).alloc (Nat.le_refl _) _
  have HWB := Lib.hid (WB.start (w0 := w) (w := W) (bx := bx) (ho1.lo (by simp)) (ho2.lo (by simp)) hne (hbw1.trans (hbW.mono (by omega))) hbW hbx (by rw [hW]; simp) (by rw [hW, hbx]; go_simp) (by rw [hW, hbx]; go_simp) (by rw [hW, hbx]; go_simp) (by rw [hW, hbx]; go_simp))
  have hbb : w.heap.size + 2 ≤ bx := by omega
  have zW := hbW.size
  (try simp at zW)
  have yWa : w.heap.size < W.heap.size := (by omega)
  have yWb : w.heap.size + 1 < W.heap.size := (by omega)
  have kW_0 := bel_keeps hbW (b := w.heap.size) (o := 0) (v := .slice a1 gs.length c1) (by first | (go_simp; done) | assumption)
  have kW_1 := bel_keeps hbW (b := w.heap.size) (o := 1) (v := .slice a2 os.length c2) (by first | (go_simp; done) | assumption)
  have kW_2 := bel_keeps hbW (b := w.heap.size + 1) (o := 0) (v := .slice none 0 0) (by first | (go_simp; done) | assumption)
  have kW_3 := bel_keeps hbW (b := w.heap.size + 1) (o := 1) (v := .slice none 0 0) (by first | (go_simp; done) | assumption)
  have fW_0 := bel_free hbW (b := w.heap.size + 1) (o := 0) (by first | omega | (simp; done) | (simp; omega)) (by first | (go_simp; done) | assumption)
  have fW_1 := bel_free hbW (b := w.heap.size + 1) (o := 1) (by first | omega | (simp; done) | (simp; omega)) (by first | (go_simp; done) | assumption)
  clear k1_0 k1_1 k1_2 k1_3 f1_0 f1_1
  have hbz : bx + 1 = W.heap.size := (by rw [hW, hbx]; simp)
  clear hW hbx hbW ho1 ho2 hne hb1 hbw1
  obtain ⟨w9, h9⟩ : ∃ X, X = W := ⟨_, rfl⟩
  have hb9 : Below W.heap.size W w9 := by rw [h9]; exact Below.refl _ _
  have hbz9 : bx + 1 = w9.heap.size := by rw [h9]; exact hbz
  rw [← h9, hbz9]
  clear h9 hbz hbz9
  have HWB9 := Lib.hid (HWB.out.below hb9)
  have z9 := hb9.size
  (try simp at z9)
  have y9a : w.heap.size < w9.heap.size := (by omega)
  have y9b : w.heap.size + 1 < w9.heap.size := (by omega)
  have k9_0 := bel_keeps hb9 (b := w.heap.size) (o := 0) (v := .slice a1 gs.length c1) (by first | (go_simp; done) | assumption)
  have k9_1 := bel_keeps hb9 (b := w.heap.size) (o := 1) (v := .slice a2 os.length c2) (by first | (go_simp; done) | assumption)
  have k9_2 := bel_keeps hb9 (b := w.heap.size + 1) (o := 0) (v := .slice none 0 0) (by first | (go_simp; done) | assumption)
  have k9_3 := bel_keeps hb9 (b := w.heap.size + 1) (o := 1) (v := .slice none 0 0) (by first | (go_simp; done) | assumption)
  have f9_0 := bel_free hb9 (b := w.heap.size + 1) (o := 0) (by first | omega | (simp; done) | (simp; omega)) (by first | (go_simp; done) | assumption)
  have f9_1 := bel_free hb9 (b := w.heap.size + 1) (o := 1) (by first | omega | (simp; done) | (simp; omega)) (by first | (go_simp; done) | assumption)
  clear kW_0 kW_1 kW_2 kW_3 fW_0 fW_1
  clear hb9
  have e1 : PG = (inputP (pa * 4 + sn) gs).1 := by rw [HPG.out, show (true) = true from rfl]; rfl
  have e2 : PW = (inputP (pa * 4 + sn) gs).2 := by rw [HPW.out, show (true) = true from rfl]; rfl
  have HE1 := Lib.hid e1
  have HE2 := Lib.hid e2
  clear e1 e2
  have hw1 : IntKind.i64.wrap (pa * 4) = pa * 4 := wrap_i64_id (by omega) (by omega)
  have hw2 : IntKind.i64.wrap (pa * 4 + sn) = pa * 4 + sn := wrap_i64_id (by omega) (by omega)
  have hw3 : IntKind.i64.wrap ((pa * 4 + sn) * 4) = (pa * 4 + sn) * 4 := wrap_i64_id (by omega) (by omega)
  obtain ⟨W9, hW9⟩ : ∃ X, X = w9.alloc (.cells #[] 3) := ⟨_, rfl⟩
  have HS0 := Lib.hid (show Bs w9 W9 (w.heap.size + 2) bx gs (.slice (some ⟨g2, 0, none⟩) os.length d2) w9.heap.size 0 0 [] by rw [hW9]; exact Bs.start HWB9.out.b)
  have hBl := HWB9.out.b.le
  go_wp2_with fail
  rw [← hW9]
  clear hW9
  go_loopw [9, 10] (fun u i wr => ∃ (k ct gt : Nat) (G : List Gt) (T : List Int), k ≤ 4 ∧ i = .int .i64 k ∧ u = .slice (some ⟨gt, 0, none⟩) k ct ∧ rnds (fun h k => put1 h ⟨1, ((pa * 4 + sn) * 4 + k), 0⟩) gs k = (G, T) ∧ Bs w9 wr (w.heap.size + 2) bx G (.slice (some ⟨g2, 0, none⟩) os.length d2) gt k ct T) (fun _ i _ => 4 - (intOf i).toNat)
  case atStart => exact ⟨0, 0, _, _, _, Nat.zero_le _, rfl, rfl, rfl, HS0.out⟩
  case round =>
    obtain ⟨k, ct, gt, G, T, hk, rfl, rfl, hsp, hbs⟩ := hrel
    have hGl := rnds_le (f := fun h k => put1 h ⟨1, ((pa * 4 + sn) * 4 + k), 0⟩) (m := 1) (by intro h k; simp [put1]) gs k
    rw [hsp] at hGl
    simp only at hGl
    have HSP := Lib.hid hsp
    have HBS := Lib.hid hbs
    have zr := hbs.l.size
    have gtl := hbs.ge
    clear hsp hbs
    by_cases hlt : k < 4
    · have hk' : (k : Int) < 4 := by omega
      have hw4 : IntKind.i64.wrap ((pa * 4 + sn) * 4 + k) = ((pa * 4 + sn) * 4 + k) := wrap_i64_id (by omega) (by omega)
      have HST := Lib.hid (rnds_succ (fun h k => put1 h ⟨1, ((pa * 4 + sn) * 4 + k), 0⟩) gs k HSP.out)
      go_wp2_with fail
      refine (bgate_any G 1 ((pa * 4 + sn) * 4 + k) 0 (.slice (some ⟨g2, 0, none⟩) os.length d2) (w.heap.size + 2) bx _ (HBS.out).b (by first | omega | (simp; omega))).mono ?_
      rintro e w2 ⟨rfl, hB2, hF2, hL2⟩
      obtain ⟨G1, e1⟩ : ∃ X, X = G ++ [⟨1, ((pa * 4 + sn) * 4 + k), 0⟩] := ⟨_, rfl⟩
      rw [← e1] at hB2
      have l1 : G1.length = G.length + 1 := by rw [e1]; simp
      have E1 := Lib.hid e1
      have S1 := Lib.hid ((HBS.out).on hB2 hF2 hL2)
      have z1 : wr.heap.size ≤ w2.heap.size := hL2.size
      have L1 := Lib.hid l1
      have n1 : G1.length ≤ 900000 + 100 + 0 := by omega
      clear e1 hB2 hF2 hL2 l1
      go_wp2_with (refine wpList_push _ rfl (.tmp 20) (.tmp 30) rfl w9.heap.size gt k ct T (G.length : Int) w2.heap.size 1 (by rfl) (by rfl) (S1.out.o.alloc _) (by go_simp) (by omega) (by simp; omega) ?_; intro g6 d6 w8 ho6 hb6 hg6 hat6)
      have HN : Hid (rnds (fun h k => put1 h ⟨1, ((pa * 4 + sn) * 4 + k), 0⟩) gs (k + 1) = (G1, T ++ [(G.length : Int)])) := by show _ = _; rw [HST.out, E1.out]; simp [put1]
      have HP := Lib.hid (S1.out.push _ ho6 hb6 hg6 hat6)
      clear ho6 hb6 hg6 hat6
      go_wp2_with fail
      go_roundw
      case rel => exact ⟨k + 1, d6, g6, _, _, by omega, by go_num, rfl, HN.out, HP.out⟩
      case measure => first | (simp [intOf]; done) | (simp [intOf]; omega)
    · obtain rfl : k = 4 := by omega
      have hp : inputP (pa * 4 + sn) gs = (G, T) := HSP.out
      rw [hp] at HE1 HE2
      clear hp
      have HWB10 := Lib.hid (HWB9.out.on HBS.out.b HBS.out.r HBS.out.l)
      have k10_0 := Fr.cell HBS.out.r (HWB9.out.b.frn_lo (by omega)) k9_0
      have k10_1 := Fr.cell HBS.out.r (HWB9.out.b.frn_lo (by omega)) k9_1
      have k10_2 := Fr.cell HBS.out.r (HWB9.out.b.frn_lo (by omega)) k9_2
      have k10_3 := Fr.cell HBS.out.r (HWB9.out.b.frn_lo (by omega)) k9_3
      have f10_0 := Fr.free HBS.out.r (HWB9.out.b.frn_lo (by omega)) f9_0
      have f10_1 := Fr.free HBS.out.r (HWB9.out.b.frn_lo (by omega)) f9_1
      clear k9_0 k9_1 k9_2 k9_3 f9_0 f9_1
      have HS10 := HBS
      obtain ⟨adR, capR, hcR, _, _⟩ := HWB10.out.b.row
      have hc1R := HWB10.out.b.snd
      have hlR := HWB10.out.l
      go_wp2_with fail
      refine bodyPost_ret (v := .tuple #[.agg #[.slice adR (G).length capR, .slice (some ⟨g2, 0, none⟩) os.length d2], .slice (some ⟨gt, 0, none⟩) 4 ct]) (by simp [results, Try.results104, go_sem, *]) rfl ?_
      rw [HE1.out, HE2.out]
      exact HWB10.out.postW hcR (by have := HS10.out.o.len; simpa using this.symm) (by have h1 := HS10.out.ge; have h2 := HWB9.out.b.le; exact HS10.out.o.later (by (repeat (first | with_reducible exact Kp.refl _ _ | (with_reducible refine Kp.rng ?_ (by assumption) ?_) | (with_reducible refine Kp.below ?_ (by assumption)) | (with_reducible refine Kp.grown ?_ (by assumption) ?_) | (with_reducible refine Kp.alloc ?_ _) | (with_reducible refine Kp.drew ?_) | (with_reducible refine Kp.drewN ?_ _) | (with_reducible refine Kp.setCell ?_ _ ?_))) <;> (first | omega | (simp; done) | (simp; omega)))) (fun y e => by obtain rfl := Option.some.inj e; exact ⟨HS10.out.f.2.2, by have h1 := HS10.out.ge; have h2 := HWB9.out.f.1; show gt ≠ g2; omega⟩) (by have := HWB9.out.b.le; omega) (fun b hb => (by (repeat (first | with_reducible exact Kp.refl _ _ | (with_reducible refine Kp.rng ?_ (by assumption) ?_) | (with_reducible refine Kp.below ?_ (by assumption)) | (with_reducible refine Kp.grown ?_ (by assumption) ?_) | (with_reducible refine Kp.alloc ?_ _) | (with_reducible refine Kp.drew ?_) | (with_reducible refine Kp.drewN ?_ _) | (with_reducible refine Kp.setCell ?_ _ ?_))) <;> (first | omega | (simp; done) | (simp; omega)))) (by (repeat (first | with_reducible exact Below.refl _ _ | (with_reducible refine bel_next ?_ ?_ (by assumption)) | (with_reducible refine Below.alloc ?_ ?_ _) | (with_reducible refine Below.drew ?_) | (with_reducible refine below_drewN ?_ _) | (with_reducible refine Below.setCell ?_ ?_ _))) <;> (first | omega | (simp; done) | (simp; omega)))
end Go.Proofs.Ytfcijloiebnloaa

/- WordI -/
namespace Go.Proofs.Ytfcijloiebnloaa
open Go.RowKit
set_option linter.unusedVariables false
set_option linter.unusedSimpArgs false

theorem bsumW (gs : List Gt) (first : Int) (v : Value) (lo bx : Nat) (w : World) (hB : Bld w lo bx gs v) (hn : gs.length ≤ 900000) (xs : List Int) (ax : Option Addr) (cx : Nat) (hlx : xs.length = 4) (hrx : RdC w ax (I64 xs)) (hfx : FrA w bx ax) (ys : List Int) (ay : Option Addr) (cy : Nat) (hly : ys.length = 4) (hry : RdC w ay (I64 ys)) (hfy : FrA w bx ay) (hcx : 4 ≤ cx) :
    Calls Try.prog 68 #[.pointer (some ⟨bx, 0, none⟩), .slice ax 4 cx, .slice ay 4 cy, .int .i64 first, .int .i64 0] w fun e w' => ∃ g c', e = .returned (.slice (some ⟨g, 0, none⟩) 4 c') ∧ Bs w w' lo bx (sumP xs ys first 3 gs).1 v g 4 c' (sumP xs ys first 3 gs).2 := by
  have := bsum0 gs first v lo bx w hB hn xs ax cx hlx hrx hfx ys ay cy hly hry hfy hcx
  simpa only [List.drop_zero, List.take_zero, List.nil_append] using this
set_option maxRecDepth 20000 in
set_option maxHeartbeats 8000000 in
theorem iWordAdd_any (gs : List Gt) (os : List Int) (a1 a2 : Option Addr) (c1 c2 : Nat) (w : World) (hm : gs.length ≤ 1048576) (hm2 : os.length ≤ 1048576) (hr : RdC w a1 (gtCells gs)) (hr2 : RdC w a2 (I64 os))  (xs : List Int) (nx : Nat) (ax : Option Addr) (cx : Nat) (hlx : xs.length = nx) (hmx : nx ≤ 1048576) (hrx : RdC w ax (I64 xs)) (ys : List Int) (ny : Nat) (ay : Option Addr) (cy : Nat) (hly : ys.length = ny) (hmy : ny ≤ 1048576) (hry : RdC w ay (I64 ys)) (hcx : nx ≤ cx) :
    Calls Try.prog 28 #[.agg #[.slice a1 gs.length c1, .slice a2 os.length c2], .slice ax nx cx, .slice ay ny cy] w fun e w' => PostW w w' e (wP (askB gs os xs ys) (sumP xs ys 0 3 gs) gs []).1 os (wP (askB gs os xs ys) (sumP xs ys 0 3 gs) gs []).2 := by
  have HR := Lib.hid hr
  have HR2 := Lib.hid hr2
  have HRx := Lib.hid hrx
  have HRy := Lib.hid hry
  clear hr hr2 hrx hry
  have nH : w.heap.size ≠ w.heap.size + 1 := by omega
  obtain ⟨PG, hPG⟩ : ∃ z, z = (wP (askB gs os xs ys) (sumP xs ys 0 3 gs) gs []).1 := ⟨_, rfl⟩
  obtain ⟨PW, hPW⟩ : ∃ z, z = (wP (askB gs os xs ys) (sumP xs ys 0 3 gs) gs []).2 := ⟨_, rfl⟩
  rw [← hPG, ← hPW]
  have HPG := Lib.hid hPG
  have HPW := Lib.hid hPW
  clear hPG hPW
  go_enter Try.func28, Try.ntmps28
  go_wp2_with fail
  refine (copyCircuit_any gs os _ _ _ _ _ hm hm2 (HR.out.below (by (repeat (first | with_reducible exact Below.refl _ _ | (with_reducible refine bel_next ?_ ?_ (by assumption)) | (with_reducible refine Below.alloc ?_ ?_ _) | (with_reducible refine Below.drew ?_) | (with_reducible refine below_drewN ?_ _) | (with_reducible refine Below.setCell ?_ ?_ _))) <;> (first | omega | (simp; done) | (simp; omega)))) (HR2.out.below (by (repeat (first | with_reducible exact Below.refl _ _ | (with_reducible refine bel_next ?_ ?_ (by assumption)) | (with_reducible refine Below.alloc ?_ ?_ _) | (with_reducible refine Below.drew ?_) | (with_reducible refine below_drewN ?_ _) | (with_reducible refine Below.setCell ?_ ?_ _))) <;> (first | omega | (simp; done) | (simp; omega))))).mono ?_
  rintro e w1 ⟨g1, d1, g2, d2, rfl, ho1, ho2, hne, hb1⟩
  have z1 := hb1.size
  (try simp at z1)
  have y1a : w.heap.size < w1.heap.size := (by omega)
  have y1b : w.heap.size + 1 < w1.heap.size := (by omega)
  have k1_0 := bel_keeps hb1 (b := w.heap.size) (o := 0) (v := .slice a1 gs.length c1) (by first | (go_simp; done) | assumption)
  have k1_1 := bel_keeps hb1 (b := w.heap.size) (o := 1) (v := .slice a2 os.length c2) (by first | (go_simp; done) | assumption)
  have k1_2 := bel_keeps hb1 (b := w.heap.size + 1) (o := 0) (v := .slice none 0 0) (by first | (go_simp; done) | assumption)
  have k1_3 := bel_keeps hb1 (b := w.heap.size + 1) (o := 1) (v := .slice none 0 0) (by first | (go_simp; done) | assumption)
  have f1_0 := bel_free hb1 (b := w.heap.size + 1) (o := 0) (by first | omega | (simp; done) | (simp; omega)) (by first | (go_simp; done) | assumption)
  have f1_1 := bel_free hb1 (b := w.heap.size + 1) (o := 1) (by first | omega | (simp; done) | (simp; omega)) (by first | (go_simp; done) | assumption)
  have hbw1 : Below w.heap.size w w1 := (by (repeat (first | with_reducible exact Below.refl _ _ | (with_reducible refine bel_next ?_ ?_ (by assumption)) | (with_reducible refine Below.alloc ?_ ?_ _) | (with_reducible refine Below.drew ?_) | (with_reducible refine below_drewN ?_ _) | (with_reducible refine Below.setCell ?_ ?_ _))) <;> (first | omega | (simp; done) | (simp; omega)))
  go_wp2_with fail
  obtain ⟨W, hW⟩ : ∃ W, W = w1.alloc (.cells #[.slice (some ⟨g1, 0, none⟩) gs.length d1, .slice (some ⟨g2, 0, none⟩) os.length d2] 72) := ⟨_, rfl⟩
  obtain ⟨bx, hbx⟩ : ∃ b, b = w1.heap.size := ⟨_, rfl⟩
  rw [← hW, ← hbx]
  have hWs : W.heap.size = bx + 1 := by rw [hW, hbx]; simp
  rw [← hWs]
  clear hWs
  have hbW : Below w1.heap.size w1 W := by rw [hW]; exact (Below.refl _ _).alloc (Nat.le_refl _) _
  have HWB := Lib.hid (WB.start (w0 := w) (w := W) (bx := bx) (ho1.lo (by simp)) (ho2.lo (by simp)) hne (hbw1.trans (hbW.mono (by omega))) hbW hbx (by rw [hW]; simp) (by rw [hW, hbx]; go_simp) (by rw [hW, hbx]; go_simp) (by rw [hW, hbx]; go_simp) (by rw [hW, hbx]; go_simp))
  have hbb : w.heap.size + 2 ≤ bx := by omega
  have zW := hbW.size
  (try simp at zW)
  have yWa : w.heap.size < W.heap.size := (by omega)
  have yWb : w.heap.size + 1 < W.heap.size := (by omega)
  have kW_0 := bel_keeps hbW (b := w.heap.size) (o := 0) (v := .slice a1 gs.length c1) (by first | (go_simp; done) | assumption)
  have kW_1 := bel_keeps hbW (b := w.heap.size) (o := 1) (v := .slice a2 os.length c2) (by first | (go_simp; done) | assumption)
  have kW_2 := bel_keeps hbW (b := w.heap.size + 1) (o := 0) (v := .slice none 0 0) (by first | (go_simp; done) | assumption)
  have kW_3 := bel_keeps hbW (b := w.heap.size + 1) (o := 1) (v := .slice none 0 0) (by first | (go_simp; done) | assumption)
  have fW_0 := bel_free hbW (b := w.heap.size + 1) (o := 0) (by first | omega | (simp; done) | (simp; omega)) (by first | (go_simp; done) | assumption)
  have fW_1 := bel_free hbW (b := w.heap.size + 1) (o := 1) (by first | omega | (simp; done) | (simp; omega)) (by first | (go_simp; done) | assumption)
  clear k1_0 k1_1 k1_2 k1_3 f1_0 f1_1
  clear hW hbx hbW ho1 ho2 hne hb1 hbw1
  have hlW := HWB.out.l
  refine (isWordOf2_any gs os _ _ _ _ _ hm hm2 (HR.out.below (hlW.trans (((Below.refl _ _).alloc (Nat.le_refl _) _).mono (by omega)))) (HR2.out.below (hlW.trans (((Below.refl _ _).alloc (Nat.le_refl _) _).mono (by omega)))) xs nx ax cx hlx hmx (HRx.out.below (hlW.trans (((Below.refl _ _).alloc (Nat.le_refl _) _).mono (by omega)))) ys ny ay cy hly hmy (HRy.out.below (hlW.trans (((Below.refl _ _).alloc (Nat.le_refl _) _).mono (by omega)))) W.heap.size 2 (by go_simp) (by go_simp)).mono ?_
  rintro e w9 ⟨rfl, hb0⟩
  have hb9 : Below W.heap.size W w9 := ((Below.refl _ _).alloc (Nat.le_refl _) _).trans (hb0.mono (by simp))
  clear hb0
  have HWB9 := Lib.hid (HWB.out.below hb9)
  have z9 := hb9.size
  (try simp at z9)
  have y9a : w.heap.size < w9.heap.size := (by omega)
  have y9b : w.heap.size + 1 < w9.heap.size := (by omega)
  have k9_0 := bel_keeps hb9 (b := w.heap.size) (o := 0) (v := .slice a1 gs.length c1) (by first | (go_simp; done) | assumption)
  have k9_1 := bel_keeps hb9 (b := w.heap.size) (o := 1) (v := .slice a2 os.length c2) (by first | (go_simp; done) | assumption)
  have k9_2 := bel_keeps hb9 (b := w.heap.size + 1) (o := 0) (v := .slice none 0 0) (by first | (go_simp; done) | assumption)
  have k9_3 := bel_keeps hb9 (b := w.heap.size + 1) (o := 1) (v := .slice none 0 0) (by first | (go_simp; done) | assumption)
  have f9_0 := bel_free hb9 (b := w.heap.size + 1) (o := 0) (by first | omega | (simp; done) | (simp; omega)) (by first | (go_simp; done) | assumption)
  have f9_1 := bel_free hb9 (b := w.heap.size + 1) (o := 1) (by first | omega | (simp; done) | (simp; omega)) (by first | (go_simp; done) | assumption)
  clear kW_0 kW_1 kW_2 kW_3 fW_0 fW_1
  clear hb9
  cases hq : askB gs os xs ys
  · have e1 : PG = gs := by rw [HPG.out, show (askB gs os xs ys) = false from hq]; rfl
    have e2 : PW = [] := by rw [HPW.out, show (askB gs os xs ys) = false from hq]; rfl
    have HE1 := Lib.hid e1
    have HE2 := Lib.hid e2
    clear e1 e2
    obtain ⟨adR, capR, hcR, _, _⟩ := HWB9.out.b.row
    have hc1R := HWB9.out.b.snd
    have hlR := HWB9.out.l
    go_wp2_with fail
    refine bodyPost_ret (v := .tuple #[.agg #[.slice adR gs.length capR, .slice (some ⟨g2, 0, none⟩) os.length d2], .slice none 0 0]) (by simp [results, Try.results28, go_sem, *]) rfl ?_
    rw [HE1.out, HE2.out]
    exact HWB9.out.postW hcR rfl (own_nil _ _ _ _) (fun y e => by cases e) (Nat.le_refl _) (fun b hb => (by (repeat (first | with_reducible exact Kp.refl _ _ | (with_reducible refine Kp.rng ?_ (by assumption) ?_) | (with_reducible refine Kp.below ?_ (by assumption)) | (with_reducible refine Kp.grown ?_ (by assumption) ?_) | (with_reducible refine Kp.alloc ?_ _) | (with_reducible refine Kp.drew ?_) | (with_reducible refine Kp.drewN ?_ _) | (with_reducible refine Kp.setCell ?_ _ ?_))) <;> (first | omega | (simp; done) | (simp; omega)))) (by (repeat (first | with_reducible exact Below.refl _ _ | (with_reducible refine bel_next ?_ ?_ (by assumption)) | (with_reducible refine Below.alloc ?_ ?_ _) | (with_reducible refine Below.drew ?_) | (with_reducible refine below_drewN ?_ _) | (with_reducible refine Below.setCell ?_ ?_ _))) <;> (first | omega | (simp; done) | (simp; omega) | (simp [World.setCell]; omega)))
  · have e1 : PG = (sumP xs ys 0 3 gs).1 := by rw [HPG.out, show (askB gs os xs ys) = true from hq]; rfl
    have e2 : PW = (sumP xs ys 0 3 gs).2 := by rw [HPW.out, show (askB gs os xs ys) = true from hq]; rfl
    have HE1 := Lib.hid e1
    have HE2 := Lib.hid e2
    clear e1 e2
    obtain ⟨hx4, hy4, h59⟩ := askB_len hq
    rw [hlx] at hx4
    rw [hly] at hy4
    subst hx4; subst hy4
    have frx10 := HWB9.out.fra HRx.out (by omega)
    have rdx10 := HRx.out.below HWB9.out.l
    have fry10 := HWB9.out.fra HRy.out (by omega)
    have rdy10 := HRy.out.below HWB9.out.l
    go_wp2_with fail
    refine (bsumW gs 0 _ _ bx _ HWB9.out.b (by omega) xs ax cx hlx rdx10 frx10 ys ay cy hly rdy10 fry10 hcx).mono ?_
    rintro e w10 ⟨h10, c10, rfl, hs10⟩
    have HWB10 := Lib.hid (HWB9.out.on hs10.b hs10.r hs10.l)
    have k10_0 := Fr.cell hs10.r (HWB9.out.b.frn_lo (by omega)) k9_0
    have k10_1 := Fr.cell hs10.r (HWB9.out.b.frn_lo (by omega)) k9_1
    have k10_2 := Fr.cell hs10.r (HWB9.out.b.frn_lo (by omega)) k9_2
    have k10_3 := Fr.cell hs10.r (HWB9.out.b.frn_lo (by omega)) k9_3
    have f10_0 := Fr.free hs10.r (HWB9.out.b.frn_lo (by omega)) f9_0
    have f10_1 := Fr.free hs10.r (HWB9.out.b.frn_lo (by omega)) f9_1
    clear k9_0 k9_1 k9_2 k9_3 f9_0 f9_1
    have HS10 := Lib.hid hs10
    clear hs10 frx10 rdx10 fry10 rdy10
    obtain ⟨adR, capR, hcR, _, _⟩ := HWB10.out.b.row
    have hc1R := HWB10.out.b.snd
    have hlR := HWB10.out.l
    go_wp2_with fail
    refine bodyPost_ret (v := .tuple #[.agg #[.slice adR (sumP xs ys 0 3 gs).1.length capR, .slice (some ⟨g2, 0, none⟩) os.length d2], .slice (some ⟨h10, 0, none⟩) 4 c10]) (by simp [results, Try.results28, go_sem, *]) rfl ?_
    rw [HE1.out, HE2.out]
    exact HWB10.out.postW hcR (by have := HS10.out.o.len; simpa using this.symm) (by have h1 := HS10.out.ge; have h2 := HWB9.out.b.le; exact HS10.out.o.later (by (repeat (first | with_reducible exact Kp.refl _ _ | (with_reducible refine Kp.rng ?_ (by assumption) ?_) | (with_reducible refine Kp.below ?_ (by assumption)) | (with_reducible refine Kp.grown ?_ (by assumption) ?_) | (with_reducible refine Kp.alloc ?_ _) | (with_reducible refine Kp.drew ?_) | (with_reducible refine Kp.drewN ?_ _) | (with_reducible refine Kp.setCell ?_ _ ?_))) <;> (first | omega | (simp; done) | (simp; omega)))) (fun y e => by obtain rfl := Option.some.inj e; exact ⟨HS10.out.f.2.2, by have h1 := HS10.out.ge; have h2 := HWB9.out.f.1; show h10 ≠ g2; omega⟩) (by have := HWB9.out.b.le; omega) (fun b hb => (by (repeat (first | with_reducible exact Kp.refl _ _ | (with_reducible refine Kp.rng ?_ (by assumption) ?_) | (with_reducible refine Kp.below ?_ (by assumption)) | (with_reducible refine Kp.grown ?_ (by assumption) ?_) | (with_reducible refine Kp.alloc ?_ _) | (with_reducible refine Kp.drew ?_) | (with_reducible refine Kp.drewN ?_ _) | (with_reducible refine Kp.setCell ?_ _ ?_))) <;> (first | omega | (simp; done) | (simp; omega)))) (by (repeat (first | with_reducible exact Below.refl _ _ | (with_reducible refine bel_next ?_ ?_ (by assumption)) | (with_reducible refine Below.alloc ?_ ?_ _) | (with_reducible refine Below.drew ?_) | (with_reducible refine below_drewN ?_ _) | (with_reducible refine Below.setCell ?_ ?_ _))) <;> (first | omega | (simp; done) | (simp; omega)))
set_option maxRecDepth 20000 in
set_option maxHeartbeats 8000000 in
theorem iWordSub_any (gs : List Gt) (os : List Int) (a1 a2 : Option Addr) (c1 c2 : Nat) (w : World) (hm : gs.length ≤ 1048576) (hm2 : os.length ≤ 1048576) (hr : RdC w a1 (gtCells gs)) (hr2 : RdC w a2 (I64 os))  (xs : List Int) (nx : Nat) (ax : Option Addr) (cx : Nat) (hlx : xs.length = nx) (hmx : nx ≤ 1048576) (hrx : RdC w ax (I64 xs)) (ys : List Int) (ny : Nat) (ay : Option Addr) (cy : Nat) (hly : ys.length = ny) (hmy : ny ≤ 1048576) (hry : RdC w ay (I64 ys)) (hcx : nx ≤ cx) :
    Calls Try.prog 32 #[.agg #[.slice a1 gs.length c1, .slice a2 os.length c2], .slice ax nx cx, .slice ay ny cy] w fun e w' => PostW w w' e (wP (askB gs os xs ys) (sumP xs (notsP ys gs).2 1 3 (notsP ys gs).1) gs []).1 os (wP (askB gs os xs ys) (sumP xs (notsP ys gs).2 1 3 (notsP ys gs).1) gs []).2 := by
  have HR := Lib.hid hr
  have HR2 := Lib.hid hr2
  have HRx := Lib.hid hrx
  have HRy := Lib.hid hry
  clear hr hr2 hrx hry
  have nH : w.heap.size ≠ w.heap.size + 1 := by omega
  obtain ⟨PG, hPG⟩ : ∃ z, z = (wP (askB gs os xs ys) (sumP xs (notsP ys gs).2 1 3 (notsP ys gs).1) gs []).1 := ⟨_, rfl⟩
  obtain ⟨PW, hPW⟩ : ∃ z, z = (wP (askB gs os xs ys) (sumP xs (notsP ys gs).2 1 3 (notsP ys gs).1) gs []).2 := ⟨_, rfl⟩
  rw [← hPG, ← hPW]
  have HPG := Lib.hid hPG
  have HPW := Lib.hid hPW
  clear hPG hPW
  go_enter Try.func32, Try.ntmps32
  go_wp2_with fail
  refine (copyCircuit_any gs os _ _ _ _ _ hm hm2 (HR.out.below (by (repeat (first | with_reducible exact Below.refl _ _ | (with_reducible refine bel_next ?_ ?_ (by assumption)) | (with_reducible refine Below.alloc ?_ ?_ _) | (with_reducible refine Below.drew ?_) | (with_reducible refine below_drewN ?_ _) | (with_reducible refine Below.setCell ?_ ?_ _))) <;> (first | omega | (simp; done) | (simp; omega)))) (HR2.out.below (by (repeat (first | with_reducible exact Below.refl _ _ | (with_reducible refine bel_next ?_ ?_ (by assumption)) | (with_reducible refine Below.alloc ?_ ?_ _) | (with_reducible refine Below.drew ?_) | (with_reducible refine below_drewN ?_ _) | (with_reducible refine Below.setCell ?_ ?_ _))) <;> (first | omega | (simp; done) | (simp; omega))))).mono ?_
  rintro e w1 ⟨g1, d1, g2, d2, rfl, ho1, ho2, hne, hb1⟩
  have z1 := hb1.size
  (try simp at z1)
  have y1a : w.heap.size < w1.heap.size := (by omega)
  have y1b : w.heap.size + 1 < w1.heap.size := (by omega)
  have k1_0 := bel_keeps hb1 (b := w.heap.size) (o := 0) (v := .slice a1 gs.length c1) (by first | (go_simp; done) | assumption)
  have k1_1 := bel_keeps hb1 (b := w.heap.size) (o := 1) (v := .slice a2 os.length c2) (by first | (go_simp; done) | assumption)
  have k1_2 := bel_keeps hb1 (b := w.heap.size + 1) (o := 0) (v := .slice none 0 0) (by first | (go_simp; done) | assumption)
  have k1_3 := bel_keeps hb1 (b := w.heap.size + 1) (o := 1) (v := .slice none 0 0) (by first | (go_simp; done) | assumption)
  have f1_0 := bel_free hb1 (b := w.heap.size + 1) (o := 0) (by first | omega | (simp; done) | (simp; omega)) (by first | (go_simp; done) | assumption)
  have f1_1 := bel_free hb1 (b := w.heap.size + 1) (o := 1) (by first | omega | (simp; done) | (simp; omega)) (by first | (go_simp; done) | assumption)
  have hbw1 : Below w.heap.size w w1 := (by (repeat (first | with_reducible exact Below.refl _ _ | (with_reducible refine bel_next ?_ ?_ (by assumption)) | (with_reducible refine Below.alloc ?_ ?_ _) | (with_reducible refine Below.drew ?_) | (with_reducible refine below_drewN ?_ _) | (with_reducible refine Below.setCell ?_ ?_ _))) <;> (first | omega | (simp; done) | (simp; omega)))
  go_wp2_with fail
  obtain ⟨W, hW⟩ : ∃ W, W = w1.alloc (.cells #[.slice (some ⟨g1, 0, none⟩) gs.length d1, .slice (some ⟨g2, 0, none⟩) os.length d2] 72) := ⟨_, rfl⟩
  obtain ⟨bx, hbx⟩ : ∃ b, b = w1.heap.size := ⟨_, rfl⟩
  rw [← hW, ← hbx]
  have hWs : W.heap.size = bx + 1 := by rw [hW, hbx]; simp
  rw [← hWs]
  clear hWs
  have hbW : Below w1.heap.size w1 W := by rw [hW]; exact (Below.refl _ _).alloc (Nat.le_refl _) _
  have HWB := Lib.hid (WB.start (w0 := w) (w := W) (bx := bx) (ho1.lo (by simp)) (ho2.lo (by simp)) hne (hbw1.trans (hbW.mono (by omega))) hbW hbx (by rw [hW]; simp) (by rw [hW, hbx]; go_simp) (by rw [hW, hbx]; go_simp) (by rw [hW, hbx]; go_simp) (by rw [hW, hbx]; go_simp))
  have hbb : w.heap.size + 2 ≤ bx := by omega
  have zW := hbW.size
  (try simp at zW)
  have yWa : w.heap.size < W.heap.size := (by omega)
  have yWb : w.heap.size + 1 < W.heap.size := (by omega)
  have kW_0 := bel_keeps hbW (b := w.heap.size) (o := 0) (v := .slice a1 gs.length c1) (by first | (go_simp; done) | assumption)
  have kW_1 := bel_keeps hbW (b := w.heap.size) (o := 1) (v := .slice a2 os.length c2) (by first | (go_simp; done) | assumption)
  have kW_2 := bel_keeps hbW (b := w.heap.size + 1) (o := 0) (v := .slice none 0 0) (by first | (go_simp; done) | assumption)
  have kW_3 := bel_keeps hbW (b := w.heap.size + 1) (o := 1) (v := .slice none 0 0) (by first | (go_simp; done) | assumption)
  have fW_0 := bel_free hbW (b := w.heap.size + 1) (o := 0) (by first | omega | (simp; done) | (simp; omega)) (by first | (go_simp; done) | assumption)
  have fW_1 := bel_free hbW (b := w.heap.size + 1) (o := 1) (by first | omega | (simp; done) | (simp; omega)) (by first | (go_simp; done) | assumption)
  clear k1_0 k1_1 k1_2 k1_3 f1_0 f1_1
  clear hW hbx hbW ho1 ho2 hne hb1 hbw1
  have hlW := HWB.out.l
  refine (isWordOf2_any gs os _ _ _ _ _ hm hm2 (HR.out.below (hlW.trans (((Below.refl _ _).alloc (Nat.le_refl _) _).mono (by omega)))) (HR2.out.below (hlW.trans (((Below.refl _ _).alloc (Nat.le_refl _) _).mono (by omega)))) xs nx ax cx hlx hmx (HRx.out.below (hlW.trans (((Below.refl _ _).alloc (Nat.le_refl _) _).mono (by omega)))) ys ny ay cy hly hmy (HRy.out.below (hlW.trans (((Below.refl _ _).alloc (Nat.le_refl _) _).mono (by omega)))) W.heap.size 2 (by go_simp) (by go_simp)).mono ?_
  rintro e w9 ⟨rfl, hb0⟩
  have hb9 : Below W.heap.size W w9 := ((Below.refl _ _).alloc (Nat.le_refl _) _).trans (hb0.mono (by simp))
  clear hb0
  have HWB9 := Lib.hid (HWB.out.below hb9)
  have z9 := hb9.size
  (try simp at z9)
  have y9a : w.heap.size < w9.heap.size := (by omega)
  have y9b : w.heap.size + 1 < w9.heap.size := (by omega)
  have k9_0 := bel_keeps hb9 (b := w.heap.size) (o := 0) (v := .slice a1 gs.length c1) (by first | (go_simp; done) | assumption)
  have k9_1 := bel_keeps hb9 (b := w.heap.size) (o := 1) (v := .slice a2 os.length c2) (by first | (go_simp; done) | assumption)
  have k9_2 := bel_keeps hb9 (b := w.heap.size + 1) (o := 0) (v := .slice none 0 0) (by first | (go_simp; done) | assumption)
  have k9_3 := bel_keeps hb9 (b := w.heap.size + 1) (o := 1) (v := .slice none 0 0) (by first | (go_simp; done) | assumption)
  have f9_0 := bel_free hb9 (b := w.heap.size + 1) (o := 0) (by first | omega | (simp; done) | (simp; omega)) (by first | (go_simp; done) | assumption)
  have f9_1 := bel_free hb9 (b := w.heap.size + 1) (o := 1) (by first | omega | (simp; done) | (simp; omega)) (by first | (go_simp; done) | assumption)
  clear kW_0 kW_1 kW_2 kW_3 fW_0 fW_1
  clear hb9
  cases hq : askB gs os xs ys
  · have e1 : PG = gs := by rw [HPG.out, show (askB gs os xs ys) = false from hq]; rfl
    have e2 : PW = [] := by rw [HPW.out, show (askB gs os xs ys) = false from hq]; rfl
    have HE1 := Lib.hid e1
    have HE2 := Lib.hid e2
    clear e1 e2
    obtain ⟨adR, capR, hcR, _, _⟩ := HWB9.out.b.row
    have hc1R := HWB9.out.b.snd
    have hlR := HWB9.out.l
    go_wp2_with fail
    refine bodyPost_ret (v := .tuple #[.agg #[.slice adR gs.length capR, .slice (some ⟨g2, 0, none⟩) os.length d2], .slice none 0 0]) (by simp [results, Try.results32, go_sem, *]) rfl ?_
    rw [HE1.out, HE2.out]
    exact HWB9.out.postW hcR rfl (own_nil _ _ _ _) (fun y e => by cases e) (Nat.le_refl _) (fun b hb => (by (repeat (first | with_reducible exact Kp.refl _ _ | (with_reducible refine Kp.rng ?_ (by assumption) ?_) | (with_reducible refine Kp.below ?_ (by assumption)) | (with_reducible refine Kp.grown ?_ (by assumption) ?_) | (with_reducible refine Kp.alloc ?_ _) | (with_reducible refine Kp.drew ?_) | (with_reducible refine Kp.drewN ?_ _) | (with_reducible refine Kp.setCell ?_ _ ?_))) <;> (first | omega | (simp; done) | (simp; omega)))) (by (repeat (first | with_reducible exact Below.refl _ _ | (with_reducible refine bel_next ?_ ?_ (by assumption)) | (with_reducible refine Below.alloc ?_ ?_ _) | (with_reducible refine Below.drew ?_) | (with_reducible refine below_drewN ?_ _) | (with_reducible refine Below.setCell ?_ ?_ _))) <;> (first | omega | (simp; done) | (simp; omega) | (simp [World.setCell]; omega)))
  · have e1 : PG = (sumP xs (notsP ys gs).2 1 3 (notsP ys gs).1).1 := by rw [HPG.out, show (askB gs os xs ys) = true from hq]; rfl
    have e2 : PW = (sumP xs (notsP ys gs).2 1 3 (notsP ys gs).1).2 := by rw [HPW.out, show (askB gs os xs ys) = true from hq]; rfl
    have HE1 := Lib.hid e1
    have HE2 := Lib.hid e2
    clear e1 e2
    obtain ⟨hx4, hy4, h59⟩ := askB_len hq
    rw [hlx] at hx4
    rw [hly] at hy4
    subst hx4; subst hy4
    have frx10 := HWB9.out.fra HRx.out (by omega)
    have rdx10 := HRx.out.below HWB9.out.l
    have fry10 := HWB9.out.fra HRy.out (by omega)
    have rdy10 := HRy.out.below HWB9.out.l
    go_wp2_with fail
    refine (nots_any gs _ _ bx _ HWB9.out.b (by omega) ys ay cy hly rdy10 fry10).mono ?_
    rintro e w10 ⟨h10, c10, rfl, hs10⟩
    have HWB10 := Lib.hid (HWB9.out.on hs10.b hs10.r hs10.l)
    have k10_0 := Fr.cell hs10.r (HWB9.out.b.frn_lo (by omega)) k9_0
    have k10_1 := Fr.cell hs10.r (HWB9.out.b.frn_lo (by omega)) k9_1
    have k10_2 := Fr.cell hs10.r (HWB9.out.b.frn_lo (by omega)) k9_2
    have k10_3 := Fr.cell hs10.r (HWB9.out.b.frn_lo (by omega)) k9_3
    have f10_0 := Fr.free hs10.r (HWB9.out.b.frn_lo (by omega)) f9_0
    have f10_1 := Fr.free hs10.r (HWB9.out.b.frn_lo (by omega)) f9_1
    clear k9_0 k9_1 k9_2 k9_3 f9_0 f9_1
    have HS10 := Lib.hid hs10
    clear hs10 frx10 rdx10 fry10 rdy10
    have frx11 := HWB10.out.fra HRx.out (by omega)
    have rdx11 := HRx.out.below HWB10.out.l
    have fry11 := HWB10.out.fra HRy.out (by omega)
    have rdy11 := HRy.out.below HWB10.out.l
    go_wp2_with fail
    refine (bsumW (notsP ys gs).1 1 _ _ bx _ HWB10.out.b (by have := (notsP_len ys gs).1; omega) xs ax cx hlx rdx11 frx11 (notsP ys gs).2 (some ⟨h10, 0, none⟩) c10 (notsP_len ys gs).2 HS10.out.o.rd (fun b off e => by cases e; exact HS10.out.f) hcx).mono ?_
    rintro e w11 ⟨h11, c11, rfl, hs11⟩
    have HWB11 := Lib.hid (HWB10.out.on hs11.b hs11.r hs11.l)
    have k11_0 := Fr.cell hs11.r (HWB10.out.b.frn_lo (by omega)) k10_0
    have k11_1 := Fr.cell hs11.r (HWB10.out.b.frn_lo (by omega)) k10_1
    have k11_2 := Fr.cell hs11.r (HWB10.out.b.frn_lo (by omega)) k10_2
    have k11_3 := Fr.cell hs11.r (HWB10.out.b.frn_lo (by omega)) k10_3
    have f11_0 := Fr.free hs11.r (HWB10.out.b.frn_lo (by omega)) f10_0
    have f11_1 := Fr.free hs11.r (HWB10.out.b.frn_lo (by omega)) f10_1
    clear k10_0 k10_1 k10_2 k10_3 f10_0 f10_1
    have HS11 := Lib.hid hs11
    clear hs11 frx11 rdx11 fry11 rdy11
    obtain ⟨adR, capR, hcR, _, _⟩ := HWB11.out.b.row
    have hc1R := HWB11.out.b.snd
    have hlR := HWB11.out.l
    go_wp2_with fail
    refine bodyPost_ret (v := .tuple #[.agg #[.slice adR (sumP xs (notsP ys gs).2 1 3 (notsP ys gs).1).1.length capR, .slice (some ⟨g2, 0, none⟩) os.length d2], .slice (some ⟨h11, 0, none⟩) 4 c11]) (by simp [results, Try.results32, go_sem, *]) rfl ?_
    rw [HE1.out, HE2.out]
    exact HWB11.out.postW hcR (by have := HS11.out.o.len; simpa using this.symm) (by have h1 := HS11.out.ge; have h2 := HWB10.out.b.le; exact HS11.out.o.later (by (repeat (first | with_reducible exact Kp.refl _ _ | (with_reducible refine Kp.rng ?_ (by assumption) ?_) | (with_reducible refine Kp.below ?_ (by assumption)) | (with_reducible refine Kp.grown ?_ (by assumption) ?_) | (with_reducible refine Kp.alloc ?_ _) | (with_reducible refine Kp.drew ?_) | (with_reducible refine Kp.drewN ?_ _) | (with_reducible refine Kp.setCell ?_ _ ?_))) <;> (first | omega | (simp; done) | (simp; omega)))) (fun y e => by obtain rfl := Option.some.inj e; exact ⟨HS11.out.f.2.2, by have h1 := HS11.out.ge; have h2 := HWB10.out.f.1; show h11 ≠ g2; omega⟩) (by have := HWB10.out.b.le; omega) (fun b hb => (by (repeat (first | with_reducible exact Kp.refl _ _ | (with_reducible refine Kp.rng ?_ (by assumption) ?_) | (with_reducible refine Kp.below ?_ (by assumption)) | (with_reducible refine Kp.grown ?_ (by assumption) ?_) | (with_reducible refine Kp.alloc ?_ _) | (with_reducible refine Kp.drew ?_) | (with_reducible refine Kp.drewN ?_ _) | (with_reducible refine Kp.setCell ?_ _ ?_))) <;> (first | omega | (simp; done) | (simp; omega)))) (by (repeat (first | with_reducible exact Below.refl _ _ | (with_reducible refine bel_next ?_ ?_ (by assumption)) | (with_reducible refine Below.alloc ?_ ?_ _) | (with_reducible refine Below.drew ?_) | (with_reducible refine below_drewN ?_ _) | (with_reducible refine Below.setCell ?_ ?_ _))) <;> (first | omega | (simp; done) | (simp; omega)))
end Go.Proofs.Ytfcijloiebnloaa
