/- Draw, DrStmt, DrProg, DrRun, Outc, Eval, BitFacts, RunC, Same, SimpS, SameC, Places, Parties, ProgFacts, UnrFacts, in one text. -/
import Derived.Test.YtfcijloiebnloaaList
import Derived.Test.YtfcijloiebnloaaCmpAllA
import Derived.Test.YtfcijloiebnloaaCmpAllD
import Derived.Test.YtfcijloiebnloaaGrid
import Derived.Test.YtfcijloiebnloaaCircOk
import Derived.Test.YtfcijloiebnloaaEvP
import Derived.Test.YtfcijloiebnloaaApp
import Derived.Test.YtfcijloiebnloaaScal
import Derived.Test.YtfcijloiebnloaaShare
import Derived.Deep.RegionHeld3
import Derived.Deep.QuietTactic
import Derived.BigQuiet
import Derived.Test.YtfcijloiebnloaaPut
import Derived.Test.YtfcijloiebnloaaGts
import Derived.Test.YtfcijloiebnloaaCirc
import Derived.Test.YtfcijloiebnloaaOper
/- Draw -/
namespace Go.Proofs.Ytfcijloiebnloaa
open Go.RowKit

/-- A cursor. -/
def Cur (w : World) (g : Nat) (sl : Value) (i h : Int) : Prop := w.heap[g]? = some (.cells #[sl, .int .i64 i, .int .i64 h] 123 (0, 0))

theorem Cur.get {w : World} {g : Nat} {sl : Value} {i h : Int} (hc : Cur w g sl i h) :
    w.cell? ⟨g, 0, none⟩ = some sl ∧ w.cell? ⟨g, 1, none⟩ = some (.int .i64 i) ∧ w.cell? ⟨g, 2, none⟩ = some (.int .i64 h) ∧ w.frozen? ⟨g, 1, none⟩ = false ∧ w.frozen? ⟨g, 2, none⟩ = false := by
  unfold Cur at hc
  simp [World.cell?, World.frozen?, hc]
theorem Cur.lt {w : World} {g : Nat} {sl : Value} {i h : Int} (hc : Cur w g sl i h) : g < w.heap.size := (Array.getElem?_eq_some_iff.1 hc).1
theorem Cur.setH {w : World} {g : Nat} {sl : Value} {i h : Int} (hc : Cur w g sl i h) (h' : Int) : Cur (w.setCell ⟨g, 2, none⟩ (.int .i64 h')) g sl i h' := by
  unfold Cur at *
  simp [World.setCell, Array.getElem?_modify, hc]
theorem Cur.setI {w : World} {g : Nat} {sl : Value} {i h : Int} (hc : Cur w g sl i h) (i' : Int) : Cur (w.setCell ⟨g, 1, none⟩ (.int .i64 i')) g sl i' h := by
  unfold Cur at *
  simp [World.setCell, Array.getElem?_modify, hc]
theorem Cur.kp {w w' : World} {g : Nat} {sl : Value} {i h : Int} (hc : Cur w g sl i h) (hk : Kp g w w') : Cur w' g sl i h := (hk hc.lt).1.trans hc

/-- Only block g may have turned; blocks may have come. -/
def Only (g : Nat) (w w' : World) : Prop := Below g w w' ∧ Rng g (g + 1) w w'

theorem Only.setCell {g : Nat} {w : World} (o : Nat) (v : Value) : Only g w (w.setCell ⟨g, o, none⟩ v) :=
  ⟨(Below.refl _ _).setCell (p := ⟨g, o, none⟩) (Nat.le_refl _) _, fun b hb => (Kp.refl b w).setCell _ (by show b ≠ g; omega)⟩
theorem Only.trans {g : Nat} {w w1 w2 : World} (h : Only g w w1) (k : Only g w1 w2) : Only g w w2 :=
  ⟨h.1.trans k.1, fun b hb => (h.2 b hb).trans (k.2 b hb)⟩
theorem Only.drewN {g : Nat} {w w1 : World} (h : Only g w w1) (n : Nat) : Only g w (w1.drewN n) := ⟨below_drewN h.1 n, fun b hb => (h.2 b hb).drewN n⟩
theorem Only.refl (g : Nat) (w : World) : Only g w w := ⟨Below.refl _ _, fun b _ => Kp.refl b w⟩
theorem RdC.keepIf {w w' : World} {ad : Option Addr} {cs : List Value} (h : RdC w ad cs) (hk : cs ≠ [] → ∀ b off, ad = some ⟨b, off, none⟩ → Kp b w w') : RdC w' ad cs := by
  by_cases h0 : cs = []
  · exact .inl h0
  · exact h.keep (hk h0)
theorem RdC.lt {w : World} {ad : Option Addr} {cs : List Value} (h : RdC w ad cs) (h0 : cs ≠ []) : ∀ a, ad = some a → a.block < w.heap.size := by
  intro a ha
  rcases h with h | ⟨b, off, h1, h2⟩
  · exact absurd h h0
  · rw [ha] at h1
    obtain rfl : a = ⟨b, off, none⟩ := Option.some.inj h1
    have := h2 0 (List.length_pos_iff.2 h0)
    exact lt_of_cell this
theorem map_ne {xs : List Int} {f : Int → Value} (h : xs.map f ≠ []) : xs ≠ [] := fun e => h (by rw [e]; rfl)
theorem RdC.only {g : Nat} {w w1 : World} {ad : Option Addr} {xs : List Int} (h : RdC w ad (xs.map (Value.int .u8))) (hg : xs ≠ [] → ∀ a, ad = some a → a.block < g) (k : Only g w w1) : RdC w1 ad (xs.map (Value.int .u8)) :=
  h.keepIf fun h0 b _ hb => k.2 b (.inl (hg (map_ne h0) _ hb))
theorem RdC.byte {w : World} {ad : Option Addr} {xs : List Int} (h : RdC w ad (xs.map (Value.int .u8))) (k : Nat) (hk : k < xs.length) :
    ∃ b off, ad = some ⟨b, off, none⟩ ∧ w.cell? ⟨b, off + k, none⟩ = some (.int .u8 xs[k]) := by
  rcases h with h | ⟨b, off, h1, h2⟩
  · have := congrArg List.length h; simp only [List.length_map, List.length_nil] at this; omega
  · exact ⟨b, off, h1, by rw [h2 k (by simpa using hk)]; simp⟩

set_option maxHeartbeats 1000000 in
theorem l01Byte_any (g : Nat) (xs : List Int) (ad : Option Addr) (c : Nat) (i h : Int) (w : World) (hm : xs.length ≤ 1048576) (hc : Cur w g (.slice ad xs.length c) i h) (hr : RdC w ad (xs.map (Value.int .u8))) (hb : ∀ x ∈ xs, 0 ≤ x ∧ x ≤ 255)
    (hg : xs ≠ [] → ∀ a, ad = some a → a.block < g) (h0 : 0 ≤ i) (h1 : i ≤ xs.length) :
    Calls Try.prog 121 #[.pointer (some ⟨g, 0, none⟩)] w fun e w' => ∃ v i' h' : Int, e = .returned (.int .i64 v) ∧ 0 ≤ v ∧ v ≤ 255 ∧ 0 ≤ i' ∧ i' ≤ xs.length ∧ Cur w' g (.slice ad xs.length c) i' h' ∧ Only g w w' := by
  obtain ⟨c0, c1, c2, f1, f2⟩ := hc.get
  go_enter Try.func121, Try.ntmps121
  go_wp2_with fail
  generalize wrap64 (wrap64 (h * 6364136223846793005) + 1442695040888963407) = hh
  generalize wrap64 (h * 6364136223846793005) = hx
  have hc' := hc.setH hh
  have ho := Only.setCell (g := g) (w := w) 2 (.int .i64 hh)
  have hr' := hr.only hg ho
  clear c0 c1 c2 f1 f2 hc hr
  generalize w.setCell ⟨g, 2, none⟩ (.int .i64 hh) = W1 at *
  obtain ⟨c0, c1, c2, f1, _⟩ := hc'.get
  go_quiet (fail)
  go_wp2_with fail
  generalize hv : bits BinOp.and IntKind.i64 (bits BinOp.xor IntKind.i64 (hh / 8589934592) (hh / 35184372088832)) 255 = x
  have hx0 : 0 ≤ x ∧ x ≤ 255 := by rw [← hv, i64_and_mask8]; omega
  clear hv
  obtain ⟨x0, x1⟩ := hx0
  obtain ⟨k, rfl⟩ := Int.eq_ofNat_of_zero_le h0
  by_cases hlt : k < xs.length
  · obtain ⟨b, off, rfl, hcell⟩ := hr'.byte k hlt
    obtain ⟨b0, b1⟩ := hb xs[k] (List.getElem_mem _)
    generalize xs[k] = y at *
    have hlt' : (k : Int) < (xs.length : Int) := by omega
    have hw : IntKind.i64.wrap (x + y) = x + y := wrap_i64_id (by omega) (by omega)
    clear hr' hb
    go_quiet (fail)
    go_wp2_with fail
    go_quiet (fail)
    clear hw
    go_wp2_with fail
    generalize hv : bits BinOp.and IntKind.i64 (x + y) 255 = z
    have hz0 : 0 ≤ z ∧ z ≤ 255 := by rw [← hv, i64_and_mask8]; omega
    clear hv
    obtain ⟨z0, z1⟩ := hz0
    try go_wp2_with fail
    go_ret
    refine ⟨z, k + 1, hh, rfl, z0, z1, by omega, by omega, ?_, ?_⟩
    · exact hc'.setI _
    · exact (ho.trans (Only.setCell 1 _)).drewN _
  · have hlt' : (xs.length : Int) ≤ (k : Int) := by omega
    go_quiet (fail)
    go_wp2_with fail
    go_ret
    exact ⟨x, k, hh, rfl, x0, x1, by omega, by omega, hc', (ho.drewN _).drewN _⟩

/-- A cursor over these bytes, ready to be read. -/
structure Dr (w : World) (g : Nat) (xs : List Int) (ad : Option Addr) (c : Nat) : Prop where
  cur : ∃ i h : Int, 0 ≤ i ∧ i ≤ xs.length ∧ Cur w g (.slice ad xs.length c) i h
  rd : RdC w ad (xs.map (Value.int .u8))
  bytes : ∀ x ∈ xs, 0 ≤ x ∧ x ≤ 255
  lt : xs ≠ [] → ∀ a, ad = some a → a.block < g
  len : xs.length ≤ 1048576

theorem Dr.only {w w' : World} {g : Nat} {xs : List Int} {ad : Option Addr} {c : Nat} (h : Dr w g xs ad c) (ho : Only g w w') (hc : ∃ i h : Int, 0 ≤ i ∧ i ≤ xs.length ∧ Cur w' g (.slice ad xs.length c) i h) : Dr w' g xs ad c :=
  ⟨hc, h.rd.only h.lt ho, h.bytes, h.lt, h.len⟩
theorem Dr.gt {w : World} {g : Nat} {xs : List Int} {ad : Option Addr} {c : Nat} (h : Dr w g xs ad c) : g < w.heap.size := by
  obtain ⟨i, k, _, _, hc⟩ := h.cur; exact hc.lt
/-- A cursor lasts where its block and what lies below it last. -/
theorem Dr.keep {w w' : World} {g : Nat} {xs : List Int} {ad : Option Addr} {c : Nat} (h : Dr w g xs ad c) (hk : ∀ b, b ≤ g → Kp b w w') : Dr w' g xs ad c := by
  obtain ⟨i, k, h0, h1, hc⟩ := h.cur
  exact ⟨⟨i, k, h0, h1, hc.kp (hk g (Nat.le_refl _))⟩, h.rd.keepIf fun h0 b _ hb => hk b (by have := h.lt (map_ne h0) _ hb; simp at this; omega), h.bytes, h.lt, h.len⟩

theorem byte_dr (g : Nat) (xs : List Int) (ad : Option Addr) (c : Nat) (w : World) (hd : Dr w g xs ad c) :
    Calls Try.prog 121 #[.pointer (some ⟨g, 0, none⟩)] w fun e w' => ∃ v : Int, e = .returned (.int .i64 v) ∧ 0 ≤ v ∧ v ≤ 255 ∧ Dr w' g xs ad c ∧ Only g w w' := by
  obtain ⟨i, h, h0, h1, hc⟩ := hd.cur
  exact (l01Byte_any g xs ad c i h w hd.len hc hd.rd hd.bytes hd.lt h0 h1).mono fun _ _ ⟨v, i', h', e1, e2, e3, e4, e5, e6, e7⟩ => ⟨v, e1, e2, e3, hd.only e7 ⟨i', h', e4, e5, e6⟩, e7⟩

set_option maxHeartbeats 1000000 in
theorem below_dr (g : Nat) (xs : List Int) (ad : Option Addr) (c : Nat) (n : Int) (w : World) (hd : Dr w g xs ad c) :
    Calls Try.prog 107 #[.pointer (some ⟨g, 0, none⟩), .int .i64 n] w fun e w' => ∃ v : Int, e = .returned (.int .i64 v) ∧ 0 ≤ v ∧ (0 < n → v < n) ∧ (n ≤ 0 → v = 0) ∧ Dr w' g xs ad c ∧ Only g w w' := by
  by_cases hn : n ≤ 0
  · go_enter Try.func107, Try.ntmps107
    go_wp2_with fail
    go_ret
    exact ⟨0, rfl, by omega, by omega, fun _ => rfl, hd, Only.refl _ _⟩
  · have hn' : 0 < n := by omega
    by_cases h256 : n ≤ 256
    · go_enter Try.func107, Try.ntmps107
      go_wp2_with fail
      refine (byte_dr g xs ad c _ hd).mono ?_
      rintro e w1 ⟨v, rfl, v0, v1, hd1, ho1⟩
      go_wp2_with fail
      go_ret
      exact ⟨v % n, rfl, Int.emod_nonneg _ (by omega), fun _ => Int.emod_lt_of_pos _ hn', fun h => absurd h (by omega), hd1, ho1⟩
    · have h256' : 256 < n := by omega
      go_enter Try.func107, Try.ntmps107
      go_wp2_with fail
      refine (byte_dr g xs ad c _ hd).mono ?_
      rintro e w1 ⟨v1, rfl, a1, b1, hd1, ho1⟩
      go_wp2_with fail
      refine (byte_dr g xs ad c _ hd1).mono ?_
      rintro e w2 ⟨v2, rfl, a2, b2, hd2, ho2⟩
      go_wp2_with fail
      refine (byte_dr g xs ad c _ hd2).mono ?_
      rintro e w3 ⟨v3, rfl, a3, b3, hd3, ho3⟩
      go_wp2_with fail
      refine (byte_dr g xs ad c _ hd3).mono ?_
      rintro e w4 ⟨v4, rfl, a4, b4, hd4, ho4⟩
      go_wp2_with fail
      go_ret
      exact ⟨(v1 * 16777216 + v2 * 65536 + v3 * 256 + v4) % n, rfl, Int.emod_nonneg _ (by omega), fun _ => Int.emod_lt_of_pos _ hn', fun h => absurd h (by omega), hd4, ((ho1.trans ho2).trans ho3).trans ho4⟩

set_option maxHeartbeats 1000000 in
theorem l01New_any (xs : List Int) (ad : Option Addr) (c : Nat) (w : World) (hm : xs.length ≤ 1048576) (hr : RdC w ad (xs.map (Value.int .u8))) (hb : ∀ x ∈ xs, 0 ≤ x ∧ x ≤ 255) :
    Calls Try.prog 80 #[.slice ad xs.length c] w fun e w' => ∃ g, e = .returned (.pointer (some ⟨g, 0, none⟩)) ∧ w.heap.size ≤ g ∧ Dr w' g xs ad c ∧ Below w.heap.size w w' := by
  have fin : ∀ h : Int, Dr (w.alloc (.cells #[.slice ad xs.length c, .int .i64 0, .int .i64 h] 123)) w.heap.size xs ad c := fun h =>
    ⟨⟨0, h, by omega, by omega, heap_alloc_new w _⟩, hr.keep fun b _ _ => (Kp.refl b w).alloc _, hb, fun h0 => hr.lt (by simpa using h0), hm⟩
  go_enter Try.func80, Try.ntmps80
  go_wp2_with fail
  go_loop [3, 4] (fun hv i => ∃ (k : Nat) (h : Int), k ≤ xs.length ∧ i = .int .i64 k ∧ hv = .int .i64 h) (fun _ i => xs.length - (intOf i).toNat)
  case atStart => exact ⟨0, _, Nat.zero_le _, rfl, rfl⟩
  case round =>
    obtain ⟨k, h, hk, rfl, rfl⟩ := hrel
    by_cases hlt : k < xs.length
    · by_cases h4 : (k : Int) < 4000
      · obtain ⟨b, off, rfl, hcell⟩ := hr.byte k hlt
        obtain ⟨b0, b1⟩ := hb xs[k] (List.getElem_mem _)
        generalize xs[k] = y at *
        clear hr hb
        go_wp2_with fail
        go_round
        case rel => exact ⟨k + 1, _, by omega, by go_num, rfl⟩
        case measure => simp [intOf]; omega
      · go_wp2_with fail
        go_ret
        exact ⟨_, rfl, Nat.le_refl _, fin h, (Below.refl _ _).alloc (Nat.le_refl _) _⟩
    · go_wp2_with fail
      go_ret
      exact ⟨_, rfl, Nat.le_refl _, fin h, (Below.refl _ _).alloc (Nat.le_refl _) _⟩
end Go.Proofs.Ytfcijloiebnloaa

/- DrStmt -/
namespace Go.Proofs.Ytfcijloiebnloaa
open Go.RowKit
set_option linter.unusedVariables false
set_option linter.unusedSimpArgs false

theorem Kp.of_lt {b : Nat} {w w' : World} (h : b < w.heap.size → Kp b w w') : Kp b w w' := fun hb => h hb hb
set_option maxHeartbeats 1000000 in
theorem once_dr (g : Nat) (xs : List Int) (ad : Option Addr) (c : Nat) (n : Int) (w : World) (hd : Dr w g xs ad c) :
    Calls Try.prog 119 #[.pointer (some ⟨g, 0, none⟩), .int .i64 n] w fun e w' => ∃ b : Bool, e = .returned (.bool b) ∧ Dr w' g xs ad c ∧ Only g w w' := by
  go_enter Try.func119, Try.ntmps119
  go_wp2_with fail
  refine (below_dr g xs ad c n _ hd).mono ?_
  rintro e w1 ⟨v, rfl, _, _, _, hd1, ho1⟩
  go_wp2_with fail
  go_ret
  exact ⟨_, rfl, hd1, ho1⟩
def plain1 (s : St) : Prop := stOk s = true ∧ s.op ≠ 12 ∧ s.op ≠ 13

set_option maxRecDepth 20000 in
set_option maxHeartbeats 8000000 in
theorem l08Stmt_dr (g : Nat) (xs : List Int) (ad : Option Addr) (c : Nat) (w : World) (hd : Dr w g xs ad c) :
    Calls Try.prog 120 #[.pointer (some ⟨g, 0, none⟩)] w fun e w' => ∃ s, e = .returned (stV s) ∧ plain1 s ∧ Dr w' g xs ad c ∧ Only g w w' := by
  have hgt := hd.gt
  go_enter Try.func120, Try.ntmps120
  go_wp2_with fail
  refine (below_dr g xs ad c 4 _ (hd.keep fun q hq => (by (repeat (first | with_reducible exact Kp.refl _ _ | (with_reducible refine Kp.rng ?_ (by assumption) ?_) | (with_reducible refine Kp.below ?_ (by assumption)) | (with_reducible refine Kp.grown ?_ (by assumption) ?_) | (with_reducible refine Kp.alloc ?_ _) | (with_reducible refine Kp.drew ?_) | (with_reducible refine Kp.drewN ?_ _) | (with_reducible refine Kp.setCell ?_ _ ?_))) <;> (first | omega | (simp; done) | (simp; omega))))).mono ?_
  rintro e w1 ⟨vd, rfl, vd0, vd1, _, hd1, ob1, or1⟩
  have vd1 := vd1 (by omega)
  have z1 := ob1.size
  (try simp at z1)
  have y1_0 : w.heap.size < w1.heap.size := (by omega)
  have k1_0 : w1.cell? ⟨w.heap.size, 0, none⟩ = some (.int .i64 0) := or1.keeps (by omega) (by first | (go_simp; done) | assumption)
  have k1_1 : w1.cell? ⟨w.heap.size, 1, none⟩ = some (.int .i64 0) := or1.keeps (by omega) (by first | (go_simp; done) | assumption)
  have k1_2 : w1.cell? ⟨w.heap.size, 2, none⟩ = some (.int .i64 0) := or1.keeps (by omega) (by first | (go_simp; done) | assumption)
  have k1_3 : w1.cell? ⟨w.heap.size, 3, none⟩ = some (.int .i64 0) := or1.keeps (by omega) (by first | (go_simp; done) | assumption)
  have k1_4 : w1.cell? ⟨w.heap.size, 4, none⟩ = some (.int .i64 0) := or1.keeps (by omega) (by first | (go_simp; done) | assumption)
  have k1_5 : w1.cell? ⟨w.heap.size, 5, none⟩ = some (.int .i64 0) := or1.keeps (by omega) (by first | (go_simp; done) | assumption)
  have f1_0 : w1.frozen? ⟨w.heap.size, 0, none⟩ = false := or1.free (by omega) (by first | omega | (simp; done) | (simp; omega)) (by first | (go_simp; done) | assumption)
  have f1_1 : w1.frozen? ⟨w.heap.size, 1, none⟩ = false := or1.free (by omega) (by first | omega | (simp; done) | (simp; omega)) (by first | (go_simp; done) | assumption)
  have f1_2 : w1.frozen? ⟨w.heap.size, 2, none⟩ = false := or1.free (by omega) (by first | omega | (simp; done) | (simp; omega)) (by first | (go_simp; done) | assumption)
  have f1_3 : w1.frozen? ⟨w.heap.size, 3, none⟩ = false := or1.free (by omega) (by first | omega | (simp; done) | (simp; omega)) (by first | (go_simp; done) | assumption)
  have f1_4 : w1.frozen? ⟨w.heap.size, 4, none⟩ = false := or1.free (by omega) (by first | omega | (simp; done) | (simp; omega)) (by first | (go_simp; done) | assumption)
  have f1_5 : w1.frozen? ⟨w.heap.size, 5, none⟩ = false := or1.free (by omega) (by first | omega | (simp; done) | (simp; omega)) (by first | (go_simp; done) | assumption)
  go_wp2_with fail
  refine (below_dr g xs ad c 4 _ (hd1.keep fun q hq => (by (repeat (first | with_reducible exact Kp.refl _ _ | (with_reducible refine Kp.rng ?_ (by assumption) ?_) | (with_reducible refine Kp.below ?_ (by assumption)) | (with_reducible refine Kp.grown ?_ (by assumption) ?_) | (with_reducible refine Kp.alloc ?_ _) | (with_reducible refine Kp.drew ?_) | (with_reducible refine Kp.drewN ?_ _) | (with_reducible refine Kp.setCell ?_ _ ?_))) <;> (first | omega | (simp; done) | (simp; omega))))).mono ?_
  rintro e w2 ⟨va, rfl, va0, va1, _, hd2, ob2, or2⟩
  have va1 := va1 (by omega)
  have z2 := ob2.size
  (try simp at z2)
  have y2_0 : w.heap.size < w2.heap.size := (by omega)
  have k2_0 : w2.cell? ⟨w.heap.size, 0, none⟩ = some (.int .i64 0) := or2.keeps (by omega) (by first | (go_simp; done) | assumption)
  have k2_1 : w2.cell? ⟨w.heap.size, 1, none⟩ = some (.int .i64 0) := or2.keeps (by omega) (by first | (go_simp; done) | assumption)
  have k2_2 : w2.cell? ⟨w.heap.size, 2, none⟩ = some (.int .i64 0) := or2.keeps (by omega) (by first | (go_simp; done) | assumption)
  have k2_3 : w2.cell? ⟨w.heap.size, 3, none⟩ = some (.int .i64 0) := or2.keeps (by omega) (by first | (go_simp; done) | assumption)
  have k2_4 : w2.cell? ⟨w.heap.size, 4, none⟩ = some (.int .i64 0) := or2.keeps (by omega) (by first | (go_simp; done) | assumption)
  have k2_5 : w2.cell? ⟨w.heap.size, 5, none⟩ = some (.int .i64 0) := or2.keeps (by omega) (by first | (go_simp; done) | assumption)
  have f2_0 : w2.frozen? ⟨w.heap.size, 0, none⟩ = false := or2.free (by omega) (by first | omega | (simp; done) | (simp; omega)) (by first | (go_simp; done) | assumption)
  have f2_1 : w2.frozen? ⟨w.heap.size, 1, none⟩ = false := or2.free (by omega) (by first | omega | (simp; done) | (simp; omega)) (by first | (go_simp; done) | assumption)
  have f2_2 : w2.frozen? ⟨w.heap.size, 2, none⟩ = false := or2.free (by omega) (by first | omega | (simp; done) | (simp; omega)) (by first | (go_simp; done) | assumption)
  have f2_3 : w2.frozen? ⟨w.heap.size, 3, none⟩ = false := or2.free (by omega) (by first | omega | (simp; done) | (simp; omega)) (by first | (go_simp; done) | assumption)
  have f2_4 : w2.frozen? ⟨w.heap.size, 4, none⟩ = false := or2.free (by omega) (by first | omega | (simp; done) | (simp; omega)) (by first | (go_simp; done) | assumption)
  have f2_5 : w2.frozen? ⟨w.heap.size, 5, none⟩ = false := or2.free (by omega) (by first | omega | (simp; done) | (simp; omega)) (by first | (go_simp; done) | assumption)
  clear k1_0 k1_1 k1_2 k1_3 k1_4 k1_5 f1_0 f1_1 f1_2 f1_3 f1_4 f1_5
  go_wp2_with fail
  refine (below_dr g xs ad c 4 _ (hd2.keep fun q hq => (by (repeat (first | with_reducible exact Kp.refl _ _ | (with_reducible refine Kp.rng ?_ (by assumption) ?_) | (with_reducible refine Kp.below ?_ (by assumption)) | (with_reducible refine Kp.grown ?_ (by assumption) ?_) | (with_reducible refine Kp.alloc ?_ _) | (with_reducible refine Kp.drew ?_) | (with_reducible refine Kp.drewN ?_ _) | (with_reducible refine Kp.setCell ?_ _ ?_))) <;> (first | omega | (simp; done) | (simp; omega))))).mono ?_
  rintro e w3 ⟨vb, rfl, vb0, vb1, _, hd3, ob3, or3⟩
  have vb1 := vb1 (by omega)
  have z3 := ob3.size
  (try simp at z3)
  have y3_0 : w.heap.size < w3.heap.size := (by omega)
  have k3_0 : w3.cell? ⟨w.heap.size, 0, none⟩ = some (.int .i64 0) := or3.keeps (by omega) (by first | (go_simp; done) | assumption)
  have k3_1 : w3.cell? ⟨w.heap.size, 1, none⟩ = some (.int .i64 0) := or3.keeps (by omega) (by first | (go_simp; done) | assumption)
  have k3_2 : w3.cell? ⟨w.heap.size, 2, none⟩ = some (.int .i64 0) := or3.keeps (by omega) (by first | (go_simp; done) | assumption)
  have k3_3 : w3.cell? ⟨w.heap.size, 3, none⟩ = some (.int .i64 0) := or3.keeps (by omega) (by first | (go_simp; done) | assumption)
  have k3_4 : w3.cell? ⟨w.heap.size, 4, none⟩ = some (.int .i64 0) := or3.keeps (by omega) (by first | (go_simp; done) | assumption)
  have k3_5 : w3.cell? ⟨w.heap.size, 5, none⟩ = some (.int .i64 0) := or3.keeps (by omega) (by first | (go_simp; done) | assumption)
  have f3_0 : w3.frozen? ⟨w.heap.size, 0, none⟩ = false := or3.free (by omega) (by first | omega | (simp; done) | (simp; omega)) (by first | (go_simp; done) | assumption)
  have f3_1 : w3.frozen? ⟨w.heap.size, 1, none⟩ = false := or3.free (by omega) (by first | omega | (simp; done) | (simp; omega)) (by first | (go_simp; done) | assumption)
  have f3_2 : w3.frozen? ⟨w.heap.size, 2, none⟩ = false := or3.free (by omega) (by first | omega | (simp; done) | (simp; omega)) (by first | (go_simp; done) | assumption)
  have f3_3 : w3.frozen? ⟨w.heap.size, 3, none⟩ = false := or3.free (by omega) (by first | omega | (simp; done) | (simp; omega)) (by first | (go_simp; done) | assumption)
  have f3_4 : w3.frozen? ⟨w.heap.size, 4, none⟩ = false := or3.free (by omega) (by first | omega | (simp; done) | (simp; omega)) (by first | (go_simp; done) | assumption)
  have f3_5 : w3.frozen? ⟨w.heap.size, 5, none⟩ = false := or3.free (by omega) (by first | omega | (simp; done) | (simp; omega)) (by first | (go_simp; done) | assumption)
  clear k2_0 k2_1 k2_2 k2_3 k2_4 k2_5 f2_0 f2_1 f2_2 f2_3 f2_4 f2_5
  go_wp2_with fail
  refine (below_dr g xs ad c 4 _ (hd3.keep fun q hq => (by (repeat (first | with_reducible exact Kp.refl _ _ | (with_reducible refine Kp.rng ?_ (by assumption) ?_) | (with_reducible refine Kp.below ?_ (by assumption)) | (with_reducible refine Kp.grown ?_ (by assumption) ?_) | (with_reducible refine Kp.alloc ?_ _) | (with_reducible refine Kp.drew ?_) | (with_reducible refine Kp.drewN ?_ _) | (with_reducible refine Kp.setCell ?_ _ ?_))) <;> (first | omega | (simp; done) | (simp; omega))))).mono ?_
  rintro e w4 ⟨vc, rfl, vc0, vc1, _, hd4, ob4, or4⟩
  have vc1 := vc1 (by omega)
  have z4 := ob4.size
  (try simp at z4)
  have y4_0 : w.heap.size < w4.heap.size := (by omega)
  have k4_0 : w4.cell? ⟨w.heap.size, 0, none⟩ = some (.int .i64 0) := or4.keeps (by omega) (by first | (go_simp; done) | assumption)
  have k4_1 : w4.cell? ⟨w.heap.size, 1, none⟩ = some (.int .i64 0) := or4.keeps (by omega) (by first | (go_simp; done) | assumption)
  have k4_2 : w4.cell? ⟨w.heap.size, 2, none⟩ = some (.int .i64 0) := or4.keeps (by omega) (by first | (go_simp; done) | assumption)
  have k4_3 : w4.cell? ⟨w.heap.size, 3, none⟩ = some (.int .i64 0) := or4.keeps (by omega) (by first | (go_simp; done) | assumption)
  have k4_4 : w4.cell? ⟨w.heap.size, 4, none⟩ = some (.int .i64 0) := or4.keeps (by omega) (by first | (go_simp; done) | assumption)
  have k4_5 : w4.cell? ⟨w.heap.size, 5, none⟩ = some (.int .i64 0) := or4.keeps (by omega) (by first | (go_simp; done) | assumption)
  have f4_0 : w4.frozen? ⟨w.heap.size, 0, none⟩ = false := or4.free (by omega) (by first | omega | (simp; done) | (simp; omega)) (by first | (go_simp; done) | assumption)
  have f4_1 : w4.frozen? ⟨w.heap.size, 1, none⟩ = false := or4.free (by omega) (by first | omega | (simp; done) | (simp; omega)) (by first | (go_simp; done) | assumption)
  have f4_2 : w4.frozen? ⟨w.heap.size, 2, none⟩ = false := or4.free (by omega) (by first | omega | (simp; done) | (simp; omega)) (by first | (go_simp; done) | assumption)
  have f4_3 : w4.frozen? ⟨w.heap.size, 3, none⟩ = false := or4.free (by omega) (by first | omega | (simp; done) | (simp; omega)) (by first | (go_simp; done) | assumption)
  have f4_4 : w4.frozen? ⟨w.heap.size, 4, none⟩ = false := or4.free (by omega) (by first | omega | (simp; done) | (simp; omega)) (by first | (go_simp; done) | assumption)
  have f4_5 : w4.frozen? ⟨w.heap.size, 5, none⟩ = false := or4.free (by omega) (by first | omega | (simp; done) | (simp; omega)) (by first | (go_simp; done) | assumption)
  clear k3_0 k3_1 k3_2 k3_3 k3_4 k3_5 f3_0 f3_1 f3_2 f3_3 f3_4 f3_5
  go_wp2_with fail
  obtain ⟨w5, hw5⟩ : ∃ W, W = w4.alloc (.cells #[.int .i64 0, .int .i64 vd, .int .i64 va, .int .i64 vb, .int .i64 vc, .int .i64 0] 90) := ⟨_, rfl⟩
  rw [← hw5]
  have hb5 : Below w4.heap.size w4 w5 := by rw [hw5]; exact (Below.refl _ _).alloc (Nat.le_refl _) _
  have x5 : w4.heap.size < w5.heap.size := by rw [hw5]; simp
  have z5 := hb5.size
  (try simp at z5)
  have y5_0 : w.heap.size < w5.heap.size := (by omega)
  have k5_0 := bel_keeps hb5 (b := w.heap.size) (o := 0) (v := .int .i64 0) (by first | (go_simp; done) | assumption)
  have k5_1 := bel_keeps hb5 (b := w.heap.size) (o := 1) (v := .int .i64 0) (by first | (go_simp; done) | assumption)
  have k5_2 := bel_keeps hb5 (b := w.heap.size) (o := 2) (v := .int .i64 0) (by first | (go_simp; done) | assumption)
  have k5_3 := bel_keeps hb5 (b := w.heap.size) (o := 3) (v := .int .i64 0) (by first | (go_simp; done) | assumption)
  have k5_4 := bel_keeps hb5 (b := w.heap.size) (o := 4) (v := .int .i64 0) (by first | (go_simp; done) | assumption)
  have k5_5 := bel_keeps hb5 (b := w.heap.size) (o := 5) (v := .int .i64 0) (by first | (go_simp; done) | assumption)
  have f5_0 := bel_free hb5 (b := w.heap.size) (o := 0) (by first | omega | (simp; done) | (simp; omega)) (by first | (go_simp; done) | assumption)
  have f5_1 := bel_free hb5 (b := w.heap.size) (o := 1) (by first | omega | (simp; done) | (simp; omega)) (by first | (go_simp; done) | assumption)
  have f5_2 := bel_free hb5 (b := w.heap.size) (o := 2) (by first | omega | (simp; done) | (simp; omega)) (by first | (go_simp; done) | assumption)
  have f5_3 := bel_free hb5 (b := w.heap.size) (o := 3) (by first | omega | (simp; done) | (simp; omega)) (by first | (go_simp; done) | assumption)
  have f5_4 := bel_free hb5 (b := w.heap.size) (o := 4) (by first | omega | (simp; done) | (simp; omega)) (by first | (go_simp; done) | assumption)
  have f5_5 := bel_free hb5 (b := w.heap.size) (o := 5) (by first | omega | (simp; done) | (simp; omega)) (by first | (go_simp; done) | assumption)
  clear k4_0 k4_1 k4_2 k4_3 k4_4 k4_5 f4_0 f4_1 f4_2 f4_3 f4_4 f4_5
  have kb5_0 : w5.cell? ⟨w4.heap.size, 0, none⟩ = some (.int .i64 0) := by rw [hw5]; go_simp
  have kf5_0 : w5.frozen? ⟨w4.heap.size, 0, none⟩ = false := by rw [hw5]; go_simp
  have kb5_1 : w5.cell? ⟨w4.heap.size, 1, none⟩ = some (.int .i64 vd) := by rw [hw5]; go_simp
  have kf5_1 : w5.frozen? ⟨w4.heap.size, 1, none⟩ = false := by rw [hw5]; go_simp
  have kb5_2 : w5.cell? ⟨w4.heap.size, 2, none⟩ = some (.int .i64 va) := by rw [hw5]; go_simp
  have kf5_2 : w5.frozen? ⟨w4.heap.size, 2, none⟩ = false := by rw [hw5]; go_simp
  have kb5_3 : w5.cell? ⟨w4.heap.size, 3, none⟩ = some (.int .i64 vb) := by rw [hw5]; go_simp
  have kf5_3 : w5.frozen? ⟨w4.heap.size, 3, none⟩ = false := by rw [hw5]; go_simp
  have kb5_4 : w5.cell? ⟨w4.heap.size, 4, none⟩ = some (.int .i64 vc) := by rw [hw5]; go_simp
  have kf5_4 : w5.frozen? ⟨w4.heap.size, 4, none⟩ = false := by rw [hw5]; go_simp
  have kb5_5 : w5.cell? ⟨w4.heap.size, 5, none⟩ = some (.int .i64 0) := by rw [hw5]; go_simp
  have kf5_5 : w5.frozen? ⟨w4.heap.size, 5, none⟩ = false := by rw [hw5]; go_simp
  clear hw5
  go_wp2_with fail
  refine (below_dr g xs ad c 12 _ (hd4.keep fun q hq => (by (repeat (first | with_reducible exact Kp.refl _ _ | (with_reducible refine Kp.rng ?_ (by assumption) ?_) | (with_reducible refine Kp.below ?_ (by assumption)) | (with_reducible refine Kp.grown ?_ (by assumption) ?_) | (with_reducible refine Kp.alloc ?_ _) | (with_reducible refine Kp.drew ?_) | (with_reducible refine Kp.drewN ?_ _) | (with_reducible refine Kp.setCell ?_ _ ?_))) <;> (first | omega | (simp; done) | (simp; omega))))).mono ?_
  rintro e w6 ⟨x, rfl, x0, x1, _, hd6, ob6, or6⟩
  have x1 := x1 (by omega)
  have z6 := ob6.size
  (try simp at z6)
  have y6_0 : w.heap.size < w6.heap.size := (by omega)
  have y6_1 : w4.heap.size < w6.heap.size := (by omega)
  have k6_0 : w6.cell? ⟨w.heap.size, 0, none⟩ = some (.int .i64 0) := or6.keeps (by omega) (by first | (go_simp; done) | assumption)
  have k6_1 : w6.cell? ⟨w.heap.size, 1, none⟩ = some (.int .i64 0) := or6.keeps (by omega) (by first | (go_simp; done) | assumption)
  have k6_2 : w6.cell? ⟨w.heap.size, 2, none⟩ = some (.int .i64 0) := or6.keeps (by omega) (by first | (go_simp; done) | assumption)
  have k6_3 : w6.cell? ⟨w.heap.size, 3, none⟩ = some (.int .i64 0) := or6.keeps (by omega) (by first | (go_simp; done) | assumption)
  have k6_4 : w6.cell? ⟨w.heap.size, 4, none⟩ = some (.int .i64 0) := or6.keeps (by omega) (by first | (go_simp; done) | assumption)
  have k6_5 : w6.cell? ⟨w.heap.size, 5, none⟩ = some (.int .i64 0) := or6.keeps (by omega) (by first | (go_simp; done) | assumption)
  have k6_6 : w6.cell? ⟨w4.heap.size, 0, none⟩ = some (.int .i64 0) := or6.keeps (by omega) (by first | (go_simp; done) | assumption)
  have k6_7 : w6.cell? ⟨w4.heap.size, 1, none⟩ = some (.int .i64 vd) := or6.keeps (by omega) (by first | (go_simp; done) | assumption)
  have k6_8 : w6.cell? ⟨w4.heap.size, 2, none⟩ = some (.int .i64 va) := or6.keeps (by omega) (by first | (go_simp; done) | assumption)
  have k6_9 : w6.cell? ⟨w4.heap.size, 3, none⟩ = some (.int .i64 vb) := or6.keeps (by omega) (by first | (go_simp; done) | assumption)
  have k6_10 : w6.cell? ⟨w4.heap.size, 4, none⟩ = some (.int .i64 vc) := or6.keeps (by omega) (by first | (go_simp; done) | assumption)
  have k6_11 : w6.cell? ⟨w4.heap.size, 5, none⟩ = some (.int .i64 0) := or6.keeps (by omega) (by first | (go_simp; done) | assumption)
  have f6_0 : w6.frozen? ⟨w.heap.size, 0, none⟩ = false := or6.free (by omega) (by first | omega | (simp; done) | (simp; omega)) (by first | (go_simp; done) | assumption)
  have f6_1 : w6.frozen? ⟨w.heap.size, 1, none⟩ = false := or6.free (by omega) (by first | omega | (simp; done) | (simp; omega)) (by first | (go_simp; done) | assumption)
  have f6_2 : w6.frozen? ⟨w.heap.size, 2, none⟩ = false := or6.free (by omega) (by first | omega | (simp; done) | (simp; omega)) (by first | (go_simp; done) | assumption)
  have f6_3 : w6.frozen? ⟨w.heap.size, 3, none⟩ = false := or6.free (by omega) (by first | omega | (simp; done) | (simp; omega)) (by first | (go_simp; done) | assumption)
  have f6_4 : w6.frozen? ⟨w.heap.size, 4, none⟩ = false := or6.free (by omega) (by first | omega | (simp; done) | (simp; omega)) (by first | (go_simp; done) | assumption)
  have f6_5 : w6.frozen? ⟨w.heap.size, 5, none⟩ = false := or6.free (by omega) (by first | omega | (simp; done) | (simp; omega)) (by first | (go_simp; done) | assumption)
  have f6_6 : w6.frozen? ⟨w4.heap.size, 0, none⟩ = false := or6.free (by omega) (by first | omega | (simp; done) | (simp; omega)) (by first | (go_simp; done) | assumption)
  have f6_7 : w6.frozen? ⟨w4.heap.size, 1, none⟩ = false := or6.free (by omega) (by first | omega | (simp; done) | (simp; omega)) (by first | (go_simp; done) | assumption)
  have f6_8 : w6.frozen? ⟨w4.heap.size, 2, none⟩ = false := or6.free (by omega) (by first | omega | (simp; done) | (simp; omega)) (by first | (go_simp; done) | assumption)
  have f6_9 : w6.frozen? ⟨w4.heap.size, 3, none⟩ = false := or6.free (by omega) (by first | omega | (simp; done) | (simp; omega)) (by first | (go_simp; done) | assumption)
  have f6_10 : w6.frozen? ⟨w4.heap.size, 4, none⟩ = false := or6.free (by omega) (by first | omega | (simp; done) | (simp; omega)) (by first | (go_simp; done) | assumption)
  have f6_11 : w6.frozen? ⟨w4.heap.size, 5, none⟩ = false := or6.free (by omega) (by first | omega | (simp; done) | (simp; omega)) (by first | (go_simp; done) | assumption)
  clear k5_0 k5_1 k5_2 k5_3 k5_4 k5_5 kb5_0 kb5_1 kb5_2 kb5_3 kb5_4 kb5_5 f5_0 f5_1 f5_2 f5_3 f5_4 f5_5 kf5_0 kf5_1 kf5_2 kf5_3 kf5_4 kf5_5
  have hx : x = 0 ∨ x = 1 ∨ x = 2 ∨ x = 3 ∨ x = 4 ∨ x = 5 ∨ x = 6 ∨ 7 ≤ x := by omega
  rcases hx with rfl | rfl | rfl | rfl | rfl | rfl | rfl | hx
  ·
    go_wp2_with fail
    refine (below_dr g xs ad c 16 _ (hd6.keep fun q hq => (by (repeat (first | with_reducible exact Kp.refl _ _ | (with_reducible refine Kp.rng ?_ (by assumption) ?_) | (with_reducible refine Kp.below ?_ (by assumption)) | (with_reducible refine Kp.grown ?_ (by assumption) ?_) | (with_reducible refine Kp.alloc ?_ _) | (with_reducible refine Kp.drew ?_) | (with_reducible refine Kp.drewN ?_ _) | (with_reducible refine Kp.setCell ?_ _ ?_))) <;> (first | omega | (simp; done) | (simp; omega))))).mono ?_
    rintro e w7 ⟨vn, rfl, vn0, vn1, _, hd7, ob7, or7⟩
    have vn1 := vn1 (by omega)
    have z7 := ob7.size
    (try simp at z7)
    have y7_0 : w.heap.size < w7.heap.size := (by omega)
    have y7_1 : w4.heap.size < w7.heap.size := (by omega)
    have k7_0 : w7.cell? ⟨w.heap.size, 0, none⟩ = some (.int .i64 0) := or7.keeps (by omega) (by first | (go_simp; done) | assumption)
    have k7_1 : w7.cell? ⟨w.heap.size, 1, none⟩ = some (.int .i64 0) := or7.keeps (by omega) (by first | (go_simp; done) | assumption)
    have k7_2 : w7.cell? ⟨w.heap.size, 2, none⟩ = some (.int .i64 0) := or7.keeps (by omega) (by first | (go_simp; done) | assumption)
    have k7_3 : w7.cell? ⟨w.heap.size, 3, none⟩ = some (.int .i64 0) := or7.keeps (by omega) (by first | (go_simp; done) | assumption)
    have k7_4 : w7.cell? ⟨w.heap.size, 4, none⟩ = some (.int .i64 0) := or7.keeps (by omega) (by first | (go_simp; done) | assumption)
    have k7_5 : w7.cell? ⟨w.heap.size, 5, none⟩ = some (.int .i64 0) := or7.keeps (by omega) (by first | (go_simp; done) | assumption)
    have k7_6 : w7.cell? ⟨w4.heap.size, 0, none⟩ = some (.int .i64 1) := or7.keeps (by omega) (by first | (go_simp; done) | assumption)
    have k7_7 : w7.cell? ⟨w4.heap.size, 1, none⟩ = some (.int .i64 vd) := or7.keeps (by omega) (by first | (go_simp; done) | assumption)
    have k7_8 : w7.cell? ⟨w4.heap.size, 2, none⟩ = some (.int .i64 va) := or7.keeps (by omega) (by first | (go_simp; done) | assumption)
    have k7_9 : w7.cell? ⟨w4.heap.size, 3, none⟩ = some (.int .i64 vb) := or7.keeps (by omega) (by first | (go_simp; done) | assumption)
    have k7_10 : w7.cell? ⟨w4.heap.size, 4, none⟩ = some (.int .i64 vc) := or7.keeps (by omega) (by first | (go_simp; done) | assumption)
    have k7_11 : w7.cell? ⟨w4.heap.size, 5, none⟩ = some (.int .i64 0) := or7.keeps (by omega) (by first | (go_simp; done) | assumption)
    have f7_0 : w7.frozen? ⟨w.heap.size, 0, none⟩ = false := or7.free (by omega) (by first | omega | (simp; done) | (simp; omega)) (by first | (go_simp; done) | assumption)
    have f7_1 : w7.frozen? ⟨w.heap.size, 1, none⟩ = false := or7.free (by omega) (by first | omega | (simp; done) | (simp; omega)) (by first | (go_simp; done) | assumption)
    have f7_2 : w7.frozen? ⟨w.heap.size, 2, none⟩ = false := or7.free (by omega) (by first | omega | (simp; done) | (simp; omega)) (by first | (go_simp; done) | assumption)
    have f7_3 : w7.frozen? ⟨w.heap.size, 3, none⟩ = false := or7.free (by omega) (by first | omega | (simp; done) | (simp; omega)) (by first | (go_simp; done) | assumption)
    have f7_4 : w7.frozen? ⟨w.heap.size, 4, none⟩ = false := or7.free (by omega) (by first | omega | (simp; done) | (simp; omega)) (by first | (go_simp; done) | assumption)
    have f7_5 : w7.frozen? ⟨w.heap.size, 5, none⟩ = false := or7.free (by omega) (by first | omega | (simp; done) | (simp; omega)) (by first | (go_simp; done) | assumption)
    have f7_6 : w7.frozen? ⟨w4.heap.size, 0, none⟩ = false := or7.free (by omega) (by first | omega | (simp; done) | (simp; omega)) (by first | (go_simp; done) | assumption)
    have f7_7 : w7.frozen? ⟨w4.heap.size, 1, none⟩ = false := or7.free (by omega) (by first | omega | (simp; done) | (simp; omega)) (by first | (go_simp; done) | assumption)
    have f7_8 : w7.frozen? ⟨w4.heap.size, 2, none⟩ = false := or7.free (by omega) (by first | omega | (simp; done) | (simp; omega)) (by first | (go_simp; done) | assumption)
    have f7_9 : w7.frozen? ⟨w4.heap.size, 3, none⟩ = false := or7.free (by omega) (by first | omega | (simp; done) | (simp; omega)) (by first | (go_simp; done) | assumption)
    have f7_10 : w7.frozen? ⟨w4.heap.size, 4, none⟩ = false := or7.free (by omega) (by first | omega | (simp; done) | (simp; omega)) (by first | (go_simp; done) | assumption)
    have f7_11 : w7.frozen? ⟨w4.heap.size, 5, none⟩ = false := or7.free (by omega) (by first | omega | (simp; done) | (simp; omega)) (by first | (go_simp; done) | assumption)
    clear k6_0 k6_1 k6_2 k6_3 k6_4 k6_5 k6_6 k6_7 k6_8 k6_9 k6_10 k6_11 f6_0 f6_1 f6_2 f6_3 f6_4 f6_5 f6_6 f6_7 f6_8 f6_9 f6_10 f6_11
    have hp : plainS ⟨1, vd, va, vb, vc, vn⟩ = ⟨1, vd, 0, 0, 0, vn⟩ := by simp [plainS, inB]
    have hok : plain1 ⟨1, vd, 0, 0, 0, vn⟩ := by refine ⟨?_, by simp, by simp⟩; simp [stOk, inB]; try omega
    go_wp2_with fail
    refine (l08Plain_any ⟨1, vd, va, vb, vc, vn⟩ _).mono ?_
    rw [hp]
    rintro e w8 ⟨rfl, hb8⟩
    have z8 := hb8.size
    (try simp at z8)
    have y8_0 : w.heap.size < w8.heap.size := (by omega)
    have y8_1 : w4.heap.size < w8.heap.size := (by omega)
    have k8_0 := bel_keeps hb8 (b := w.heap.size) (o := 0) (v := .int .i64 0) (by first | (go_simp; done) | assumption)
    have k8_1 := bel_keeps hb8 (b := w.heap.size) (o := 1) (v := .int .i64 0) (by first | (go_simp; done) | assumption)
    have k8_2 := bel_keeps hb8 (b := w.heap.size) (o := 2) (v := .int .i64 0) (by first | (go_simp; done) | assumption)
    have k8_3 := bel_keeps hb8 (b := w.heap.size) (o := 3) (v := .int .i64 0) (by first | (go_simp; done) | assumption)
    have k8_4 := bel_keeps hb8 (b := w.heap.size) (o := 4) (v := .int .i64 0) (by first | (go_simp; done) | assumption)
    have k8_5 := bel_keeps hb8 (b := w.heap.size) (o := 5) (v := .int .i64 0) (by first | (go_simp; done) | assumption)
    have k8_6 := bel_keeps hb8 (b := w4.heap.size) (o := 0) (v := .int .i64 1) (by first | (go_simp; done) | assumption)
    have k8_7 := bel_keeps hb8 (b := w4.heap.size) (o := 1) (v := .int .i64 vd) (by first | (go_simp; done) | assumption)
    have k8_8 := bel_keeps hb8 (b := w4.heap.size) (o := 2) (v := .int .i64 va) (by first | (go_simp; done) | assumption)
    have k8_9 := bel_keeps hb8 (b := w4.heap.size) (o := 3) (v := .int .i64 vb) (by first | (go_simp; done) | assumption)
    have k8_10 := bel_keeps hb8 (b := w4.heap.size) (o := 4) (v := .int .i64 vc) (by first | (go_simp; done) | assumption)
    have k8_11 := bel_keeps hb8 (b := w4.heap.size) (o := 5) (v := .int .i64 vn) (by first | (go_simp; done) | assumption)
    have f8_0 := bel_free hb8 (b := w.heap.size) (o := 0) (by first | omega | (simp; done) | (simp; omega)) (by first | (go_simp; done) | assumption)
    have f8_1 := bel_free hb8 (b := w.heap.size) (o := 1) (by first | omega | (simp; done) | (simp; omega)) (by first | (go_simp; done) | assumption)
    have f8_2 := bel_free hb8 (b := w.heap.size) (o := 2) (by first | omega | (simp; done) | (simp; omega)) (by first | (go_simp; done) | assumption)
    have f8_3 := bel_free hb8 (b := w.heap.size) (o := 3) (by first | omega | (simp; done) | (simp; omega)) (by first | (go_simp; done) | assumption)
    have f8_4 := bel_free hb8 (b := w.heap.size) (o := 4) (by first | omega | (simp; done) | (simp; omega)) (by first | (go_simp; done) | assumption)
    have f8_5 := bel_free hb8 (b := w.heap.size) (o := 5) (by first | omega | (simp; done) | (simp; omega)) (by first | (go_simp; done) | assumption)
    have f8_6 := bel_free hb8 (b := w4.heap.size) (o := 0) (by first | omega | (simp; done) | (simp; omega)) (by first | (go_simp; done) | assumption)
    have f8_7 := bel_free hb8 (b := w4.heap.size) (o := 1) (by first | omega | (simp; done) | (simp; omega)) (by first | (go_simp; done) | assumption)
    have f8_8 := bel_free hb8 (b := w4.heap.size) (o := 2) (by first | omega | (simp; done) | (simp; omega)) (by first | (go_simp; done) | assumption)
    have f8_9 := bel_free hb8 (b := w4.heap.size) (o := 3) (by first | omega | (simp; done) | (simp; omega)) (by first | (go_simp; done) | assumption)
    have f8_10 := bel_free hb8 (b := w4.heap.size) (o := 4) (by first | omega | (simp; done) | (simp; omega)) (by first | (go_simp; done) | assumption)
    have f8_11 := bel_free hb8 (b := w4.heap.size) (o := 5) (by first | omega | (simp; done) | (simp; omega)) (by first | (go_simp; done) | assumption)
    clear k7_0 k7_1 k7_2 k7_3 k7_4 k7_5 k7_6 k7_7 k7_8 k7_9 k7_10 k7_11 f7_0 f7_1 f7_2 f7_3 f7_4 f7_5 f7_6 f7_7 f7_8 f7_9 f7_10 f7_11
    unfold stV
    go_wp2_with fail
    refine bodyPost_ret (v := .agg #[.int .i64 (1), .int .i64 (vd), .int .i64 (0), .int .i64 (0), .int .i64 (0), .int .i64 (vn)]) (by simp [results, Try.results120, go_sem, k8_0, k8_1, k8_2, k8_3, k8_4, k8_5, f8_0, f8_1, f8_2, f8_3, f8_4, f8_5]) rfl ⟨⟨1, vd, 0, 0, 0, vn⟩, rfl, hok, hd7.keep fun q hq => (by (repeat (first | with_reducible exact Kp.refl _ _ | (with_reducible refine Kp.rng ?_ (by assumption) ?_) | (with_reducible refine Kp.below ?_ (by assumption)) | (with_reducible refine Kp.grown ?_ (by assumption) ?_) | (with_reducible refine Kp.alloc ?_ _) | (with_reducible refine Kp.drew ?_) | (with_reducible refine Kp.drewN ?_ _) | (with_reducible refine Kp.setCell ?_ _ ?_))) <;> (first | omega | (simp; done) | (simp; omega))), ⟨(by (repeat (first | with_reducible exact Below.refl _ _ | (with_reducible refine bel_next ?_ ?_ (by assumption)) | (with_reducible refine Below.alloc ?_ ?_ _) | (with_reducible refine Below.drew ?_) | (with_reducible refine below_drewN ?_ _) | (with_reducible refine Below.setCell ?_ ?_ _))) <;> (first | omega | (simp; done) | (simp; omega))), fun q hq => Kp.of_lt fun hql => (by (repeat (first | with_reducible exact Kp.refl _ _ | (with_reducible refine Kp.rng ?_ (by assumption) ?_) | (with_reducible refine Kp.below ?_ (by assumption)) | (with_reducible refine Kp.grown ?_ (by assumption) ?_) | (with_reducible refine Kp.alloc ?_ _) | (with_reducible refine Kp.drew ?_) | (with_reducible refine Kp.drewN ?_ _) | (with_reducible refine Kp.setCell ?_ _ ?_))) <;> (first | omega | (simp; done) | (simp; omega)))⟩⟩
  ·
    go_wp2_with fail
    refine (below_dr g xs ad c 3 _ (hd6.keep fun q hq => (by (repeat (first | with_reducible exact Kp.refl _ _ | (with_reducible refine Kp.rng ?_ (by assumption) ?_) | (with_reducible refine Kp.below ?_ (by assumption)) | (with_reducible refine Kp.grown ?_ (by assumption) ?_) | (with_reducible refine Kp.alloc ?_ _) | (with_reducible refine Kp.drew ?_) | (with_reducible refine Kp.drewN ?_ _) | (with_reducible refine Kp.setCell ?_ _ ?_))) <;> (first | omega | (simp; done) | (simp; omega))))).mono ?_
    rintro e w7 ⟨va2, rfl, va20, va21, _, hd7, ob7, or7⟩
    have va21 := va21 (by omega)
    have z7 := ob7.size
    (try simp at z7)
    have y7_0 : w.heap.size < w7.heap.size := (by omega)
    have y7_1 : w4.heap.size < w7.heap.size := (by omega)
    have k7_0 : w7.cell? ⟨w.heap.size, 0, none⟩ = some (.int .i64 0) := or7.keeps (by omega) (by first | (go_simp; done) | assumption)
    have k7_1 : w7.cell? ⟨w.heap.size, 1, none⟩ = some (.int .i64 0) := or7.keeps (by omega) (by first | (go_simp; done) | assumption)
    have k7_2 : w7.cell? ⟨w.heap.size, 2, none⟩ = some (.int .i64 0) := or7.keeps (by omega) (by first | (go_simp; done) | assumption)
    have k7_3 : w7.cell? ⟨w.heap.size, 3, none⟩ = some (.int .i64 0) := or7.keeps (by omega) (by first | (go_simp; done) | assumption)
    have k7_4 : w7.cell? ⟨w.heap.size, 4, none⟩ = some (.int .i64 0) := or7.keeps (by omega) (by first | (go_simp; done) | assumption)
    have k7_5 : w7.cell? ⟨w.heap.size, 5, none⟩ = some (.int .i64 0) := or7.keeps (by omega) (by first | (go_simp; done) | assumption)
    have k7_6 : w7.cell? ⟨w4.heap.size, 0, none⟩ = some (.int .i64 2) := or7.keeps (by omega) (by first | (go_simp; done) | assumption)
    have k7_7 : w7.cell? ⟨w4.heap.size, 1, none⟩ = some (.int .i64 vd) := or7.keeps (by omega) (by first | (go_simp; done) | assumption)
    have k7_8 : w7.cell? ⟨w4.heap.size, 2, none⟩ = some (.int .i64 va) := or7.keeps (by omega) (by first | (go_simp; done) | assumption)
    have k7_9 : w7.cell? ⟨w4.heap.size, 3, none⟩ = some (.int .i64 vb) := or7.keeps (by omega) (by first | (go_simp; done) | assumption)
    have k7_10 : w7.cell? ⟨w4.heap.size, 4, none⟩ = some (.int .i64 vc) := or7.keeps (by omega) (by first | (go_simp; done) | assumption)
    have k7_11 : w7.cell? ⟨w4.heap.size, 5, none⟩ = some (.int .i64 0) := or7.keeps (by omega) (by first | (go_simp; done) | assumption)
    have f7_0 : w7.frozen? ⟨w.heap.size, 0, none⟩ = false := or7.free (by omega) (by first | omega | (simp; done) | (simp; omega)) (by first | (go_simp; done) | assumption)
    have f7_1 : w7.frozen? ⟨w.heap.size, 1, none⟩ = false := or7.free (by omega) (by first | omega | (simp; done) | (simp; omega)) (by first | (go_simp; done) | assumption)
    have f7_2 : w7.frozen? ⟨w.heap.size, 2, none⟩ = false := or7.free (by omega) (by first | omega | (simp; done) | (simp; omega)) (by first | (go_simp; done) | assumption)
    have f7_3 : w7.frozen? ⟨w.heap.size, 3, none⟩ = false := or7.free (by omega) (by first | omega | (simp; done) | (simp; omega)) (by first | (go_simp; done) | assumption)
    have f7_4 : w7.frozen? ⟨w.heap.size, 4, none⟩ = false := or7.free (by omega) (by first | omega | (simp; done) | (simp; omega)) (by first | (go_simp; done) | assumption)
    have f7_5 : w7.frozen? ⟨w.heap.size, 5, none⟩ = false := or7.free (by omega) (by first | omega | (simp; done) | (simp; omega)) (by first | (go_simp; done) | assumption)
    have f7_6 : w7.frozen? ⟨w4.heap.size, 0, none⟩ = false := or7.free (by omega) (by first | omega | (simp; done) | (simp; omega)) (by first | (go_simp; done) | assumption)
    have f7_7 : w7.frozen? ⟨w4.heap.size, 1, none⟩ = false := or7.free (by omega) (by first | omega | (simp; done) | (simp; omega)) (by first | (go_simp; done) | assumption)
    have f7_8 : w7.frozen? ⟨w4.heap.size, 2, none⟩ = false := or7.free (by omega) (by first | omega | (simp; done) | (simp; omega)) (by first | (go_simp; done) | assumption)
    have f7_9 : w7.frozen? ⟨w4.heap.size, 3, none⟩ = false := or7.free (by omega) (by first | omega | (simp; done) | (simp; omega)) (by first | (go_simp; done) | assumption)
    have f7_10 : w7.frozen? ⟨w4.heap.size, 4, none⟩ = false := or7.free (by omega) (by first | omega | (simp; done) | (simp; omega)) (by first | (go_simp; done) | assumption)
    have f7_11 : w7.frozen? ⟨w4.heap.size, 5, none⟩ = false := or7.free (by omega) (by first | omega | (simp; done) | (simp; omega)) (by first | (go_simp; done) | assumption)
    clear k6_0 k6_1 k6_2 k6_3 k6_4 k6_5 k6_6 k6_7 k6_8 k6_9 k6_10 k6_11 f6_0 f6_1 f6_2 f6_3 f6_4 f6_5 f6_6 f6_7 f6_8 f6_9 f6_10 f6_11
    go_wp2_with fail
    refine (below_dr g xs ad c 2 _ (hd7.keep fun q hq => (by (repeat (first | with_reducible exact Kp.refl _ _ | (with_reducible refine Kp.rng ?_ (by assumption) ?_) | (with_reducible refine Kp.below ?_ (by assumption)) | (with_reducible refine Kp.grown ?_ (by assumption) ?_) | (with_reducible refine Kp.alloc ?_ _) | (with_reducible refine Kp.drew ?_) | (with_reducible refine Kp.drewN ?_ _) | (with_reducible refine Kp.setCell ?_ _ ?_))) <;> (first | omega | (simp; done) | (simp; omega))))).mono ?_
    rintro e w8 ⟨vn, rfl, vn0, vn1, _, hd8, ob8, or8⟩
    have vn1 := vn1 (by omega)
    have z8 := ob8.size
    (try simp at z8)
    have y8_0 : w.heap.size < w8.heap.size := (by omega)
    have y8_1 : w4.heap.size < w8.heap.size := (by omega)
    have k8_0 : w8.cell? ⟨w.heap.size, 0, none⟩ = some (.int .i64 0) := or8.keeps (by omega) (by first | (go_simp; done) | assumption)
    have k8_1 : w8.cell? ⟨w.heap.size, 1, none⟩ = some (.int .i64 0) := or8.keeps (by omega) (by first | (go_simp; done) | assumption)
    have k8_2 : w8.cell? ⟨w.heap.size, 2, none⟩ = some (.int .i64 0) := or8.keeps (by omega) (by first | (go_simp; done) | assumption)
    have k8_3 : w8.cell? ⟨w.heap.size, 3, none⟩ = some (.int .i64 0) := or8.keeps (by omega) (by first | (go_simp; done) | assumption)
    have k8_4 : w8.cell? ⟨w.heap.size, 4, none⟩ = some (.int .i64 0) := or8.keeps (by omega) (by first | (go_simp; done) | assumption)
    have k8_5 : w8.cell? ⟨w.heap.size, 5, none⟩ = some (.int .i64 0) := or8.keeps (by omega) (by first | (go_simp; done) | assumption)
    have k8_6 : w8.cell? ⟨w4.heap.size, 0, none⟩ = some (.int .i64 2) := or8.keeps (by omega) (by first | (go_simp; done) | assumption)
    have k8_7 : w8.cell? ⟨w4.heap.size, 1, none⟩ = some (.int .i64 vd) := or8.keeps (by omega) (by first | (go_simp; done) | assumption)
    have k8_8 : w8.cell? ⟨w4.heap.size, 2, none⟩ = some (.int .i64 va2) := or8.keeps (by omega) (by first | (go_simp; done) | assumption)
    have k8_9 : w8.cell? ⟨w4.heap.size, 3, none⟩ = some (.int .i64 vb) := or8.keeps (by omega) (by first | (go_simp; done) | assumption)
    have k8_10 : w8.cell? ⟨w4.heap.size, 4, none⟩ = some (.int .i64 vc) := or8.keeps (by omega) (by first | (go_simp; done) | assumption)
    have k8_11 : w8.cell? ⟨w4.heap.size, 5, none⟩ = some (.int .i64 0) := or8.keeps (by omega) (by first | (go_simp; done) | assumption)
    have f8_0 : w8.frozen? ⟨w.heap.size, 0, none⟩ = false := or8.free (by omega) (by first | omega | (simp; done) | (simp; omega)) (by first | (go_simp; done) | assumption)
    have f8_1 : w8.frozen? ⟨w.heap.size, 1, none⟩ = false := or8.free (by omega) (by first | omega | (simp; done) | (simp; omega)) (by first | (go_simp; done) | assumption)
    have f8_2 : w8.frozen? ⟨w.heap.size, 2, none⟩ = false := or8.free (by omega) (by first | omega | (simp; done) | (simp; omega)) (by first | (go_simp; done) | assumption)
    have f8_3 : w8.frozen? ⟨w.heap.size, 3, none⟩ = false := or8.free (by omega) (by first | omega | (simp; done) | (simp; omega)) (by first | (go_simp; done) | assumption)
    have f8_4 : w8.frozen? ⟨w.heap.size, 4, none⟩ = false := or8.free (by omega) (by first | omega | (simp; done) | (simp; omega)) (by first | (go_simp; done) | assumption)
    have f8_5 : w8.frozen? ⟨w.heap.size, 5, none⟩ = false := or8.free (by omega) (by first | omega | (simp; done) | (simp; omega)) (by first | (go_simp; done) | assumption)
    have f8_6 : w8.frozen? ⟨w4.heap.size, 0, none⟩ = false := or8.free (by omega) (by first | omega | (simp; done) | (simp; omega)) (by first | (go_simp; done) | assumption)
    have f8_7 : w8.frozen? ⟨w4.heap.size, 1, none⟩ = false := or8.free (by omega) (by first | omega | (simp; done) | (simp; omega)) (by first | (go_simp; done) | assumption)
    have f8_8 : w8.frozen? ⟨w4.heap.size, 2, none⟩ = false := or8.free (by omega) (by first | omega | (simp; done) | (simp; omega)) (by first | (go_simp; done) | assumption)
    have f8_9 : w8.frozen? ⟨w4.heap.size, 3, none⟩ = false := or8.free (by omega) (by first | omega | (simp; done) | (simp; omega)) (by first | (go_simp; done) | assumption)
    have f8_10 : w8.frozen? ⟨w4.heap.size, 4, none⟩ = false := or8.free (by omega) (by first | omega | (simp; done) | (simp; omega)) (by first | (go_simp; done) | assumption)
    have f8_11 : w8.frozen? ⟨w4.heap.size, 5, none⟩ = false := or8.free (by omega) (by first | omega | (simp; done) | (simp; omega)) (by first | (go_simp; done) | assumption)
    clear k7_0 k7_1 k7_2 k7_3 k7_4 k7_5 k7_6 k7_7 k7_8 k7_9 k7_10 k7_11 f7_0 f7_1 f7_2 f7_3 f7_4 f7_5 f7_6 f7_7 f7_8 f7_9 f7_10 f7_11
    have hp : plainS ⟨2, vd, va2, vb, vc, vn⟩ = ⟨2, vd, va2, 0, 0, vn⟩ := by simp [plainS, inB]
    have hok : plain1 ⟨2, vd, va2, 0, 0, vn⟩ := by refine ⟨?_, by simp, by simp⟩; simp [stOk, inB]; try omega
    go_wp2_with fail
    refine (l08Plain_any ⟨2, vd, va2, vb, vc, vn⟩ _).mono ?_
    rw [hp]
    rintro e w9 ⟨rfl, hb9⟩
    have z9 := hb9.size
    (try simp at z9)
    have y9_0 : w.heap.size < w9.heap.size := (by omega)
    have y9_1 : w4.heap.size < w9.heap.size := (by omega)
    have k9_0 := bel_keeps hb9 (b := w.heap.size) (o := 0) (v := .int .i64 0) (by first | (go_simp; done) | assumption)
    have k9_1 := bel_keeps hb9 (b := w.heap.size) (o := 1) (v := .int .i64 0) (by first | (go_simp; done) | assumption)
    have k9_2 := bel_keeps hb9 (b := w.heap.size) (o := 2) (v := .int .i64 0) (by first | (go_simp; done) | assumption)
    have k9_3 := bel_keeps hb9 (b := w.heap.size) (o := 3) (v := .int .i64 0) (by first | (go_simp; done) | assumption)
    have k9_4 := bel_keeps hb9 (b := w.heap.size) (o := 4) (v := .int .i64 0) (by first | (go_simp; done) | assumption)
    have k9_5 := bel_keeps hb9 (b := w.heap.size) (o := 5) (v := .int .i64 0) (by first | (go_simp; done) | assumption)
    have k9_6 := bel_keeps hb9 (b := w4.heap.size) (o := 0) (v := .int .i64 2) (by first | (go_simp; done) | assumption)
    have k9_7 := bel_keeps hb9 (b := w4.heap.size) (o := 1) (v := .int .i64 vd) (by first | (go_simp; done) | assumption)
    have k9_8 := bel_keeps hb9 (b := w4.heap.size) (o := 2) (v := .int .i64 va2) (by first | (go_simp; done) | assumption)
    have k9_9 := bel_keeps hb9 (b := w4.heap.size) (o := 3) (v := .int .i64 vb) (by first | (go_simp; done) | assumption)
    have k9_10 := bel_keeps hb9 (b := w4.heap.size) (o := 4) (v := .int .i64 vc) (by first | (go_simp; done) | assumption)
    have k9_11 := bel_keeps hb9 (b := w4.heap.size) (o := 5) (v := .int .i64 vn) (by first | (go_simp; done) | assumption)
    have f9_0 := bel_free hb9 (b := w.heap.size) (o := 0) (by first | omega | (simp; done) | (simp; omega)) (by first | (go_simp; done) | assumption)
    have f9_1 := bel_free hb9 (b := w.heap.size) (o := 1) (by first | omega | (simp; done) | (simp; omega)) (by first | (go_simp; done) | assumption)
    have f9_2 := bel_free hb9 (b := w.heap.size) (o := 2) (by first | omega | (simp; done) | (simp; omega)) (by first | (go_simp; done) | assumption)
    have f9_3 := bel_free hb9 (b := w.heap.size) (o := 3) (by first | omega | (simp; done) | (simp; omega)) (by first | (go_simp; done) | assumption)
    have f9_4 := bel_free hb9 (b := w.heap.size) (o := 4) (by first | omega | (simp; done) | (simp; omega)) (by first | (go_simp; done) | assumption)
    have f9_5 := bel_free hb9 (b := w.heap.size) (o := 5) (by first | omega | (simp; done) | (simp; omega)) (by first | (go_simp; done) | assumption)
    have f9_6 := bel_free hb9 (b := w4.heap.size) (o := 0) (by first | omega | (simp; done) | (simp; omega)) (by first | (go_simp; done) | assumption)
    have f9_7 := bel_free hb9 (b := w4.heap.size) (o := 1) (by first | omega | (simp; done) | (simp; omega)) (by first | (go_simp; done) | assumption)
    have f9_8 := bel_free hb9 (b := w4.heap.size) (o := 2) (by first | omega | (simp; done) | (simp; omega)) (by first | (go_simp; done) | assumption)
    have f9_9 := bel_free hb9 (b := w4.heap.size) (o := 3) (by first | omega | (simp; done) | (simp; omega)) (by first | (go_simp; done) | assumption)
    have f9_10 := bel_free hb9 (b := w4.heap.size) (o := 4) (by first | omega | (simp; done) | (simp; omega)) (by first | (go_simp; done) | assumption)
    have f9_11 := bel_free hb9 (b := w4.heap.size) (o := 5) (by first | omega | (simp; done) | (simp; omega)) (by first | (go_simp; done) | assumption)
    clear k8_0 k8_1 k8_2 k8_3 k8_4 k8_5 k8_6 k8_7 k8_8 k8_9 k8_10 k8_11 f8_0 f8_1 f8_2 f8_3 f8_4 f8_5 f8_6 f8_7 f8_8 f8_9 f8_10 f8_11
    unfold stV
    go_wp2_with fail
    refine bodyPost_ret (v := .agg #[.int .i64 (2), .int .i64 (vd), .int .i64 (va2), .int .i64 (0), .int .i64 (0), .int .i64 (vn)]) (by simp [results, Try.results120, go_sem, k9_0, k9_1, k9_2, k9_3, k9_4, k9_5, f9_0, f9_1, f9_2, f9_3, f9_4, f9_5]) rfl ⟨⟨2, vd, va2, 0, 0, vn⟩, rfl, hok, hd8.keep fun q hq => (by (repeat (first | with_reducible exact Kp.refl _ _ | (with_reducible refine Kp.rng ?_ (by assumption) ?_) | (with_reducible refine Kp.below ?_ (by assumption)) | (with_reducible refine Kp.grown ?_ (by assumption) ?_) | (with_reducible refine Kp.alloc ?_ _) | (with_reducible refine Kp.drew ?_) | (with_reducible refine Kp.drewN ?_ _) | (with_reducible refine Kp.setCell ?_ _ ?_))) <;> (first | omega | (simp; done) | (simp; omega))), ⟨(by (repeat (first | with_reducible exact Below.refl _ _ | (with_reducible refine bel_next ?_ ?_ (by assumption)) | (with_reducible refine Below.alloc ?_ ?_ _) | (with_reducible refine Below.drew ?_) | (with_reducible refine below_drewN ?_ _) | (with_reducible refine Below.setCell ?_ ?_ _))) <;> (first | omega | (simp; done) | (simp; omega))), fun q hq => Kp.of_lt fun hql => (by (repeat (first | with_reducible exact Kp.refl _ _ | (with_reducible refine Kp.rng ?_ (by assumption) ?_) | (with_reducible refine Kp.below ?_ (by assumption)) | (with_reducible refine Kp.grown ?_ (by assumption) ?_) | (with_reducible refine Kp.alloc ?_ _) | (with_reducible refine Kp.drew ?_) | (with_reducible refine Kp.drewN ?_ _) | (with_reducible refine Kp.setCell ?_ _ ?_))) <;> (first | omega | (simp; done) | (simp; omega)))⟩⟩
  ·
    go_wp2_with fail
    refine (below_dr g xs ad c 3 _ (hd6.keep fun q hq => (by (repeat (first | with_reducible exact Kp.refl _ _ | (with_reducible refine Kp.rng ?_ (by assumption) ?_) | (with_reducible refine Kp.below ?_ (by assumption)) | (with_reducible refine Kp.grown ?_ (by assumption) ?_) | (with_reducible refine Kp.alloc ?_ _) | (with_reducible refine Kp.drew ?_) | (with_reducible refine Kp.drewN ?_ _) | (with_reducible refine Kp.setCell ?_ _ ?_))) <;> (first | omega | (simp; done) | (simp; omega))))).mono ?_
    rintro e w7 ⟨va2, rfl, va20, va21, _, hd7, ob7, or7⟩
    have va21 := va21 (by omega)
    have z7 := ob7.size
    (try simp at z7)
    have y7_0 : w.heap.size < w7.heap.size := (by omega)
    have y7_1 : w4.heap.size < w7.heap.size := (by omega)
    have k7_0 : w7.cell? ⟨w.heap.size, 0, none⟩ = some (.int .i64 0) := or7.keeps (by omega) (by first | (go_simp; done) | assumption)
    have k7_1 : w7.cell? ⟨w.heap.size, 1, none⟩ = some (.int .i64 0) := or7.keeps (by omega) (by first | (go_simp; done) | assumption)
    have k7_2 : w7.cell? ⟨w.heap.size, 2, none⟩ = some (.int .i64 0) := or7.keeps (by omega) (by first | (go_simp; done) | assumption)
    have k7_3 : w7.cell? ⟨w.heap.size, 3, none⟩ = some (.int .i64 0) := or7.keeps (by omega) (by first | (go_simp; done) | assumption)
    have k7_4 : w7.cell? ⟨w.heap.size, 4, none⟩ = some (.int .i64 0) := or7.keeps (by omega) (by first | (go_simp; done) | assumption)
    have k7_5 : w7.cell? ⟨w.heap.size, 5, none⟩ = some (.int .i64 0) := or7.keeps (by omega) (by first | (go_simp; done) | assumption)
    have k7_6 : w7.cell? ⟨w4.heap.size, 0, none⟩ = some (.int .i64 2) := or7.keeps (by omega) (by first | (go_simp; done) | assumption)
    have k7_7 : w7.cell? ⟨w4.heap.size, 1, none⟩ = some (.int .i64 vd) := or7.keeps (by omega) (by first | (go_simp; done) | assumption)
    have k7_8 : w7.cell? ⟨w4.heap.size, 2, none⟩ = some (.int .i64 va) := or7.keeps (by omega) (by first | (go_simp; done) | assumption)
    have k7_9 : w7.cell? ⟨w4.heap.size, 3, none⟩ = some (.int .i64 vb) := or7.keeps (by omega) (by first | (go_simp; done) | assumption)
    have k7_10 : w7.cell? ⟨w4.heap.size, 4, none⟩ = some (.int .i64 vc) := or7.keeps (by omega) (by first | (go_simp; done) | assumption)
    have k7_11 : w7.cell? ⟨w4.heap.size, 5, none⟩ = some (.int .i64 0) := or7.keeps (by omega) (by first | (go_simp; done) | assumption)
    have f7_0 : w7.frozen? ⟨w.heap.size, 0, none⟩ = false := or7.free (by omega) (by first | omega | (simp; done) | (simp; omega)) (by first | (go_simp; done) | assumption)
    have f7_1 : w7.frozen? ⟨w.heap.size, 1, none⟩ = false := or7.free (by omega) (by first | omega | (simp; done) | (simp; omega)) (by first | (go_simp; done) | assumption)
    have f7_2 : w7.frozen? ⟨w.heap.size, 2, none⟩ = false := or7.free (by omega) (by first | omega | (simp; done) | (simp; omega)) (by first | (go_simp; done) | assumption)
    have f7_3 : w7.frozen? ⟨w.heap.size, 3, none⟩ = false := or7.free (by omega) (by first | omega | (simp; done) | (simp; omega)) (by first | (go_simp; done) | assumption)
    have f7_4 : w7.frozen? ⟨w.heap.size, 4, none⟩ = false := or7.free (by omega) (by first | omega | (simp; done) | (simp; omega)) (by first | (go_simp; done) | assumption)
    have f7_5 : w7.frozen? ⟨w.heap.size, 5, none⟩ = false := or7.free (by omega) (by first | omega | (simp; done) | (simp; omega)) (by first | (go_simp; done) | assumption)
    have f7_6 : w7.frozen? ⟨w4.heap.size, 0, none⟩ = false := or7.free (by omega) (by first | omega | (simp; done) | (simp; omega)) (by first | (go_simp; done) | assumption)
    have f7_7 : w7.frozen? ⟨w4.heap.size, 1, none⟩ = false := or7.free (by omega) (by first | omega | (simp; done) | (simp; omega)) (by first | (go_simp; done) | assumption)
    have f7_8 : w7.frozen? ⟨w4.heap.size, 2, none⟩ = false := or7.free (by omega) (by first | omega | (simp; done) | (simp; omega)) (by first | (go_simp; done) | assumption)
    have f7_9 : w7.frozen? ⟨w4.heap.size, 3, none⟩ = false := or7.free (by omega) (by first | omega | (simp; done) | (simp; omega)) (by first | (go_simp; done) | assumption)
    have f7_10 : w7.frozen? ⟨w4.heap.size, 4, none⟩ = false := or7.free (by omega) (by first | omega | (simp; done) | (simp; omega)) (by first | (go_simp; done) | assumption)
    have f7_11 : w7.frozen? ⟨w4.heap.size, 5, none⟩ = false := or7.free (by omega) (by first | omega | (simp; done) | (simp; omega)) (by first | (go_simp; done) | assumption)
    clear k6_0 k6_1 k6_2 k6_3 k6_4 k6_5 k6_6 k6_7 k6_8 k6_9 k6_10 k6_11 f6_0 f6_1 f6_2 f6_3 f6_4 f6_5 f6_6 f6_7 f6_8 f6_9 f6_10 f6_11
    go_wp2_with fail
    refine (below_dr g xs ad c 2 _ (hd7.keep fun q hq => (by (repeat (first | with_reducible exact Kp.refl _ _ | (with_reducible refine Kp.rng ?_ (by assumption) ?_) | (with_reducible refine Kp.below ?_ (by assumption)) | (with_reducible refine Kp.grown ?_ (by assumption) ?_) | (with_reducible refine Kp.alloc ?_ _) | (with_reducible refine Kp.drew ?_) | (with_reducible refine Kp.drewN ?_ _) | (with_reducible refine Kp.setCell ?_ _ ?_))) <;> (first | omega | (simp; done) | (simp; omega))))).mono ?_
    rintro e w8 ⟨vn, rfl, vn0, vn1, _, hd8, ob8, or8⟩
    have vn1 := vn1 (by omega)
    have z8 := ob8.size
    (try simp at z8)
    have y8_0 : w.heap.size < w8.heap.size := (by omega)
    have y8_1 : w4.heap.size < w8.heap.size := (by omega)
    have k8_0 : w8.cell? ⟨w.heap.size, 0, none⟩ = some (.int .i64 0) := or8.keeps (by omega) (by first | (go_simp; done) | assumption)
    have k8_1 : w8.cell? ⟨w.heap.size, 1, none⟩ = some (.int .i64 0) := or8.keeps (by omega) (by first | (go_simp; done) | assumption)
    have k8_2 : w8.cell? ⟨w.heap.size, 2, none⟩ = some (.int .i64 0) := or8.keeps (by omega) (by first | (go_simp; done) | assumption)
    have k8_3 : w8.cell? ⟨w.heap.size, 3, none⟩ = some (.int .i64 0) := or8.keeps (by omega) (by first | (go_simp; done) | assumption)
    have k8_4 : w8.cell? ⟨w.heap.size, 4, none⟩ = some (.int .i64 0) := or8.keeps (by omega) (by first | (go_simp; done) | assumption)
    have k8_5 : w8.cell? ⟨w.heap.size, 5, none⟩ = some (.int .i64 0) := or8.keeps (by omega) (by first | (go_simp; done) | assumption)
    have k8_6 : w8.cell? ⟨w4.heap.size, 0, none⟩ = some (.int .i64 2) := or8.keeps (by omega) (by first | (go_simp; done) | assumption)
    have k8_7 : w8.cell? ⟨w4.heap.size, 1, none⟩ = some (.int .i64 vd) := or8.keeps (by omega) (by first | (go_simp; done) | assumption)
    have k8_8 : w8.cell? ⟨w4.heap.size, 2, none⟩ = some (.int .i64 va2) := or8.keeps (by omega) (by first | (go_simp; done) | assumption)
    have k8_9 : w8.cell? ⟨w4.heap.size, 3, none⟩ = some (.int .i64 vb) := or8.keeps (by omega) (by first | (go_simp; done) | assumption)
    have k8_10 : w8.cell? ⟨w4.heap.size, 4, none⟩ = some (.int .i64 vc) := or8.keeps (by omega) (by first | (go_simp; done) | assumption)
    have k8_11 : w8.cell? ⟨w4.heap.size, 5, none⟩ = some (.int .i64 0) := or8.keeps (by omega) (by first | (go_simp; done) | assumption)
    have f8_0 : w8.frozen? ⟨w.heap.size, 0, none⟩ = false := or8.free (by omega) (by first | omega | (simp; done) | (simp; omega)) (by first | (go_simp; done) | assumption)
    have f8_1 : w8.frozen? ⟨w.heap.size, 1, none⟩ = false := or8.free (by omega) (by first | omega | (simp; done) | (simp; omega)) (by first | (go_simp; done) | assumption)
    have f8_2 : w8.frozen? ⟨w.heap.size, 2, none⟩ = false := or8.free (by omega) (by first | omega | (simp; done) | (simp; omega)) (by first | (go_simp; done) | assumption)
    have f8_3 : w8.frozen? ⟨w.heap.size, 3, none⟩ = false := or8.free (by omega) (by first | omega | (simp; done) | (simp; omega)) (by first | (go_simp; done) | assumption)
    have f8_4 : w8.frozen? ⟨w.heap.size, 4, none⟩ = false := or8.free (by omega) (by first | omega | (simp; done) | (simp; omega)) (by first | (go_simp; done) | assumption)
    have f8_5 : w8.frozen? ⟨w.heap.size, 5, none⟩ = false := or8.free (by omega) (by first | omega | (simp; done) | (simp; omega)) (by first | (go_simp; done) | assumption)
    have f8_6 : w8.frozen? ⟨w4.heap.size, 0, none⟩ = false := or8.free (by omega) (by first | omega | (simp; done) | (simp; omega)) (by first | (go_simp; done) | assumption)
    have f8_7 : w8.frozen? ⟨w4.heap.size, 1, none⟩ = false := or8.free (by omega) (by first | omega | (simp; done) | (simp; omega)) (by first | (go_simp; done) | assumption)
    have f8_8 : w8.frozen? ⟨w4.heap.size, 2, none⟩ = false := or8.free (by omega) (by first | omega | (simp; done) | (simp; omega)) (by first | (go_simp; done) | assumption)
    have f8_9 : w8.frozen? ⟨w4.heap.size, 3, none⟩ = false := or8.free (by omega) (by first | omega | (simp; done) | (simp; omega)) (by first | (go_simp; done) | assumption)
    have f8_10 : w8.frozen? ⟨w4.heap.size, 4, none⟩ = false := or8.free (by omega) (by first | omega | (simp; done) | (simp; omega)) (by first | (go_simp; done) | assumption)
    have f8_11 : w8.frozen? ⟨w4.heap.size, 5, none⟩ = false := or8.free (by omega) (by first | omega | (simp; done) | (simp; omega)) (by first | (go_simp; done) | assumption)
    clear k7_0 k7_1 k7_2 k7_3 k7_4 k7_5 k7_6 k7_7 k7_8 k7_9 k7_10 k7_11 f7_0 f7_1 f7_2 f7_3 f7_4 f7_5 f7_6 f7_7 f7_8 f7_9 f7_10 f7_11
    have hp : plainS ⟨2, vd, va2, vb, vc, vn⟩ = ⟨2, vd, va2, 0, 0, vn⟩ := by simp [plainS, inB]
    have hok : plain1 ⟨2, vd, va2, 0, 0, vn⟩ := by refine ⟨?_, by simp, by simp⟩; simp [stOk, inB]; try omega
    go_wp2_with fail
    refine (l08Plain_any ⟨2, vd, va2, vb, vc, vn⟩ _).mono ?_
    rw [hp]
    rintro e w9 ⟨rfl, hb9⟩
    have z9 := hb9.size
    (try simp at z9)
    have y9_0 : w.heap.size < w9.heap.size := (by omega)
    have y9_1 : w4.heap.size < w9.heap.size := (by omega)
    have k9_0 := bel_keeps hb9 (b := w.heap.size) (o := 0) (v := .int .i64 0) (by first | (go_simp; done) | assumption)
    have k9_1 := bel_keeps hb9 (b := w.heap.size) (o := 1) (v := .int .i64 0) (by first | (go_simp; done) | assumption)
    have k9_2 := bel_keeps hb9 (b := w.heap.size) (o := 2) (v := .int .i64 0) (by first | (go_simp; done) | assumption)
    have k9_3 := bel_keeps hb9 (b := w.heap.size) (o := 3) (v := .int .i64 0) (by first | (go_simp; done) | assumption)
    have k9_4 := bel_keeps hb9 (b := w.heap.size) (o := 4) (v := .int .i64 0) (by first | (go_simp; done) | assumption)
    have k9_5 := bel_keeps hb9 (b := w.heap.size) (o := 5) (v := .int .i64 0) (by first | (go_simp; done) | assumption)
    have k9_6 := bel_keeps hb9 (b := w4.heap.size) (o := 0) (v := .int .i64 2) (by first | (go_simp; done) | assumption)
    have k9_7 := bel_keeps hb9 (b := w4.heap.size) (o := 1) (v := .int .i64 vd) (by first | (go_simp; done) | assumption)
    have k9_8 := bel_keeps hb9 (b := w4.heap.size) (o := 2) (v := .int .i64 va2) (by first | (go_simp; done) | assumption)
    have k9_9 := bel_keeps hb9 (b := w4.heap.size) (o := 3) (v := .int .i64 vb) (by first | (go_simp; done) | assumption)
    have k9_10 := bel_keeps hb9 (b := w4.heap.size) (o := 4) (v := .int .i64 vc) (by first | (go_simp; done) | assumption)
    have k9_11 := bel_keeps hb9 (b := w4.heap.size) (o := 5) (v := .int .i64 vn) (by first | (go_simp; done) | assumption)
    have f9_0 := bel_free hb9 (b := w.heap.size) (o := 0) (by first | omega | (simp; done) | (simp; omega)) (by first | (go_simp; done) | assumption)
    have f9_1 := bel_free hb9 (b := w.heap.size) (o := 1) (by first | omega | (simp; done) | (simp; omega)) (by first | (go_simp; done) | assumption)
    have f9_2 := bel_free hb9 (b := w.heap.size) (o := 2) (by first | omega | (simp; done) | (simp; omega)) (by first | (go_simp; done) | assumption)
    have f9_3 := bel_free hb9 (b := w.heap.size) (o := 3) (by first | omega | (simp; done) | (simp; omega)) (by first | (go_simp; done) | assumption)
    have f9_4 := bel_free hb9 (b := w.heap.size) (o := 4) (by first | omega | (simp; done) | (simp; omega)) (by first | (go_simp; done) | assumption)
    have f9_5 := bel_free hb9 (b := w.heap.size) (o := 5) (by first | omega | (simp; done) | (simp; omega)) (by first | (go_simp; done) | assumption)
    have f9_6 := bel_free hb9 (b := w4.heap.size) (o := 0) (by first | omega | (simp; done) | (simp; omega)) (by first | (go_simp; done) | assumption)
    have f9_7 := bel_free hb9 (b := w4.heap.size) (o := 1) (by first | omega | (simp; done) | (simp; omega)) (by first | (go_simp; done) | assumption)
    have f9_8 := bel_free hb9 (b := w4.heap.size) (o := 2) (by first | omega | (simp; done) | (simp; omega)) (by first | (go_simp; done) | assumption)
    have f9_9 := bel_free hb9 (b := w4.heap.size) (o := 3) (by first | omega | (simp; done) | (simp; omega)) (by first | (go_simp; done) | assumption)
    have f9_10 := bel_free hb9 (b := w4.heap.size) (o := 4) (by first | omega | (simp; done) | (simp; omega)) (by first | (go_simp; done) | assumption)
    have f9_11 := bel_free hb9 (b := w4.heap.size) (o := 5) (by first | omega | (simp; done) | (simp; omega)) (by first | (go_simp; done) | assumption)
    clear k8_0 k8_1 k8_2 k8_3 k8_4 k8_5 k8_6 k8_7 k8_8 k8_9 k8_10 k8_11 f8_0 f8_1 f8_2 f8_3 f8_4 f8_5 f8_6 f8_7 f8_8 f8_9 f8_10 f8_11
    unfold stV
    go_wp2_with fail
    refine bodyPost_ret (v := .agg #[.int .i64 (2), .int .i64 (vd), .int .i64 (va2), .int .i64 (0), .int .i64 (0), .int .i64 (vn)]) (by simp [results, Try.results120, go_sem, k9_0, k9_1, k9_2, k9_3, k9_4, k9_5, f9_0, f9_1, f9_2, f9_3, f9_4, f9_5]) rfl ⟨⟨2, vd, va2, 0, 0, vn⟩, rfl, hok, hd8.keep fun q hq => (by (repeat (first | with_reducible exact Kp.refl _ _ | (with_reducible refine Kp.rng ?_ (by assumption) ?_) | (with_reducible refine Kp.below ?_ (by assumption)) | (with_reducible refine Kp.grown ?_ (by assumption) ?_) | (with_reducible refine Kp.alloc ?_ _) | (with_reducible refine Kp.drew ?_) | (with_reducible refine Kp.drewN ?_ _) | (with_reducible refine Kp.setCell ?_ _ ?_))) <;> (first | omega | (simp; done) | (simp; omega))), ⟨(by (repeat (first | with_reducible exact Below.refl _ _ | (with_reducible refine bel_next ?_ ?_ (by assumption)) | (with_reducible refine Below.alloc ?_ ?_ _) | (with_reducible refine Below.drew ?_) | (with_reducible refine below_drewN ?_ _) | (with_reducible refine Below.setCell ?_ ?_ _))) <;> (first | omega | (simp; done) | (simp; omega))), fun q hq => Kp.of_lt fun hql => (by (repeat (first | with_reducible exact Kp.refl _ _ | (with_reducible refine Kp.rng ?_ (by assumption) ?_) | (with_reducible refine Kp.below ?_ (by assumption)) | (with_reducible refine Kp.grown ?_ (by assumption) ?_) | (with_reducible refine Kp.alloc ?_ _) | (with_reducible refine Kp.drew ?_) | (with_reducible refine Kp.drewN ?_ _) | (with_reducible refine Kp.setCell ?_ _ ?_))) <;> (first | omega | (simp; done) | (simp; omega)))⟩⟩
  ·
    go_wp2_with fail
    refine (below_dr g xs ad c 3 _ (hd6.keep fun q hq => (by (repeat (first | with_reducible exact Kp.refl _ _ | (with_reducible refine Kp.rng ?_ (by assumption) ?_) | (with_reducible refine Kp.below ?_ (by assumption)) | (with_reducible refine Kp.grown ?_ (by assumption) ?_) | (with_reducible refine Kp.alloc ?_ _) | (with_reducible refine Kp.drew ?_) | (with_reducible refine Kp.drewN ?_ _) | (with_reducible refine Kp.setCell ?_ _ ?_))) <;> (first | omega | (simp; done) | (simp; omega))))).mono ?_
    rintro e w7 ⟨va2, rfl, va20, va21, _, hd7, ob7, or7⟩
    have va21 := va21 (by omega)
    have z7 := ob7.size
    (try simp at z7)
    have y7_0 : w.heap.size < w7.heap.size := (by omega)
    have y7_1 : w4.heap.size < w7.heap.size := (by omega)
    have k7_0 : w7.cell? ⟨w.heap.size, 0, none⟩ = some (.int .i64 0) := or7.keeps (by omega) (by first | (go_simp; done) | assumption)
    have k7_1 : w7.cell? ⟨w.heap.size, 1, none⟩ = some (.int .i64 0) := or7.keeps (by omega) (by first | (go_simp; done) | assumption)
    have k7_2 : w7.cell? ⟨w.heap.size, 2, none⟩ = some (.int .i64 0) := or7.keeps (by omega) (by first | (go_simp; done) | assumption)
    have k7_3 : w7.cell? ⟨w.heap.size, 3, none⟩ = some (.int .i64 0) := or7.keeps (by omega) (by first | (go_simp; done) | assumption)
    have k7_4 : w7.cell? ⟨w.heap.size, 4, none⟩ = some (.int .i64 0) := or7.keeps (by omega) (by first | (go_simp; done) | assumption)
    have k7_5 : w7.cell? ⟨w.heap.size, 5, none⟩ = some (.int .i64 0) := or7.keeps (by omega) (by first | (go_simp; done) | assumption)
    have k7_6 : w7.cell? ⟨w4.heap.size, 0, none⟩ = some (.int .i64 2) := or7.keeps (by omega) (by first | (go_simp; done) | assumption)
    have k7_7 : w7.cell? ⟨w4.heap.size, 1, none⟩ = some (.int .i64 vd) := or7.keeps (by omega) (by first | (go_simp; done) | assumption)
    have k7_8 : w7.cell? ⟨w4.heap.size, 2, none⟩ = some (.int .i64 va) := or7.keeps (by omega) (by first | (go_simp; done) | assumption)
    have k7_9 : w7.cell? ⟨w4.heap.size, 3, none⟩ = some (.int .i64 vb) := or7.keeps (by omega) (by first | (go_simp; done) | assumption)
    have k7_10 : w7.cell? ⟨w4.heap.size, 4, none⟩ = some (.int .i64 vc) := or7.keeps (by omega) (by first | (go_simp; done) | assumption)
    have k7_11 : w7.cell? ⟨w4.heap.size, 5, none⟩ = some (.int .i64 0) := or7.keeps (by omega) (by first | (go_simp; done) | assumption)
    have f7_0 : w7.frozen? ⟨w.heap.size, 0, none⟩ = false := or7.free (by omega) (by first | omega | (simp; done) | (simp; omega)) (by first | (go_simp; done) | assumption)
    have f7_1 : w7.frozen? ⟨w.heap.size, 1, none⟩ = false := or7.free (by omega) (by first | omega | (simp; done) | (simp; omega)) (by first | (go_simp; done) | assumption)
    have f7_2 : w7.frozen? ⟨w.heap.size, 2, none⟩ = false := or7.free (by omega) (by first | omega | (simp; done) | (simp; omega)) (by first | (go_simp; done) | assumption)
    have f7_3 : w7.frozen? ⟨w.heap.size, 3, none⟩ = false := or7.free (by omega) (by first | omega | (simp; done) | (simp; omega)) (by first | (go_simp; done) | assumption)
    have f7_4 : w7.frozen? ⟨w.heap.size, 4, none⟩ = false := or7.free (by omega) (by first | omega | (simp; done) | (simp; omega)) (by first | (go_simp; done) | assumption)
    have f7_5 : w7.frozen? ⟨w.heap.size, 5, none⟩ = false := or7.free (by omega) (by first | omega | (simp; done) | (simp; omega)) (by first | (go_simp; done) | assumption)
    have f7_6 : w7.frozen? ⟨w4.heap.size, 0, none⟩ = false := or7.free (by omega) (by first | omega | (simp; done) | (simp; omega)) (by first | (go_simp; done) | assumption)
    have f7_7 : w7.frozen? ⟨w4.heap.size, 1, none⟩ = false := or7.free (by omega) (by first | omega | (simp; done) | (simp; omega)) (by first | (go_simp; done) | assumption)
    have f7_8 : w7.frozen? ⟨w4.heap.size, 2, none⟩ = false := or7.free (by omega) (by first | omega | (simp; done) | (simp; omega)) (by first | (go_simp; done) | assumption)
    have f7_9 : w7.frozen? ⟨w4.heap.size, 3, none⟩ = false := or7.free (by omega) (by first | omega | (simp; done) | (simp; omega)) (by first | (go_simp; done) | assumption)
    have f7_10 : w7.frozen? ⟨w4.heap.size, 4, none⟩ = false := or7.free (by omega) (by first | omega | (simp; done) | (simp; omega)) (by first | (go_simp; done) | assumption)
    have f7_11 : w7.frozen? ⟨w4.heap.size, 5, none⟩ = false := or7.free (by omega) (by first | omega | (simp; done) | (simp; omega)) (by first | (go_simp; done) | assumption)
    clear k6_0 k6_1 k6_2 k6_3 k6_4 k6_5 k6_6 k6_7 k6_8 k6_9 k6_10 k6_11 f6_0 f6_1 f6_2 f6_3 f6_4 f6_5 f6_6 f6_7 f6_8 f6_9 f6_10 f6_11
    go_wp2_with fail
    refine (below_dr g xs ad c 2 _ (hd7.keep fun q hq => (by (repeat (first | with_reducible exact Kp.refl _ _ | (with_reducible refine Kp.rng ?_ (by assumption) ?_) | (with_reducible refine Kp.below ?_ (by assumption)) | (with_reducible refine Kp.grown ?_ (by assumption) ?_) | (with_reducible refine Kp.alloc ?_ _) | (with_reducible refine Kp.drew ?_) | (with_reducible refine Kp.drewN ?_ _) | (with_reducible refine Kp.setCell ?_ _ ?_))) <;> (first | omega | (simp; done) | (simp; omega))))).mono ?_
    rintro e w8 ⟨vn, rfl, vn0, vn1, _, hd8, ob8, or8⟩
    have vn1 := vn1 (by omega)
    have z8 := ob8.size
    (try simp at z8)
    have y8_0 : w.heap.size < w8.heap.size := (by omega)
    have y8_1 : w4.heap.size < w8.heap.size := (by omega)
    have k8_0 : w8.cell? ⟨w.heap.size, 0, none⟩ = some (.int .i64 0) := or8.keeps (by omega) (by first | (go_simp; done) | assumption)
    have k8_1 : w8.cell? ⟨w.heap.size, 1, none⟩ = some (.int .i64 0) := or8.keeps (by omega) (by first | (go_simp; done) | assumption)
    have k8_2 : w8.cell? ⟨w.heap.size, 2, none⟩ = some (.int .i64 0) := or8.keeps (by omega) (by first | (go_simp; done) | assumption)
    have k8_3 : w8.cell? ⟨w.heap.size, 3, none⟩ = some (.int .i64 0) := or8.keeps (by omega) (by first | (go_simp; done) | assumption)
    have k8_4 : w8.cell? ⟨w.heap.size, 4, none⟩ = some (.int .i64 0) := or8.keeps (by omega) (by first | (go_simp; done) | assumption)
    have k8_5 : w8.cell? ⟨w.heap.size, 5, none⟩ = some (.int .i64 0) := or8.keeps (by omega) (by first | (go_simp; done) | assumption)
    have k8_6 : w8.cell? ⟨w4.heap.size, 0, none⟩ = some (.int .i64 2) := or8.keeps (by omega) (by first | (go_simp; done) | assumption)
    have k8_7 : w8.cell? ⟨w4.heap.size, 1, none⟩ = some (.int .i64 vd) := or8.keeps (by omega) (by first | (go_simp; done) | assumption)
    have k8_8 : w8.cell? ⟨w4.heap.size, 2, none⟩ = some (.int .i64 va2) := or8.keeps (by omega) (by first | (go_simp; done) | assumption)
    have k8_9 : w8.cell? ⟨w4.heap.size, 3, none⟩ = some (.int .i64 vb) := or8.keeps (by omega) (by first | (go_simp; done) | assumption)
    have k8_10 : w8.cell? ⟨w4.heap.size, 4, none⟩ = some (.int .i64 vc) := or8.keeps (by omega) (by first | (go_simp; done) | assumption)
    have k8_11 : w8.cell? ⟨w4.heap.size, 5, none⟩ = some (.int .i64 0) := or8.keeps (by omega) (by first | (go_simp; done) | assumption)
    have f8_0 : w8.frozen? ⟨w.heap.size, 0, none⟩ = false := or8.free (by omega) (by first | omega | (simp; done) | (simp; omega)) (by first | (go_simp; done) | assumption)
    have f8_1 : w8.frozen? ⟨w.heap.size, 1, none⟩ = false := or8.free (by omega) (by first | omega | (simp; done) | (simp; omega)) (by first | (go_simp; done) | assumption)
    have f8_2 : w8.frozen? ⟨w.heap.size, 2, none⟩ = false := or8.free (by omega) (by first | omega | (simp; done) | (simp; omega)) (by first | (go_simp; done) | assumption)
    have f8_3 : w8.frozen? ⟨w.heap.size, 3, none⟩ = false := or8.free (by omega) (by first | omega | (simp; done) | (simp; omega)) (by first | (go_simp; done) | assumption)
    have f8_4 : w8.frozen? ⟨w.heap.size, 4, none⟩ = false := or8.free (by omega) (by first | omega | (simp; done) | (simp; omega)) (by first | (go_simp; done) | assumption)
    have f8_5 : w8.frozen? ⟨w.heap.size, 5, none⟩ = false := or8.free (by omega) (by first | omega | (simp; done) | (simp; omega)) (by first | (go_simp; done) | assumption)
    have f8_6 : w8.frozen? ⟨w4.heap.size, 0, none⟩ = false := or8.free (by omega) (by first | omega | (simp; done) | (simp; omega)) (by first | (go_simp; done) | assumption)
    have f8_7 : w8.frozen? ⟨w4.heap.size, 1, none⟩ = false := or8.free (by omega) (by first | omega | (simp; done) | (simp; omega)) (by first | (go_simp; done) | assumption)
    have f8_8 : w8.frozen? ⟨w4.heap.size, 2, none⟩ = false := or8.free (by omega) (by first | omega | (simp; done) | (simp; omega)) (by first | (go_simp; done) | assumption)
    have f8_9 : w8.frozen? ⟨w4.heap.size, 3, none⟩ = false := or8.free (by omega) (by first | omega | (simp; done) | (simp; omega)) (by first | (go_simp; done) | assumption)
    have f8_10 : w8.frozen? ⟨w4.heap.size, 4, none⟩ = false := or8.free (by omega) (by first | omega | (simp; done) | (simp; omega)) (by first | (go_simp; done) | assumption)
    have f8_11 : w8.frozen? ⟨w4.heap.size, 5, none⟩ = false := or8.free (by omega) (by first | omega | (simp; done) | (simp; omega)) (by first | (go_simp; done) | assumption)
    clear k7_0 k7_1 k7_2 k7_3 k7_4 k7_5 k7_6 k7_7 k7_8 k7_9 k7_10 k7_11 f7_0 f7_1 f7_2 f7_3 f7_4 f7_5 f7_6 f7_7 f7_8 f7_9 f7_10 f7_11
    have hp : plainS ⟨2, vd, va2, vb, vc, vn⟩ = ⟨2, vd, va2, 0, 0, vn⟩ := by simp [plainS, inB]
    have hok : plain1 ⟨2, vd, va2, 0, 0, vn⟩ := by refine ⟨?_, by simp, by simp⟩; simp [stOk, inB]; try omega
    go_wp2_with fail
    refine (l08Plain_any ⟨2, vd, va2, vb, vc, vn⟩ _).mono ?_
    rw [hp]
    rintro e w9 ⟨rfl, hb9⟩
    have z9 := hb9.size
    (try simp at z9)
    have y9_0 : w.heap.size < w9.heap.size := (by omega)
    have y9_1 : w4.heap.size < w9.heap.size := (by omega)
    have k9_0 := bel_keeps hb9 (b := w.heap.size) (o := 0) (v := .int .i64 0) (by first | (go_simp; done) | assumption)
    have k9_1 := bel_keeps hb9 (b := w.heap.size) (o := 1) (v := .int .i64 0) (by first | (go_simp; done) | assumption)
    have k9_2 := bel_keeps hb9 (b := w.heap.size) (o := 2) (v := .int .i64 0) (by first | (go_simp; done) | assumption)
    have k9_3 := bel_keeps hb9 (b := w.heap.size) (o := 3) (v := .int .i64 0) (by first | (go_simp; done) | assumption)
    have k9_4 := bel_keeps hb9 (b := w.heap.size) (o := 4) (v := .int .i64 0) (by first | (go_simp; done) | assumption)
    have k9_5 := bel_keeps hb9 (b := w.heap.size) (o := 5) (v := .int .i64 0) (by first | (go_simp; done) | assumption)
    have k9_6 := bel_keeps hb9 (b := w4.heap.size) (o := 0) (v := .int .i64 2) (by first | (go_simp; done) | assumption)
    have k9_7 := bel_keeps hb9 (b := w4.heap.size) (o := 1) (v := .int .i64 vd) (by first | (go_simp; done) | assumption)
    have k9_8 := bel_keeps hb9 (b := w4.heap.size) (o := 2) (v := .int .i64 va2) (by first | (go_simp; done) | assumption)
    have k9_9 := bel_keeps hb9 (b := w4.heap.size) (o := 3) (v := .int .i64 vb) (by first | (go_simp; done) | assumption)
    have k9_10 := bel_keeps hb9 (b := w4.heap.size) (o := 4) (v := .int .i64 vc) (by first | (go_simp; done) | assumption)
    have k9_11 := bel_keeps hb9 (b := w4.heap.size) (o := 5) (v := .int .i64 vn) (by first | (go_simp; done) | assumption)
    have f9_0 := bel_free hb9 (b := w.heap.size) (o := 0) (by first | omega | (simp; done) | (simp; omega)) (by first | (go_simp; done) | assumption)
    have f9_1 := bel_free hb9 (b := w.heap.size) (o := 1) (by first | omega | (simp; done) | (simp; omega)) (by first | (go_simp; done) | assumption)
    have f9_2 := bel_free hb9 (b := w.heap.size) (o := 2) (by first | omega | (simp; done) | (simp; omega)) (by first | (go_simp; done) | assumption)
    have f9_3 := bel_free hb9 (b := w.heap.size) (o := 3) (by first | omega | (simp; done) | (simp; omega)) (by first | (go_simp; done) | assumption)
    have f9_4 := bel_free hb9 (b := w.heap.size) (o := 4) (by first | omega | (simp; done) | (simp; omega)) (by first | (go_simp; done) | assumption)
    have f9_5 := bel_free hb9 (b := w.heap.size) (o := 5) (by first | omega | (simp; done) | (simp; omega)) (by first | (go_simp; done) | assumption)
    have f9_6 := bel_free hb9 (b := w4.heap.size) (o := 0) (by first | omega | (simp; done) | (simp; omega)) (by first | (go_simp; done) | assumption)
    have f9_7 := bel_free hb9 (b := w4.heap.size) (o := 1) (by first | omega | (simp; done) | (simp; omega)) (by first | (go_simp; done) | assumption)
    have f9_8 := bel_free hb9 (b := w4.heap.size) (o := 2) (by first | omega | (simp; done) | (simp; omega)) (by first | (go_simp; done) | assumption)
    have f9_9 := bel_free hb9 (b := w4.heap.size) (o := 3) (by first | omega | (simp; done) | (simp; omega)) (by first | (go_simp; done) | assumption)
    have f9_10 := bel_free hb9 (b := w4.heap.size) (o := 4) (by first | omega | (simp; done) | (simp; omega)) (by first | (go_simp; done) | assumption)
    have f9_11 := bel_free hb9 (b := w4.heap.size) (o := 5) (by first | omega | (simp; done) | (simp; omega)) (by first | (go_simp; done) | assumption)
    clear k8_0 k8_1 k8_2 k8_3 k8_4 k8_5 k8_6 k8_7 k8_8 k8_9 k8_10 k8_11 f8_0 f8_1 f8_2 f8_3 f8_4 f8_5 f8_6 f8_7 f8_8 f8_9 f8_10 f8_11
    unfold stV
    go_wp2_with fail
    refine bodyPost_ret (v := .agg #[.int .i64 (2), .int .i64 (vd), .int .i64 (va2), .int .i64 (0), .int .i64 (0), .int .i64 (vn)]) (by simp [results, Try.results120, go_sem, k9_0, k9_1, k9_2, k9_3, k9_4, k9_5, f9_0, f9_1, f9_2, f9_3, f9_4, f9_5]) rfl ⟨⟨2, vd, va2, 0, 0, vn⟩, rfl, hok, hd8.keep fun q hq => (by (repeat (first | with_reducible exact Kp.refl _ _ | (with_reducible refine Kp.rng ?_ (by assumption) ?_) | (with_reducible refine Kp.below ?_ (by assumption)) | (with_reducible refine Kp.grown ?_ (by assumption) ?_) | (with_reducible refine Kp.alloc ?_ _) | (with_reducible refine Kp.drew ?_) | (with_reducible refine Kp.drewN ?_ _) | (with_reducible refine Kp.setCell ?_ _ ?_))) <;> (first | omega | (simp; done) | (simp; omega))), ⟨(by (repeat (first | with_reducible exact Below.refl _ _ | (with_reducible refine bel_next ?_ ?_ (by assumption)) | (with_reducible refine Below.alloc ?_ ?_ _) | (with_reducible refine Below.drew ?_) | (with_reducible refine below_drewN ?_ _) | (with_reducible refine Below.setCell ?_ ?_ _))) <;> (first | omega | (simp; done) | (simp; omega))), fun q hq => Kp.of_lt fun hql => (by (repeat (first | with_reducible exact Kp.refl _ _ | (with_reducible refine Kp.rng ?_ (by assumption) ?_) | (with_reducible refine Kp.below ?_ (by assumption)) | (with_reducible refine Kp.grown ?_ (by assumption) ?_) | (with_reducible refine Kp.alloc ?_ _) | (with_reducible refine Kp.drew ?_) | (with_reducible refine Kp.drewN ?_ _) | (with_reducible refine Kp.setCell ?_ _ ?_))) <;> (first | omega | (simp; done) | (simp; omega)))⟩⟩
  ·
    have hp : plainS ⟨10, vd, va, vb, vc, 0⟩ = ⟨10, vd, va, vb, vc, 0⟩ := by simp [plainS, inB]
    have hok : plain1 ⟨10, vd, va, vb, vc, 0⟩ := by refine ⟨?_, by simp, by simp⟩; simp [stOk, inB]; try omega
    go_wp2_with fail
    refine (l08Plain_any ⟨10, vd, va, vb, vc, 0⟩ _).mono ?_
    rw [hp]
    rintro e w7 ⟨rfl, hb7⟩
    have z7 := hb7.size
    (try simp at z7)
    have y7_0 : w.heap.size < w7.heap.size := (by omega)
    have y7_1 : w4.heap.size < w7.heap.size := (by omega)
    have k7_0 := bel_keeps hb7 (b := w.heap.size) (o := 0) (v := .int .i64 0) (by first | (go_simp; done) | assumption)
    have k7_1 := bel_keeps hb7 (b := w.heap.size) (o := 1) (v := .int .i64 0) (by first | (go_simp; done) | assumption)
    have k7_2 := bel_keeps hb7 (b := w.heap.size) (o := 2) (v := .int .i64 0) (by first | (go_simp; done) | assumption)
    have k7_3 := bel_keeps hb7 (b := w.heap.size) (o := 3) (v := .int .i64 0) (by first | (go_simp; done) | assumption)
    have k7_4 := bel_keeps hb7 (b := w.heap.size) (o := 4) (v := .int .i64 0) (by first | (go_simp; done) | assumption)
    have k7_5 := bel_keeps hb7 (b := w.heap.size) (o := 5) (v := .int .i64 0) (by first | (go_simp; done) | assumption)
    have k7_6 := bel_keeps hb7 (b := w4.heap.size) (o := 0) (v := .int .i64 10) (by first | (go_simp; done) | assumption)
    have k7_7 := bel_keeps hb7 (b := w4.heap.size) (o := 1) (v := .int .i64 vd) (by first | (go_simp; done) | assumption)
    have k7_8 := bel_keeps hb7 (b := w4.heap.size) (o := 2) (v := .int .i64 va) (by first | (go_simp; done) | assumption)
    have k7_9 := bel_keeps hb7 (b := w4.heap.size) (o := 3) (v := .int .i64 vb) (by first | (go_simp; done) | assumption)
    have k7_10 := bel_keeps hb7 (b := w4.heap.size) (o := 4) (v := .int .i64 vc) (by first | (go_simp; done) | assumption)
    have k7_11 := bel_keeps hb7 (b := w4.heap.size) (o := 5) (v := .int .i64 0) (by first | (go_simp; done) | assumption)
    have f7_0 := bel_free hb7 (b := w.heap.size) (o := 0) (by first | omega | (simp; done) | (simp; omega)) (by first | (go_simp; done) | assumption)
    have f7_1 := bel_free hb7 (b := w.heap.size) (o := 1) (by first | omega | (simp; done) | (simp; omega)) (by first | (go_simp; done) | assumption)
    have f7_2 := bel_free hb7 (b := w.heap.size) (o := 2) (by first | omega | (simp; done) | (simp; omega)) (by first | (go_simp; done) | assumption)
    have f7_3 := bel_free hb7 (b := w.heap.size) (o := 3) (by first | omega | (simp; done) | (simp; omega)) (by first | (go_simp; done) | assumption)
    have f7_4 := bel_free hb7 (b := w.heap.size) (o := 4) (by first | omega | (simp; done) | (simp; omega)) (by first | (go_simp; done) | assumption)
    have f7_5 := bel_free hb7 (b := w.heap.size) (o := 5) (by first | omega | (simp; done) | (simp; omega)) (by first | (go_simp; done) | assumption)
    have f7_6 := bel_free hb7 (b := w4.heap.size) (o := 0) (by first | omega | (simp; done) | (simp; omega)) (by first | (go_simp; done) | assumption)
    have f7_7 := bel_free hb7 (b := w4.heap.size) (o := 1) (by first | omega | (simp; done) | (simp; omega)) (by first | (go_simp; done) | assumption)
    have f7_8 := bel_free hb7 (b := w4.heap.size) (o := 2) (by first | omega | (simp; done) | (simp; omega)) (by first | (go_simp; done) | assumption)
    have f7_9 := bel_free hb7 (b := w4.heap.size) (o := 3) (by first | omega | (simp; done) | (simp; omega)) (by first | (go_simp; done) | assumption)
    have f7_10 := bel_free hb7 (b := w4.heap.size) (o := 4) (by first | omega | (simp; done) | (simp; omega)) (by first | (go_simp; done) | assumption)
    have f7_11 := bel_free hb7 (b := w4.heap.size) (o := 5) (by first | omega | (simp; done) | (simp; omega)) (by first | (go_simp; done) | assumption)
    clear k6_0 k6_1 k6_2 k6_3 k6_4 k6_5 k6_6 k6_7 k6_8 k6_9 k6_10 k6_11 f6_0 f6_1 f6_2 f6_3 f6_4 f6_5 f6_6 f6_7 f6_8 f6_9 f6_10 f6_11
    unfold stV
    go_wp2_with fail
    refine bodyPost_ret (v := .agg #[.int .i64 (10), .int .i64 (vd), .int .i64 (va), .int .i64 (vb), .int .i64 (vc), .int .i64 (0)]) (by simp [results, Try.results120, go_sem, k7_0, k7_1, k7_2, k7_3, k7_4, k7_5, f7_0, f7_1, f7_2, f7_3, f7_4, f7_5]) rfl ⟨⟨10, vd, va, vb, vc, 0⟩, rfl, hok, hd6.keep fun q hq => (by (repeat (first | with_reducible exact Kp.refl _ _ | (with_reducible refine Kp.rng ?_ (by assumption) ?_) | (with_reducible refine Kp.below ?_ (by assumption)) | (with_reducible refine Kp.grown ?_ (by assumption) ?_) | (with_reducible refine Kp.alloc ?_ _) | (with_reducible refine Kp.drew ?_) | (with_reducible refine Kp.drewN ?_ _) | (with_reducible refine Kp.setCell ?_ _ ?_))) <;> (first | omega | (simp; done) | (simp; omega))), ⟨(by (repeat (first | with_reducible exact Below.refl _ _ | (with_reducible refine bel_next ?_ ?_ (by assumption)) | (with_reducible refine Below.alloc ?_ ?_ _) | (with_reducible refine Below.drew ?_) | (with_reducible refine below_drewN ?_ _) | (with_reducible refine Below.setCell ?_ ?_ _))) <;> (first | omega | (simp; done) | (simp; omega))), fun q hq => Kp.of_lt fun hql => (by (repeat (first | with_reducible exact Kp.refl _ _ | (with_reducible refine Kp.rng ?_ (by assumption) ?_) | (with_reducible refine Kp.below ?_ (by assumption)) | (with_reducible refine Kp.grown ?_ (by assumption) ?_) | (with_reducible refine Kp.alloc ?_ _) | (with_reducible refine Kp.drew ?_) | (with_reducible refine Kp.drewN ?_ _) | (with_reducible refine Kp.setCell ?_ _ ?_))) <;> (first | omega | (simp; done) | (simp; omega)))⟩⟩
  ·
    have hp : plainS ⟨11, vd, va, vb, vc, 0⟩ = ⟨11, 0, va, 0, 0, 0⟩ := by simp [plainS, inB]
    have hok : plain1 ⟨11, 0, va, 0, 0, 0⟩ := by refine ⟨?_, by simp, by simp⟩; simp [stOk, inB]; try omega
    go_wp2_with fail
    refine (l08Plain_any ⟨11, vd, va, vb, vc, 0⟩ _).mono ?_
    rw [hp]
    rintro e w7 ⟨rfl, hb7⟩
    have z7 := hb7.size
    (try simp at z7)
    have y7_0 : w.heap.size < w7.heap.size := (by omega)
    have y7_1 : w4.heap.size < w7.heap.size := (by omega)
    have k7_0 := bel_keeps hb7 (b := w.heap.size) (o := 0) (v := .int .i64 0) (by first | (go_simp; done) | assumption)
    have k7_1 := bel_keeps hb7 (b := w.heap.size) (o := 1) (v := .int .i64 0) (by first | (go_simp; done) | assumption)
    have k7_2 := bel_keeps hb7 (b := w.heap.size) (o := 2) (v := .int .i64 0) (by first | (go_simp; done) | assumption)
    have k7_3 := bel_keeps hb7 (b := w.heap.size) (o := 3) (v := .int .i64 0) (by first | (go_simp; done) | assumption)
    have k7_4 := bel_keeps hb7 (b := w.heap.size) (o := 4) (v := .int .i64 0) (by first | (go_simp; done) | assumption)
    have k7_5 := bel_keeps hb7 (b := w.heap.size) (o := 5) (v := .int .i64 0) (by first | (go_simp; done) | assumption)
    have k7_6 := bel_keeps hb7 (b := w4.heap.size) (o := 0) (v := .int .i64 11) (by first | (go_simp; done) | assumption)
    have k7_7 := bel_keeps hb7 (b := w4.heap.size) (o := 1) (v := .int .i64 vd) (by first | (go_simp; done) | assumption)
    have k7_8 := bel_keeps hb7 (b := w4.heap.size) (o := 2) (v := .int .i64 va) (by first | (go_simp; done) | assumption)
    have k7_9 := bel_keeps hb7 (b := w4.heap.size) (o := 3) (v := .int .i64 vb) (by first | (go_simp; done) | assumption)
    have k7_10 := bel_keeps hb7 (b := w4.heap.size) (o := 4) (v := .int .i64 vc) (by first | (go_simp; done) | assumption)
    have k7_11 := bel_keeps hb7 (b := w4.heap.size) (o := 5) (v := .int .i64 0) (by first | (go_simp; done) | assumption)
    have f7_0 := bel_free hb7 (b := w.heap.size) (o := 0) (by first | omega | (simp; done) | (simp; omega)) (by first | (go_simp; done) | assumption)
    have f7_1 := bel_free hb7 (b := w.heap.size) (o := 1) (by first | omega | (simp; done) | (simp; omega)) (by first | (go_simp; done) | assumption)
    have f7_2 := bel_free hb7 (b := w.heap.size) (o := 2) (by first | omega | (simp; done) | (simp; omega)) (by first | (go_simp; done) | assumption)
    have f7_3 := bel_free hb7 (b := w.heap.size) (o := 3) (by first | omega | (simp; done) | (simp; omega)) (by first | (go_simp; done) | assumption)
    have f7_4 := bel_free hb7 (b := w.heap.size) (o := 4) (by first | omega | (simp; done) | (simp; omega)) (by first | (go_simp; done) | assumption)
    have f7_5 := bel_free hb7 (b := w.heap.size) (o := 5) (by first | omega | (simp; done) | (simp; omega)) (by first | (go_simp; done) | assumption)
    have f7_6 := bel_free hb7 (b := w4.heap.size) (o := 0) (by first | omega | (simp; done) | (simp; omega)) (by first | (go_simp; done) | assumption)
    have f7_7 := bel_free hb7 (b := w4.heap.size) (o := 1) (by first | omega | (simp; done) | (simp; omega)) (by first | (go_simp; done) | assumption)
    have f7_8 := bel_free hb7 (b := w4.heap.size) (o := 2) (by first | omega | (simp; done) | (simp; omega)) (by first | (go_simp; done) | assumption)
    have f7_9 := bel_free hb7 (b := w4.heap.size) (o := 3) (by first | omega | (simp; done) | (simp; omega)) (by first | (go_simp; done) | assumption)
    have f7_10 := bel_free hb7 (b := w4.heap.size) (o := 4) (by first | omega | (simp; done) | (simp; omega)) (by first | (go_simp; done) | assumption)
    have f7_11 := bel_free hb7 (b := w4.heap.size) (o := 5) (by first | omega | (simp; done) | (simp; omega)) (by first | (go_simp; done) | assumption)
    clear k6_0 k6_1 k6_2 k6_3 k6_4 k6_5 k6_6 k6_7 k6_8 k6_9 k6_10 k6_11 f6_0 f6_1 f6_2 f6_3 f6_4 f6_5 f6_6 f6_7 f6_8 f6_9 f6_10 f6_11
    unfold stV
    go_wp2_with fail
    refine bodyPost_ret (v := .agg #[.int .i64 (11), .int .i64 (0), .int .i64 (va), .int .i64 (0), .int .i64 (0), .int .i64 (0)]) (by simp [results, Try.results120, go_sem, k7_0, k7_1, k7_2, k7_3, k7_4, k7_5, f7_0, f7_1, f7_2, f7_3, f7_4, f7_5]) rfl ⟨⟨11, 0, va, 0, 0, 0⟩, rfl, hok, hd6.keep fun q hq => (by (repeat (first | with_reducible exact Kp.refl _ _ | (with_reducible refine Kp.rng ?_ (by assumption) ?_) | (with_reducible refine Kp.below ?_ (by assumption)) | (with_reducible refine Kp.grown ?_ (by assumption) ?_) | (with_reducible refine Kp.alloc ?_ _) | (with_reducible refine Kp.drew ?_) | (with_reducible refine Kp.drewN ?_ _) | (with_reducible refine Kp.setCell ?_ _ ?_))) <;> (first | omega | (simp; done) | (simp; omega))), ⟨(by (repeat (first | with_reducible exact Below.refl _ _ | (with_reducible refine bel_next ?_ ?_ (by assumption)) | (with_reducible refine Below.alloc ?_ ?_ _) | (with_reducible refine Below.drew ?_) | (with_reducible refine below_drewN ?_ _) | (with_reducible refine Below.setCell ?_ ?_ _))) <;> (first | omega | (simp; done) | (simp; omega))), fun q hq => Kp.of_lt fun hql => (by (repeat (first | with_reducible exact Kp.refl _ _ | (with_reducible refine Kp.rng ?_ (by assumption) ?_) | (with_reducible refine Kp.below ?_ (by assumption)) | (with_reducible refine Kp.grown ?_ (by assumption) ?_) | (with_reducible refine Kp.alloc ?_ _) | (with_reducible refine Kp.drew ?_) | (with_reducible refine Kp.drewN ?_ _) | (with_reducible refine Kp.setCell ?_ _ ?_))) <;> (first | omega | (simp; done) | (simp; omega)))⟩⟩
  ·
    have hp : plainS ⟨11, vd, va, vb, vc, 0⟩ = ⟨11, 0, va, 0, 0, 0⟩ := by simp [plainS, inB]
    have hok : plain1 ⟨11, 0, va, 0, 0, 0⟩ := by refine ⟨?_, by simp, by simp⟩; simp [stOk, inB]; try omega
    go_wp2_with fail
    refine (l08Plain_any ⟨11, vd, va, vb, vc, 0⟩ _).mono ?_
    rw [hp]
    rintro e w7 ⟨rfl, hb7⟩
    have z7 := hb7.size
    (try simp at z7)
    have y7_0 : w.heap.size < w7.heap.size := (by omega)
    have y7_1 : w4.heap.size < w7.heap.size := (by omega)
    have k7_0 := bel_keeps hb7 (b := w.heap.size) (o := 0) (v := .int .i64 0) (by first | (go_simp; done) | assumption)
    have k7_1 := bel_keeps hb7 (b := w.heap.size) (o := 1) (v := .int .i64 0) (by first | (go_simp; done) | assumption)
    have k7_2 := bel_keeps hb7 (b := w.heap.size) (o := 2) (v := .int .i64 0) (by first | (go_simp; done) | assumption)
    have k7_3 := bel_keeps hb7 (b := w.heap.size) (o := 3) (v := .int .i64 0) (by first | (go_simp; done) | assumption)
    have k7_4 := bel_keeps hb7 (b := w.heap.size) (o := 4) (v := .int .i64 0) (by first | (go_simp; done) | assumption)
    have k7_5 := bel_keeps hb7 (b := w.heap.size) (o := 5) (v := .int .i64 0) (by first | (go_simp; done) | assumption)
    have k7_6 := bel_keeps hb7 (b := w4.heap.size) (o := 0) (v := .int .i64 11) (by first | (go_simp; done) | assumption)
    have k7_7 := bel_keeps hb7 (b := w4.heap.size) (o := 1) (v := .int .i64 vd) (by first | (go_simp; done) | assumption)
    have k7_8 := bel_keeps hb7 (b := w4.heap.size) (o := 2) (v := .int .i64 va) (by first | (go_simp; done) | assumption)
    have k7_9 := bel_keeps hb7 (b := w4.heap.size) (o := 3) (v := .int .i64 vb) (by first | (go_simp; done) | assumption)
    have k7_10 := bel_keeps hb7 (b := w4.heap.size) (o := 4) (v := .int .i64 vc) (by first | (go_simp; done) | assumption)
    have k7_11 := bel_keeps hb7 (b := w4.heap.size) (o := 5) (v := .int .i64 0) (by first | (go_simp; done) | assumption)
    have f7_0 := bel_free hb7 (b := w.heap.size) (o := 0) (by first | omega | (simp; done) | (simp; omega)) (by first | (go_simp; done) | assumption)
    have f7_1 := bel_free hb7 (b := w.heap.size) (o := 1) (by first | omega | (simp; done) | (simp; omega)) (by first | (go_simp; done) | assumption)
    have f7_2 := bel_free hb7 (b := w.heap.size) (o := 2) (by first | omega | (simp; done) | (simp; omega)) (by first | (go_simp; done) | assumption)
    have f7_3 := bel_free hb7 (b := w.heap.size) (o := 3) (by first | omega | (simp; done) | (simp; omega)) (by first | (go_simp; done) | assumption)
    have f7_4 := bel_free hb7 (b := w.heap.size) (o := 4) (by first | omega | (simp; done) | (simp; omega)) (by first | (go_simp; done) | assumption)
    have f7_5 := bel_free hb7 (b := w.heap.size) (o := 5) (by first | omega | (simp; done) | (simp; omega)) (by first | (go_simp; done) | assumption)
    have f7_6 := bel_free hb7 (b := w4.heap.size) (o := 0) (by first | omega | (simp; done) | (simp; omega)) (by first | (go_simp; done) | assumption)
    have f7_7 := bel_free hb7 (b := w4.heap.size) (o := 1) (by first | omega | (simp; done) | (simp; omega)) (by first | (go_simp; done) | assumption)
    have f7_8 := bel_free hb7 (b := w4.heap.size) (o := 2) (by first | omega | (simp; done) | (simp; omega)) (by first | (go_simp; done) | assumption)
    have f7_9 := bel_free hb7 (b := w4.heap.size) (o := 3) (by first | omega | (simp; done) | (simp; omega)) (by first | (go_simp; done) | assumption)
    have f7_10 := bel_free hb7 (b := w4.heap.size) (o := 4) (by first | omega | (simp; done) | (simp; omega)) (by first | (go_simp; done) | assumption)
    have f7_11 := bel_free hb7 (b := w4.heap.size) (o := 5) (by first | omega | (simp; done) | (simp; omega)) (by first | (go_simp; done) | assumption)
    clear k6_0 k6_1 k6_2 k6_3 k6_4 k6_5 k6_6 k6_7 k6_8 k6_9 k6_10 k6_11 f6_0 f6_1 f6_2 f6_3 f6_4 f6_5 f6_6 f6_7 f6_8 f6_9 f6_10 f6_11
    unfold stV
    go_wp2_with fail
    refine bodyPost_ret (v := .agg #[.int .i64 (11), .int .i64 (0), .int .i64 (va), .int .i64 (0), .int .i64 (0), .int .i64 (0)]) (by simp [results, Try.results120, go_sem, k7_0, k7_1, k7_2, k7_3, k7_4, k7_5, f7_0, f7_1, f7_2, f7_3, f7_4, f7_5]) rfl ⟨⟨11, 0, va, 0, 0, 0⟩, rfl, hok, hd6.keep fun q hq => (by (repeat (first | with_reducible exact Kp.refl _ _ | (with_reducible refine Kp.rng ?_ (by assumption) ?_) | (with_reducible refine Kp.below ?_ (by assumption)) | (with_reducible refine Kp.grown ?_ (by assumption) ?_) | (with_reducible refine Kp.alloc ?_ _) | (with_reducible refine Kp.drew ?_) | (with_reducible refine Kp.drewN ?_ _) | (with_reducible refine Kp.setCell ?_ _ ?_))) <;> (first | omega | (simp; done) | (simp; omega))), ⟨(by (repeat (first | with_reducible exact Below.refl _ _ | (with_reducible refine bel_next ?_ ?_ (by assumption)) | (with_reducible refine Below.alloc ?_ ?_ _) | (with_reducible refine Below.drew ?_) | (with_reducible refine below_drewN ?_ _) | (with_reducible refine Below.setCell ?_ ?_ _))) <;> (first | omega | (simp; done) | (simp; omega))), fun q hq => Kp.of_lt fun hql => (by (repeat (first | with_reducible exact Kp.refl _ _ | (with_reducible refine Kp.rng ?_ (by assumption) ?_) | (with_reducible refine Kp.below ?_ (by assumption)) | (with_reducible refine Kp.grown ?_ (by assumption) ?_) | (with_reducible refine Kp.alloc ?_ _) | (with_reducible refine Kp.drew ?_) | (with_reducible refine Kp.drewN ?_ _) | (with_reducible refine Kp.setCell ?_ _ ?_))) <;> (first | omega | (simp; done) | (simp; omega)))⟩⟩
  ·
    have q0 : (x == 0) = false := by simp; omega
    have q1 : (x == 1) = false := by simp; omega
    have q2 : (x == 2) = false := by simp; omega
    have q3 : (x == 3) = false := by simp; omega
    have q4 : (x == 4) = false := by simp; omega
    have q5 : (x == 5) = false := by simp; omega
    have q6 : (x == 6) = false := by simp; omega
    go_wp2_with fail
    refine (below_dr g xs ad c 7 _ (hd6.keep fun q hq => (by (repeat (first | with_reducible exact Kp.refl _ _ | (with_reducible refine Kp.rng ?_ (by assumption) ?_) | (with_reducible refine Kp.below ?_ (by assumption)) | (with_reducible refine Kp.grown ?_ (by assumption) ?_) | (with_reducible refine Kp.alloc ?_ _) | (with_reducible refine Kp.drew ?_) | (with_reducible refine Kp.drewN ?_ _) | (with_reducible refine Kp.setCell ?_ _ ?_))) <;> (first | omega | (simp; done) | (simp; omega))))).mono ?_
    rintro e w7 ⟨vo, rfl, vo0, vo1, _, hd7, ob7, or7⟩
    have vo1 := vo1 (by omega)
    have z7 := ob7.size
    (try simp at z7)
    have y7_0 : w.heap.size < w7.heap.size := (by omega)
    have y7_1 : w4.heap.size < w7.heap.size := (by omega)
    have k7_0 : w7.cell? ⟨w.heap.size, 0, none⟩ = some (.int .i64 0) := or7.keeps (by omega) (by first | (go_simp; done) | assumption)
    have k7_1 : w7.cell? ⟨w.heap.size, 1, none⟩ = some (.int .i64 0) := or7.keeps (by omega) (by first | (go_simp; done) | assumption)
    have k7_2 : w7.cell? ⟨w.heap.size, 2, none⟩ = some (.int .i64 0) := or7.keeps (by omega) (by first | (go_simp; done) | assumption)
    have k7_3 : w7.cell? ⟨w.heap.size, 3, none⟩ = some (.int .i64 0) := or7.keeps (by omega) (by first | (go_simp; done) | assumption)
    have k7_4 : w7.cell? ⟨w.heap.size, 4, none⟩ = some (.int .i64 0) := or7.keeps (by omega) (by first | (go_simp; done) | assumption)
    have k7_5 : w7.cell? ⟨w.heap.size, 5, none⟩ = some (.int .i64 0) := or7.keeps (by omega) (by first | (go_simp; done) | assumption)
    have k7_6 : w7.cell? ⟨w4.heap.size, 0, none⟩ = some (.int .i64 0) := or7.keeps (by omega) (by first | (go_simp; done) | assumption)
    have k7_7 : w7.cell? ⟨w4.heap.size, 1, none⟩ = some (.int .i64 vd) := or7.keeps (by omega) (by first | (go_simp; done) | assumption)
    have k7_8 : w7.cell? ⟨w4.heap.size, 2, none⟩ = some (.int .i64 va) := or7.keeps (by omega) (by first | (go_simp; done) | assumption)
    have k7_9 : w7.cell? ⟨w4.heap.size, 3, none⟩ = some (.int .i64 vb) := or7.keeps (by omega) (by first | (go_simp; done) | assumption)
    have k7_10 : w7.cell? ⟨w4.heap.size, 4, none⟩ = some (.int .i64 vc) := or7.keeps (by omega) (by first | (go_simp; done) | assumption)
    have k7_11 : w7.cell? ⟨w4.heap.size, 5, none⟩ = some (.int .i64 0) := or7.keeps (by omega) (by first | (go_simp; done) | assumption)
    have f7_0 : w7.frozen? ⟨w.heap.size, 0, none⟩ = false := or7.free (by omega) (by first | omega | (simp; done) | (simp; omega)) (by first | (go_simp; done) | assumption)
    have f7_1 : w7.frozen? ⟨w.heap.size, 1, none⟩ = false := or7.free (by omega) (by first | omega | (simp; done) | (simp; omega)) (by first | (go_simp; done) | assumption)
    have f7_2 : w7.frozen? ⟨w.heap.size, 2, none⟩ = false := or7.free (by omega) (by first | omega | (simp; done) | (simp; omega)) (by first | (go_simp; done) | assumption)
    have f7_3 : w7.frozen? ⟨w.heap.size, 3, none⟩ = false := or7.free (by omega) (by first | omega | (simp; done) | (simp; omega)) (by first | (go_simp; done) | assumption)
    have f7_4 : w7.frozen? ⟨w.heap.size, 4, none⟩ = false := or7.free (by omega) (by first | omega | (simp; done) | (simp; omega)) (by first | (go_simp; done) | assumption)
    have f7_5 : w7.frozen? ⟨w.heap.size, 5, none⟩ = false := or7.free (by omega) (by first | omega | (simp; done) | (simp; omega)) (by first | (go_simp; done) | assumption)
    have f7_6 : w7.frozen? ⟨w4.heap.size, 0, none⟩ = false := or7.free (by omega) (by first | omega | (simp; done) | (simp; omega)) (by first | (go_simp; done) | assumption)
    have f7_7 : w7.frozen? ⟨w4.heap.size, 1, none⟩ = false := or7.free (by omega) (by first | omega | (simp; done) | (simp; omega)) (by first | (go_simp; done) | assumption)
    have f7_8 : w7.frozen? ⟨w4.heap.size, 2, none⟩ = false := or7.free (by omega) (by first | omega | (simp; done) | (simp; omega)) (by first | (go_simp; done) | assumption)
    have f7_9 : w7.frozen? ⟨w4.heap.size, 3, none⟩ = false := or7.free (by omega) (by first | omega | (simp; done) | (simp; omega)) (by first | (go_simp; done) | assumption)
    have f7_10 : w7.frozen? ⟨w4.heap.size, 4, none⟩ = false := or7.free (by omega) (by first | omega | (simp; done) | (simp; omega)) (by first | (go_simp; done) | assumption)
    have f7_11 : w7.frozen? ⟨w4.heap.size, 5, none⟩ = false := or7.free (by omega) (by first | omega | (simp; done) | (simp; omega)) (by first | (go_simp; done) | assumption)
    clear k6_0 k6_1 k6_2 k6_3 k6_4 k6_5 k6_6 k6_7 k6_8 k6_9 k6_10 k6_11 f6_0 f6_1 f6_2 f6_3 f6_4 f6_5 f6_6 f6_7 f6_8 f6_9 f6_10 f6_11
    obtain ⟨o3, ho3⟩ : ∃ o, o = 3 + vo := ⟨_, rfl⟩
    have ho4 : 3 ≤ o3 ∧ o3 ≤ 9 := by omega
    have hin : inB (3 + vo) 3 9 = true := inB_iff.2 (by omega)
    have hp : plainS ⟨3 + vo, vd, va, vb, vc, 0⟩ = ⟨3 + vo, vd, va, vb, 0, 0⟩ := by simp only [plainS]; rw [if_neg (by omega), if_neg (by omega), if_pos hin]
    have hok : plain1 ⟨3 + vo, vd, va, vb, 0, 0⟩ := by refine ⟨?_, by simp; omega, by simp; omega⟩; simp only [stOk]; rw [if_neg (by omega), if_neg (by omega), if_pos hin]; simp [inB]; omega
    go_wp2_with fail
    refine (l08Plain_any ⟨3 + vo, vd, va, vb, vc, 0⟩ _).mono ?_
    rw [hp]
    rintro e w8 ⟨rfl, hb8⟩
    have z8 := hb8.size
    (try simp at z8)
    have y8_0 : w.heap.size < w8.heap.size := (by omega)
    have y8_1 : w4.heap.size < w8.heap.size := (by omega)
    have k8_0 := bel_keeps hb8 (b := w.heap.size) (o := 0) (v := .int .i64 0) (by first | (go_simp; done) | assumption)
    have k8_1 := bel_keeps hb8 (b := w.heap.size) (o := 1) (v := .int .i64 0) (by first | (go_simp; done) | assumption)
    have k8_2 := bel_keeps hb8 (b := w.heap.size) (o := 2) (v := .int .i64 0) (by first | (go_simp; done) | assumption)
    have k8_3 := bel_keeps hb8 (b := w.heap.size) (o := 3) (v := .int .i64 0) (by first | (go_simp; done) | assumption)
    have k8_4 := bel_keeps hb8 (b := w.heap.size) (o := 4) (v := .int .i64 0) (by first | (go_simp; done) | assumption)
    have k8_5 := bel_keeps hb8 (b := w.heap.size) (o := 5) (v := .int .i64 0) (by first | (go_simp; done) | assumption)
    have k8_6 := bel_keeps hb8 (b := w4.heap.size) (o := 0) (v := .int .i64 (3 + vo)) (by first | (go_simp; done) | assumption)
    have k8_7 := bel_keeps hb8 (b := w4.heap.size) (o := 1) (v := .int .i64 vd) (by first | (go_simp; done) | assumption)
    have k8_8 := bel_keeps hb8 (b := w4.heap.size) (o := 2) (v := .int .i64 va) (by first | (go_simp; done) | assumption)
    have k8_9 := bel_keeps hb8 (b := w4.heap.size) (o := 3) (v := .int .i64 vb) (by first | (go_simp; done) | assumption)
    have k8_10 := bel_keeps hb8 (b := w4.heap.size) (o := 4) (v := .int .i64 vc) (by first | (go_simp; done) | assumption)
    have k8_11 := bel_keeps hb8 (b := w4.heap.size) (o := 5) (v := .int .i64 0) (by first | (go_simp; done) | assumption)
    have f8_0 := bel_free hb8 (b := w.heap.size) (o := 0) (by first | omega | (simp; done) | (simp; omega)) (by first | (go_simp; done) | assumption)
    have f8_1 := bel_free hb8 (b := w.heap.size) (o := 1) (by first | omega | (simp; done) | (simp; omega)) (by first | (go_simp; done) | assumption)
    have f8_2 := bel_free hb8 (b := w.heap.size) (o := 2) (by first | omega | (simp; done) | (simp; omega)) (by first | (go_simp; done) | assumption)
    have f8_3 := bel_free hb8 (b := w.heap.size) (o := 3) (by first | omega | (simp; done) | (simp; omega)) (by first | (go_simp; done) | assumption)
    have f8_4 := bel_free hb8 (b := w.heap.size) (o := 4) (by first | omega | (simp; done) | (simp; omega)) (by first | (go_simp; done) | assumption)
    have f8_5 := bel_free hb8 (b := w.heap.size) (o := 5) (by first | omega | (simp; done) | (simp; omega)) (by first | (go_simp; done) | assumption)
    have f8_6 := bel_free hb8 (b := w4.heap.size) (o := 0) (by first | omega | (simp; done) | (simp; omega)) (by first | (go_simp; done) | assumption)
    have f8_7 := bel_free hb8 (b := w4.heap.size) (o := 1) (by first | omega | (simp; done) | (simp; omega)) (by first | (go_simp; done) | assumption)
    have f8_8 := bel_free hb8 (b := w4.heap.size) (o := 2) (by first | omega | (simp; done) | (simp; omega)) (by first | (go_simp; done) | assumption)
    have f8_9 := bel_free hb8 (b := w4.heap.size) (o := 3) (by first | omega | (simp; done) | (simp; omega)) (by first | (go_simp; done) | assumption)
    have f8_10 := bel_free hb8 (b := w4.heap.size) (o := 4) (by first | omega | (simp; done) | (simp; omega)) (by first | (go_simp; done) | assumption)
    have f8_11 := bel_free hb8 (b := w4.heap.size) (o := 5) (by first | omega | (simp; done) | (simp; omega)) (by first | (go_simp; done) | assumption)
    clear k7_0 k7_1 k7_2 k7_3 k7_4 k7_5 k7_6 k7_7 k7_8 k7_9 k7_10 k7_11 f7_0 f7_1 f7_2 f7_3 f7_4 f7_5 f7_6 f7_7 f7_8 f7_9 f7_10 f7_11
    unfold stV
    go_wp2_with fail
    refine bodyPost_ret (v := .agg #[.int .i64 (3 + vo), .int .i64 (vd), .int .i64 (va), .int .i64 (vb), .int .i64 (0), .int .i64 (0)]) (by simp [results, Try.results120, go_sem, k8_0, k8_1, k8_2, k8_3, k8_4, k8_5, f8_0, f8_1, f8_2, f8_3, f8_4, f8_5]) rfl ⟨⟨3 + vo, vd, va, vb, 0, 0⟩, rfl, hok, hd7.keep fun q hq => (by (repeat (first | with_reducible exact Kp.refl _ _ | (with_reducible refine Kp.rng ?_ (by assumption) ?_) | (with_reducible refine Kp.below ?_ (by assumption)) | (with_reducible refine Kp.grown ?_ (by assumption) ?_) | (with_reducible refine Kp.alloc ?_ _) | (with_reducible refine Kp.drew ?_) | (with_reducible refine Kp.drewN ?_ _) | (with_reducible refine Kp.setCell ?_ _ ?_))) <;> (first | omega | (simp; done) | (simp; omega))), ⟨(by (repeat (first | with_reducible exact Below.refl _ _ | (with_reducible refine bel_next ?_ ?_ (by assumption)) | (with_reducible refine Below.alloc ?_ ?_ _) | (with_reducible refine Below.drew ?_) | (with_reducible refine below_drewN ?_ _) | (with_reducible refine Below.setCell ?_ ?_ _))) <;> (first | omega | (simp; done) | (simp; omega))), fun q hq => Kp.of_lt fun hql => (by (repeat (first | with_reducible exact Kp.refl _ _ | (with_reducible refine Kp.rng ?_ (by assumption) ?_) | (with_reducible refine Kp.below ?_ (by assumption)) | (with_reducible refine Kp.grown ?_ (by assumption) ?_) | (with_reducible refine Kp.alloc ?_ _) | (with_reducible refine Kp.drew ?_) | (with_reducible refine Kp.drewN ?_ _) | (with_reducible refine Kp.setCell ?_ _ ?_))) <;> (first | omega | (simp; done) | (simp; omega)))⟩⟩
end Go.Proofs.Ytfcijloiebnloaa

/- DrProg -/
namespace Go.Proofs.Ytfcijloiebnloaa
open Go.RowKit
set_option linter.unusedVariables false
set_option linter.unusedSimpArgs false

theorem Ur.append {b : Nat} {xs us : List St} (h : Ur b xs us) : ∀ {ys vs : List St}, Ur b ys vs → Ur b (xs ++ ys) (us ++ vs) := by
  induction h with
  | nil b => intro ys vs h; simpa using h
  | plain b s r u h1 h2 h3 h4 ih => intro ys vs h; exact .plain _ s _ _ h1 h2 h3 (ih h)
  | loop b l e body r v u h1 h2 h3 h4 h5 h6 ih5 ih6 =>
    intro ys vs h
    have := Ur.loop b l e body (r ++ ys) v (u ++ vs) h1 h2 h3 h4 h5 (ih6 h)
    simpa [List.append_assoc] using this
theorem Ur.one {b : Nat} {s : St} (h : plain1 s) : Ur b [s] [s] := .plain b s [] [] h.1 h.2.1 h.2.2 (.nil b)
theorem Ur.oneLoop {b : Nat} {n : Int} {body v : List St} (h0 : 1 ≤ n) (h8 : n ≤ 8) (h : Ur b body v) : Ur (b + 1) ([⟨12, 0, 0, 0, 0, n⟩] ++ body ++ [⟨13, 0, 0, 0, 0, 0⟩]) (repS n v) := by
  have := Ur.loop b ⟨12, 0, 0, 0, 0, n⟩ ⟨13, 0, 0, 0, 0, 0⟩ body [] v [] (by simp [stOk, inB]; omega) (by simp [stOk, inB]) rfl rfl h (.nil _)
  simpa using this
theorem RdC.six {w : World} {b : Nat} {s : St} (h0 : w.cell? ⟨b, 0, none⟩ = some (.int .i64 s.op)) (h1 : w.cell? ⟨b, 1, none⟩ = some (.int .i64 s.dst)) (h2 : w.cell? ⟨b, 2, none⟩ = some (.int .i64 s.a)) (h3 : w.cell? ⟨b, 3, none⟩ = some (.int .i64 s.b))
    (h4 : w.cell? ⟨b, 4, none⟩ = some (.int .i64 s.c)) (h5 : w.cell? ⟨b, 5, none⟩ = some (.int .i64 s.n)) : RdC w (some ⟨b, 0, none⟩) (stCells [s]) := by
  refine .inr ⟨b, 0, rfl, fun j hj => ?_⟩
  have : j < 6 := by simpa [stCells, St.cells] using hj
  match j, this with
  | 0, _ => exact h0
  | 1, _ => exact h1
  | 2, _ => exact h2
  | 3, _ => exact h3
  | 4, _ => exact h4
  | 5, _ => exact h5

set_option maxRecDepth 20000 in
set_option maxHeartbeats 8000000 in
theorem block_dr0 (g : Nat) (xs : List Int) (ad : Option Addr) (c : Nat) (n : Int) (w : World) (hd : Dr w g xs ad c) (hn0 : 0 ≤ n) (hn : n ≤ 2) :
    Calls Try.prog 106 #[.pointer (some ⟨g, 0, none⟩), .int .i64 n, .int .i64 2] w fun e w' => ∃ (gb cb : Nat) (blk : List St), e = .returned (.slice (some ⟨gb, 0, none⟩) blk.length cb) ∧ (∃ us, Ur 0 blk us) ∧ (blk.length : Int) ≤ n ∧
      Own w' w.heap.size 90 6 (some ⟨gb, 0, none⟩) blk.length cb (stCells blk) ∧ Dr w' g xs ad c ∧ Only g w w' := by
  have hgt := hd.gt
  go_enter Try.func106, Try.ntmps106
  go_wp2_with fail
  go_loopw [7, 8] (fun o i wr => ∃ (k gb cb : Nat) (blk us : List St), (k : Int) ≤ n ∧ i = .int .i64 k ∧ o = .slice (some ⟨gb, 0, none⟩) blk.length cb ∧ Ur 0 blk us ∧ blk.length ≤ k ∧
      Own wr w.heap.size 90 6 (some ⟨gb, 0, none⟩) blk.length cb (stCells blk) ∧ Dr wr g xs ad c ∧ Only g w wr) (fun _ i _ => n.toNat - (intOf i).toNat)
  case atStart =>
    refine ⟨0, w.heap.size, 0, [], [], by omega, rfl, rfl, .nil _, by simp, ?_, hd.keep fun q hq => (by (repeat (first | with_reducible exact Kp.refl _ _ | (with_reducible refine Kp.rng ?_ (by assumption) ?_) | (with_reducible refine Kp.below ?_ (by assumption)) | (with_reducible refine Kp.grown ?_ (by assumption) ?_) | (with_reducible refine Kp.alloc ?_ _) | (with_reducible refine Kp.drew ?_) | (with_reducible refine Kp.drewN ?_ _) | (with_reducible refine Kp.setCell ?_ _ ?_))) <;> (first | omega | (simp; done) | (simp; omega))), ⟨(by (repeat (first | with_reducible exact Below.refl _ _ | (with_reducible refine bel_next ?_ ?_ (by assumption)) | (with_reducible refine Below.alloc ?_ ?_ _) | (with_reducible refine Below.drew ?_) | (with_reducible refine below_drewN ?_ _) | (with_reducible refine Below.setCell ?_ ?_ _))) <;> (first | omega | (simp; done) | (simp; omega))), fun q hq => Kp.of_lt fun hql => (by (repeat (first | with_reducible exact Kp.refl _ _ | (with_reducible refine Kp.rng ?_ (by assumption) ?_) | (with_reducible refine Kp.below ?_ (by assumption)) | (with_reducible refine Kp.grown ?_ (by assumption) ?_) | (with_reducible refine Kp.alloc ?_ _) | (with_reducible refine Kp.drew ?_) | (with_reducible refine Kp.drewN ?_ _) | (with_reducible refine Kp.setCell ?_ _ ?_))) <;> (first | omega | (simp; done) | (simp; omega)))⟩⟩
    exact own_new w 90 6
  case round =>
    obtain ⟨k, gb, cb, blk, us, hk, rfl, rfl, hur, hbl, hown, hdr, ob0, or0⟩ := hrel
    have z0 := ob0.size
    have ge0 := hown.ge
    have HU := Lib.hid hur
    have HBL := Lib.hid hbl
    have hbl100 : blk.length ≤ 100 := by omega
    have hgt0 := hdr.gt
    clear hur hbl
    by_cases hlt : (k : Int) < n
    ·
      go_wp2_with fail
      refine (l08Stmt_dr g xs ad c _ ((hdr).keep fun q hq => (by (repeat (first | with_reducible exact Kp.refl _ _ | (with_reducible refine Kp.rng ?_ (by assumption) ?_) | (with_reducible refine Kp.below ?_ (by assumption)) | (with_reducible refine Kp.grown ?_ (by assumption) ?_) | (with_reducible refine Kp.alloc ?_ _) | (with_reducible refine Kp.drew ?_) | (with_reducible refine Kp.drewN ?_ _) | (with_reducible refine Kp.setCell ?_ _ ?_))) <;> (first | omega | (simp; done) | (simp; omega))))).mono ?_
      rintro e w1 ⟨s, rfl, hpl, hd1, ob1, or1⟩
      have z1 := ob1.size
      (try simp at z1)
      obtain ⟨op, dst, sa, sb, sc, sn⟩ := s
      unfold stV
      have HPL := Lib.hid hpl
      clear hpl
      go_wp2_with (refine wpList_appSt _ rfl _ _ rfl w.heap.size blk.length cb gb w1.heap.size 0 1 1 blk [⟨op, dst, sa, sb, sc, sn⟩] (by rfl) (by rfl) ((hown).later (by (repeat (first | with_reducible exact Kp.refl _ _ | (with_reducible refine Kp.rng ?_ (by assumption) ?_) | (with_reducible refine Kp.below ?_ (by assumption)) | (with_reducible refine Kp.grown ?_ (by assumption) ?_) | (with_reducible refine Kp.alloc ?_ _) | (with_reducible refine Kp.drew ?_) | (with_reducible refine Kp.drewN ?_ _) | (with_reducible refine Kp.setCell ?_ _ ?_))) <;> (first | omega | (simp; done) | (simp; omega)))) (RdC.six (by go_simp) (by go_simp) (by go_simp) (by go_simp) (by go_simp) (by go_simp)) rfl (by omega) (by first | omega | (simp; done) | (simp; omega)) ?_; intro gn2 cn2 w2 hn2 hb2 hg2 hat2; (try simp at hat2); have z2 := hb2.size; (try simp at z2); have y2 := hg2.size; (try simp at y2); have ge2 := hn2.ge)
      have HE : Hid (((blk ++ [⟨op, dst, sa, sb, sc, sn⟩]) : List St).length = blk.length + 1) := by show _ = _; simp <;> omega
      go_wp2_with fail
      go_roundw
      case rel => exact ⟨k + 1, gn2, cn2, (blk ++ [⟨op, dst, sa, sb, sc, sn⟩]), _, by omega, by go_num, by rw [HE.out], HU.out.append (Ur.one HPL.out), by (rw [HE.out]; have := HBL.out; omega), by rw [HE.out]; exact hn2, ((hd1).keep fun q hq => (by (repeat (first | with_reducible exact Kp.refl _ _ | (with_reducible refine Kp.rng ?_ (by assumption) ?_) | (with_reducible refine Kp.below ?_ (by assumption)) | (with_reducible refine Kp.grown ?_ (by assumption) ?_) | (with_reducible refine Kp.alloc ?_ _) | (with_reducible refine Kp.drew ?_) | (with_reducible refine Kp.drewN ?_ _) | (with_reducible refine Kp.setCell ?_ _ ?_))) <;> (first | omega | (simp; done) | (simp; omega)))), ⟨(by (repeat (first | with_reducible exact Below.refl _ _ | (with_reducible refine bel_next ?_ ?_ (by assumption)) | (with_reducible refine Below.alloc ?_ ?_ _) | (with_reducible refine Below.drew ?_) | (with_reducible refine below_drewN ?_ _) | (with_reducible refine Below.setCell ?_ ?_ _))) <;> (first | omega | (simp; done) | (simp; omega))), fun q hq => Kp.of_lt fun hql => (by (repeat (first | with_reducible exact Kp.refl _ _ | (with_reducible refine Kp.rng ?_ (by assumption) ?_) | (with_reducible refine Kp.below ?_ (by assumption)) | (with_reducible refine Kp.grown ?_ (by assumption) ?_) | (with_reducible refine Kp.alloc ?_ _) | (with_reducible refine Kp.drew ?_) | (with_reducible refine Kp.drewN ?_ _) | (with_reducible refine Kp.setCell ?_ _ ?_))) <;> (first | omega | (simp; done) | (simp; omega)))⟩⟩
      case measure => simp [intOf]; omega
    · go_wp2_with fail
      go_ret
      exact ⟨gb, cb, blk, rfl, ⟨us, HU.out⟩, (by have := HBL.out; omega), hown, hdr, ob0, or0⟩
set_option maxRecDepth 20000 in
set_option maxHeartbeats 8000000 in
theorem block_dr1 (g : Nat) (xs : List Int) (ad : Option Addr) (c : Nat) (n : Int) (w : World) (hd : Dr w g xs ad c) (hn0 : 0 ≤ n) (hn : n ≤ 2) :
    Calls Try.prog 106 #[.pointer (some ⟨g, 0, none⟩), .int .i64 n, .int .i64 1] w fun e w' => ∃ (gb cb : Nat) (blk : List St), e = .returned (.slice (some ⟨gb, 0, none⟩) blk.length cb) ∧ (∃ us, Ur 1 blk us) ∧ (blk.length : Int) ≤ 4 * n ∧
      Own w' w.heap.size 90 6 (some ⟨gb, 0, none⟩) blk.length cb (stCells blk) ∧ Dr w' g xs ad c ∧ Only g w w' := by
  have hgt := hd.gt
  go_enter Try.func106, Try.ntmps106
  go_wp2_with fail
  go_loopw [7, 8] (fun o i wr => ∃ (k gb cb : Nat) (blk us : List St), (k : Int) ≤ n ∧ i = .int .i64 k ∧ o = .slice (some ⟨gb, 0, none⟩) blk.length cb ∧ Ur 1 blk us ∧ blk.length ≤ 4 * k ∧
      Own wr w.heap.size 90 6 (some ⟨gb, 0, none⟩) blk.length cb (stCells blk) ∧ Dr wr g xs ad c ∧ Only g w wr) (fun _ i _ => n.toNat - (intOf i).toNat)
  case atStart =>
    refine ⟨0, w.heap.size, 0, [], [], by omega, rfl, rfl, .nil _, by simp, ?_, hd.keep fun q hq => (by (repeat (first | with_reducible exact Kp.refl _ _ | (with_reducible refine Kp.rng ?_ (by assumption) ?_) | (with_reducible refine Kp.below ?_ (by assumption)) | (with_reducible refine Kp.grown ?_ (by assumption) ?_) | (with_reducible refine Kp.alloc ?_ _) | (with_reducible refine Kp.drew ?_) | (with_reducible refine Kp.drewN ?_ _) | (with_reducible refine Kp.setCell ?_ _ ?_))) <;> (first | omega | (simp; done) | (simp; omega))), ⟨(by (repeat (first | with_reducible exact Below.refl _ _ | (with_reducible refine bel_next ?_ ?_ (by assumption)) | (with_reducible refine Below.alloc ?_ ?_ _) | (with_reducible refine Below.drew ?_) | (with_reducible refine below_drewN ?_ _) | (with_reducible refine Below.setCell ?_ ?_ _))) <;> (first | omega | (simp; done) | (simp; omega))), fun q hq => Kp.of_lt fun hql => (by (repeat (first | with_reducible exact Kp.refl _ _ | (with_reducible refine Kp.rng ?_ (by assumption) ?_) | (with_reducible refine Kp.below ?_ (by assumption)) | (with_reducible refine Kp.grown ?_ (by assumption) ?_) | (with_reducible refine Kp.alloc ?_ _) | (with_reducible refine Kp.drew ?_) | (with_reducible refine Kp.drewN ?_ _) | (with_reducible refine Kp.setCell ?_ _ ?_))) <;> (first | omega | (simp; done) | (simp; omega)))⟩⟩
    exact own_new w 90 6
  case round =>
    obtain ⟨k, gb, cb, blk, us, hk, rfl, rfl, hur, hbl, hown, hdr, ob0, or0⟩ := hrel
    have z0 := ob0.size
    have ge0 := hown.ge
    have HU := Lib.hid hur
    have HBL := Lib.hid hbl
    have hbl100 : blk.length ≤ 100 := by omega
    have hgt0 := hdr.gt
    clear hur hbl
    by_cases hlt : (k : Int) < n
    ·
      by_cases h12 : (blk.length : Int) < 12
      ·
        go_wp2_with fail
        refine (once_dr g xs ad c 8 _ ((hdr).keep fun q hq => (by (repeat (first | with_reducible exact Kp.refl _ _ | (with_reducible refine Kp.rng ?_ (by assumption) ?_) | (with_reducible refine Kp.below ?_ (by assumption)) | (with_reducible refine Kp.grown ?_ (by assumption) ?_) | (with_reducible refine Kp.alloc ?_ _) | (with_reducible refine Kp.drew ?_) | (with_reducible refine Kp.drewN ?_ _) | (with_reducible refine Kp.setCell ?_ _ ?_))) <;> (first | omega | (simp; done) | (simp; omega))))).mono ?_
        rintro e w1 ⟨b, rfl, hd1, ob1, or1⟩
        have z1 := ob1.size
        (try simp at z1)
        cases b
        ·
          go_wp2_with fail
          refine (l08Stmt_dr g xs ad c _ ((hd1).keep fun q hq => (by (repeat (first | with_reducible exact Kp.refl _ _ | (with_reducible refine Kp.rng ?_ (by assumption) ?_) | (with_reducible refine Kp.below ?_ (by assumption)) | (with_reducible refine Kp.grown ?_ (by assumption) ?_) | (with_reducible refine Kp.alloc ?_ _) | (with_reducible refine Kp.drew ?_) | (with_reducible refine Kp.drewN ?_ _) | (with_reducible refine Kp.setCell ?_ _ ?_))) <;> (first | omega | (simp; done) | (simp; omega))))).mono ?_
          rintro e w2 ⟨s, rfl, hpl, hd2, ob2, or2⟩
          have z2 := ob2.size
          (try simp at z2)
          obtain ⟨op, dst, sa, sb, sc, sn⟩ := s
          unfold stV
          have HPL := Lib.hid hpl
          clear hpl
          go_wp2_with (refine wpList_appSt _ rfl _ _ rfl w.heap.size blk.length cb gb w2.heap.size 0 1 1 blk [⟨op, dst, sa, sb, sc, sn⟩] (by rfl) (by rfl) ((hown).later (by (repeat (first | with_reducible exact Kp.refl _ _ | (with_reducible refine Kp.rng ?_ (by assumption) ?_) | (with_reducible refine Kp.below ?_ (by assumption)) | (with_reducible refine Kp.grown ?_ (by assumption) ?_) | (with_reducible refine Kp.alloc ?_ _) | (with_reducible refine Kp.drew ?_) | (with_reducible refine Kp.drewN ?_ _) | (with_reducible refine Kp.setCell ?_ _ ?_))) <;> (first | omega | (simp; done) | (simp; omega)))) (RdC.six (by go_simp) (by go_simp) (by go_simp) (by go_simp) (by go_simp) (by go_simp)) rfl (by omega) (by first | omega | (simp; done) | (simp; omega)) ?_; intro gn3 cn3 w3 hn3 hb3 hg3 hat3; (try simp at hat3); have z3 := hb3.size; (try simp at z3); have y3 := hg3.size; (try simp at y3); have ge3 := hn3.ge)
          have HE : Hid (((blk ++ [⟨op, dst, sa, sb, sc, sn⟩]) : List St).length = blk.length + 1) := by show _ = _; simp <;> omega
          go_wp2_with fail
          go_roundw
          case rel => exact ⟨k + 1, gn3, cn3, (blk ++ [⟨op, dst, sa, sb, sc, sn⟩]), _, by omega, by go_num, by rw [HE.out], HU.out.append (Ur.one HPL.out), by (rw [HE.out]; have := HBL.out; omega), by rw [HE.out]; exact hn3, ((hd2).keep fun q hq => (by (repeat (first | with_reducible exact Kp.refl _ _ | (with_reducible refine Kp.rng ?_ (by assumption) ?_) | (with_reducible refine Kp.below ?_ (by assumption)) | (with_reducible refine Kp.grown ?_ (by assumption) ?_) | (with_reducible refine Kp.alloc ?_ _) | (with_reducible refine Kp.drew ?_) | (with_reducible refine Kp.drewN ?_ _) | (with_reducible refine Kp.setCell ?_ _ ?_))) <;> (first | omega | (simp; done) | (simp; omega)))), ⟨(by (repeat (first | with_reducible exact Below.refl _ _ | (with_reducible refine bel_next ?_ ?_ (by assumption)) | (with_reducible refine Below.alloc ?_ ?_ _) | (with_reducible refine Below.drew ?_) | (with_reducible refine below_drewN ?_ _) | (with_reducible refine Below.setCell ?_ ?_ _))) <;> (first | omega | (simp; done) | (simp; omega))), fun q hq => Kp.of_lt fun hql => (by (repeat (first | with_reducible exact Kp.refl _ _ | (with_reducible refine Kp.rng ?_ (by assumption) ?_) | (with_reducible refine Kp.below ?_ (by assumption)) | (with_reducible refine Kp.grown ?_ (by assumption) ?_) | (with_reducible refine Kp.alloc ?_ _) | (with_reducible refine Kp.drew ?_) | (with_reducible refine Kp.drewN ?_ _) | (with_reducible refine Kp.setCell ?_ _ ?_))) <;> (first | omega | (simp; done) | (simp; omega)))⟩⟩
          case measure => simp [intOf]; omega
        ·
          go_wp2_with fail
          refine (below_dr g xs ad c 3 _ ((hd1).keep fun q hq => (by (repeat (first | with_reducible exact Kp.refl _ _ | (with_reducible refine Kp.rng ?_ (by assumption) ?_) | (with_reducible refine Kp.below ?_ (by assumption)) | (with_reducible refine Kp.grown ?_ (by assumption) ?_) | (with_reducible refine Kp.alloc ?_ _) | (with_reducible refine Kp.drew ?_) | (with_reducible refine Kp.drewN ?_ _) | (with_reducible refine Kp.setCell ?_ _ ?_))) <;> (first | omega | (simp; done) | (simp; omega))))).mono ?_
          rintro e w2 ⟨vn, rfl, vn0, vn1, _, hd2, ob2, or2⟩
          have vn1 := vn1 (by omega)
          have z2 := ob2.size
          (try simp at z2)
          go_wp2_with (refine wpList_appSt _ rfl _ _ rfl w.heap.size blk.length cb gb w2.heap.size 0 1 1 blk [⟨12, 0, 0, 0, 0, 1 + vn⟩] (by rfl) (by rfl) ((hown).later (by (repeat (first | with_reducible exact Kp.refl _ _ | (with_reducible refine Kp.rng ?_ (by assumption) ?_) | (with_reducible refine Kp.below ?_ (by assumption)) | (with_reducible refine Kp.grown ?_ (by assumption) ?_) | (with_reducible refine Kp.alloc ?_ _) | (with_reducible refine Kp.drew ?_) | (with_reducible refine Kp.drewN ?_ _) | (with_reducible refine Kp.setCell ?_ _ ?_))) <;> (first | omega | (simp; done) | (simp; omega)))) (RdC.six (by go_simp) (by go_simp) (by go_simp) (by go_simp) (by go_simp) (by go_simp)) rfl (by omega) (by first | omega | (simp; done) | (simp; omega)) ?_; intro gn3 cn3 w3 hn3 hb3 hg3 hat3; (try simp at hat3); have z3 := hb3.size; (try simp at z3); have y3 := hg3.size; (try simp at y3); have ge3 := hn3.ge)
          go_wp2_with fail
          refine (below_dr g xs ad c 2 _ ((hd2).keep fun q hq => (by (repeat (first | with_reducible exact Kp.refl _ _ | (with_reducible refine Kp.rng ?_ (by assumption) ?_) | (with_reducible refine Kp.below ?_ (by assumption)) | (with_reducible refine Kp.grown ?_ (by assumption) ?_) | (with_reducible refine Kp.alloc ?_ _) | (with_reducible refine Kp.drew ?_) | (with_reducible refine Kp.drewN ?_ _) | (with_reducible refine Kp.setCell ?_ _ ?_))) <;> (first | omega | (simp; done) | (simp; omega))))).mono ?_
          rintro e w4 ⟨vm, rfl, vm0, vm1, _, hd4, ob4, or4⟩
          have vm1 := vm1 (by omega)
          have z4 := ob4.size
          (try simp at z4)
          go_wp2_with fail
          refine (block_dr0 g xs ad c (1 + vm) _ ((hd4).keep fun q hq => (by (repeat (first | with_reducible exact Kp.refl _ _ | (with_reducible refine Kp.rng ?_ (by assumption) ?_) | (with_reducible refine Kp.below ?_ (by assumption)) | (with_reducible refine Kp.grown ?_ (by assumption) ?_) | (with_reducible refine Kp.alloc ?_ _) | (with_reducible refine Kp.drew ?_) | (with_reducible refine Kp.drewN ?_ _) | (with_reducible refine Kp.setCell ?_ _ ?_))) <;> (first | omega | (simp; done) | (simp; omega)))) (by omega) (by omega)).mono ?_
          rintro e w5 ⟨gi, ci, bi, rfl, ⟨ui, huri⟩, hbi, howni, hd5, ob5, or5⟩
          have z5 := ob5.size
          (try simp at z5)
          have gei := howni.ge
          (try simp at gei)
          have HUI := Lib.hid huri
          clear huri
          have HX : True := trivial
          go_wp2_with (first | (refine wpList_appSt _ rfl _ _ rfl w.heap.size (blk.length + 1) cn3 gn3 gi 0 bi.length ci (blk ++ [⟨12, 0, 0, 0, 0, 1 + vn⟩]) bi (by rfl) (by rfl) ((hn3).later (by (repeat (first | with_reducible exact Kp.refl _ _ | (with_reducible refine Kp.rng ?_ (by assumption) ?_) | (with_reducible refine Kp.below ?_ (by assumption)) | (with_reducible refine Kp.grown ?_ (by assumption) ?_) | (with_reducible refine Kp.alloc ?_ _) | (with_reducible refine Kp.drew ?_) | (with_reducible refine Kp.drewN ?_ _) | (with_reducible refine Kp.setCell ?_ _ ?_))) <;> (first | omega | (simp; done) | (simp; omega)))) (howni.later (by (repeat (first | with_reducible exact Kp.refl _ _ | (with_reducible refine Kp.rng ?_ (by assumption) ?_) | (with_reducible refine Kp.below ?_ (by assumption)) | (with_reducible refine Kp.grown ?_ (by assumption) ?_) | (with_reducible refine Kp.alloc ?_ _) | (with_reducible refine Kp.drew ?_) | (with_reducible refine Kp.drewN ?_ _) | (with_reducible refine Kp.setCell ?_ _ ?_))) <;> (first | omega | (simp; done) | (simp; omega)))).rd rfl (by omega) (by first | omega | (simp; done) | (simp; omega)) ?_; intro gn6 cn6 w6 hn6 hb6 hg6 hat6; (try simp at hat6); have z6 := hb6.size; (try simp at z6); have y6 := hg6.size; (try simp at y6); have ge6 := hn6.ge) | (refine wpList_appSt _ rfl _ _ rfl w.heap.size (blk.length + 1 + bi.length) cn6 gn6 w6.heap.size 0 1 1 ((blk ++ [⟨12, 0, 0, 0, 0, 1 + vn⟩]) ++ bi) [⟨13, 0, 0, 0, 0, 0⟩] (by rfl) (by rfl) ((hn6).later (by (repeat (first | with_reducible exact Kp.refl _ _ | (with_reducible refine Kp.rng ?_ (by assumption) ?_) | (with_reducible refine Kp.below ?_ (by assumption)) | (with_reducible refine Kp.grown ?_ (by assumption) ?_) | (with_reducible refine Kp.alloc ?_ _) | (with_reducible refine Kp.drew ?_) | (with_reducible refine Kp.drewN ?_ _) | (with_reducible refine Kp.setCell ?_ _ ?_))) <;> (first | omega | (simp; done) | (simp; omega)))) (RdC.six (by go_simp) (by go_simp) (by go_simp) (by go_simp) (by go_simp) (by go_simp)) rfl (by omega) (by first | omega | (simp; done) | (simp; omega)) ?_; intro gn7 cn7 w7 hn7 hb7 hg7 hat7; (try simp at hat7); have z7 := hb7.size; (try simp at z7); have y7 := hg7.size; (try simp at y7); have ge7 := hn7.ge))
          have HE : Hid (((((blk ++ [⟨12, 0, 0, 0, 0, 1 + vn⟩]) ++ bi) ++ [⟨13, 0, 0, 0, 0, 0⟩]) : List St).length = blk.length + 1 + bi.length + 1) := by show _ = _; simp <;> omega
          go_wp2_with fail
          go_roundw
          case rel => exact ⟨k + 1, gn7, cn7, (((blk ++ [⟨12, 0, 0, 0, 0, 1 + vn⟩]) ++ bi) ++ [⟨13, 0, 0, 0, 0, 0⟩]), _, by omega, by go_num, by rw [HE.out], (by have := HU.out.append (Ur.oneLoop (n := 1 + vn) (by omega) (by omega) HUI.out); simpa [List.append_assoc] using this), by (rw [HE.out]; have := HBL.out; omega), by rw [HE.out]; exact hn7, ((hd5).keep fun q hq => (by (repeat (first | with_reducible exact Kp.refl _ _ | (with_reducible refine Kp.rng ?_ (by assumption) ?_) | (with_reducible refine Kp.below ?_ (by assumption)) | (with_reducible refine Kp.grown ?_ (by assumption) ?_) | (with_reducible refine Kp.alloc ?_ _) | (with_reducible refine Kp.drew ?_) | (with_reducible refine Kp.drewN ?_ _) | (with_reducible refine Kp.setCell ?_ _ ?_))) <;> (first | omega | (simp; done) | (simp; omega)))), ⟨(by (repeat (first | with_reducible exact Below.refl _ _ | (with_reducible refine bel_next ?_ ?_ (by assumption)) | (with_reducible refine Below.alloc ?_ ?_ _) | (with_reducible refine Below.drew ?_) | (with_reducible refine below_drewN ?_ _) | (with_reducible refine Below.setCell ?_ ?_ _))) <;> (first | omega | (simp; done) | (simp; omega))), fun q hq => Kp.of_lt fun hql => (by (repeat (first | with_reducible exact Kp.refl _ _ | (with_reducible refine Kp.rng ?_ (by assumption) ?_) | (with_reducible refine Kp.below ?_ (by assumption)) | (with_reducible refine Kp.grown ?_ (by assumption) ?_) | (with_reducible refine Kp.alloc ?_ _) | (with_reducible refine Kp.drew ?_) | (with_reducible refine Kp.drewN ?_ _) | (with_reducible refine Kp.setCell ?_ _ ?_))) <;> (first | omega | (simp; done) | (simp; omega)))⟩⟩
          case measure => simp [intOf]; omega
      ·
        go_wp2_with fail
        refine (l08Stmt_dr g xs ad c _ ((hdr).keep fun q hq => (by (repeat (first | with_reducible exact Kp.refl _ _ | (with_reducible refine Kp.rng ?_ (by assumption) ?_) | (with_reducible refine Kp.below ?_ (by assumption)) | (with_reducible refine Kp.grown ?_ (by assumption) ?_) | (with_reducible refine Kp.alloc ?_ _) | (with_reducible refine Kp.drew ?_) | (with_reducible refine Kp.drewN ?_ _) | (with_reducible refine Kp.setCell ?_ _ ?_))) <;> (first | omega | (simp; done) | (simp; omega))))).mono ?_
        rintro e w9 ⟨s, rfl, hpl, hd9, ob9, or9⟩
        have z9 := ob9.size
        (try simp at z9)
        obtain ⟨op, dst, sa, sb, sc, sn⟩ := s
        unfold stV
        have HPL := Lib.hid hpl
        clear hpl
        go_wp2_with (refine wpList_appSt _ rfl _ _ rfl w.heap.size blk.length cb gb w9.heap.size 0 1 1 blk [⟨op, dst, sa, sb, sc, sn⟩] (by rfl) (by rfl) ((hown).later (by (repeat (first | with_reducible exact Kp.refl _ _ | (with_reducible refine Kp.rng ?_ (by assumption) ?_) | (with_reducible refine Kp.below ?_ (by assumption)) | (with_reducible refine Kp.grown ?_ (by assumption) ?_) | (with_reducible refine Kp.alloc ?_ _) | (with_reducible refine Kp.drew ?_) | (with_reducible refine Kp.drewN ?_ _) | (with_reducible refine Kp.setCell ?_ _ ?_))) <;> (first | omega | (simp; done) | (simp; omega)))) (RdC.six (by go_simp) (by go_simp) (by go_simp) (by go_simp) (by go_simp) (by go_simp)) rfl (by omega) (by first | omega | (simp; done) | (simp; omega)) ?_; intro gn10 cn10 w10 hn10 hb10 hg10 hat10; (try simp at hat10); have z10 := hb10.size; (try simp at z10); have y10 := hg10.size; (try simp at y10); have ge10 := hn10.ge)
        have HE : Hid (((blk ++ [⟨op, dst, sa, sb, sc, sn⟩]) : List St).length = blk.length + 1) := by show _ = _; simp <;> omega
        go_wp2_with fail
        go_roundw
        case rel => exact ⟨k + 1, gn10, cn10, (blk ++ [⟨op, dst, sa, sb, sc, sn⟩]), _, by omega, by go_num, by rw [HE.out], HU.out.append (Ur.one HPL.out), by (rw [HE.out]; have := HBL.out; omega), by rw [HE.out]; exact hn10, ((hd9).keep fun q hq => (by (repeat (first | with_reducible exact Kp.refl _ _ | (with_reducible refine Kp.rng ?_ (by assumption) ?_) | (with_reducible refine Kp.below ?_ (by assumption)) | (with_reducible refine Kp.grown ?_ (by assumption) ?_) | (with_reducible refine Kp.alloc ?_ _) | (with_reducible refine Kp.drew ?_) | (with_reducible refine Kp.drewN ?_ _) | (with_reducible refine Kp.setCell ?_ _ ?_))) <;> (first | omega | (simp; done) | (simp; omega)))), ⟨(by (repeat (first | with_reducible exact Below.refl _ _ | (with_reducible refine bel_next ?_ ?_ (by assumption)) | (with_reducible refine Below.alloc ?_ ?_ _) | (with_reducible refine Below.drew ?_) | (with_reducible refine below_drewN ?_ _) | (with_reducible refine Below.setCell ?_ ?_ _))) <;> (first | omega | (simp; done) | (simp; omega))), fun q hq => Kp.of_lt fun hql => (by (repeat (first | with_reducible exact Kp.refl _ _ | (with_reducible refine Kp.rng ?_ (by assumption) ?_) | (with_reducible refine Kp.below ?_ (by assumption)) | (with_reducible refine Kp.grown ?_ (by assumption) ?_) | (with_reducible refine Kp.alloc ?_ _) | (with_reducible refine Kp.drew ?_) | (with_reducible refine Kp.drewN ?_ _) | (with_reducible refine Kp.setCell ?_ _ ?_))) <;> (first | omega | (simp; done) | (simp; omega)))⟩⟩
        case measure => simp [intOf]; omega
    · go_wp2_with fail
      go_ret
      exact ⟨gb, cb, blk, rfl, ⟨us, HU.out⟩, (by have := HBL.out; omega), hown, hdr, ob0, or0⟩
set_option maxRecDepth 20000 in
set_option maxHeartbeats 8000000 in
theorem block_dr2 (g : Nat) (xs : List Int) (ad : Option Addr) (c : Nat) (n : Int) (w : World) (hd : Dr w g xs ad c) (hn0 : 0 ≤ n) (hn : n ≤ 8) :
    Calls Try.prog 106 #[.pointer (some ⟨g, 0, none⟩), .int .i64 n, .int .i64 0] w fun e w' => ∃ (gb cb : Nat) (blk : List St), e = .returned (.slice (some ⟨gb, 0, none⟩) blk.length cb) ∧ (∃ us, Ur 2 blk us) ∧ (blk.length : Int) ≤ 21 + n ∧
      Own w' w.heap.size 90 6 (some ⟨gb, 0, none⟩) blk.length cb (stCells blk) ∧ Dr w' g xs ad c ∧ Only g w w' := by
  have hgt := hd.gt
  go_enter Try.func106, Try.ntmps106
  go_wp2_with fail
  go_loopw [7, 8] (fun o i wr => ∃ (k gb cb : Nat) (blk us : List St), (k : Int) ≤ n ∧ i = .int .i64 k ∧ o = .slice (some ⟨gb, 0, none⟩) blk.length cb ∧ Ur 2 blk us ∧ blk.length ≤ 21 + k ∧
      Own wr w.heap.size 90 6 (some ⟨gb, 0, none⟩) blk.length cb (stCells blk) ∧ Dr wr g xs ad c ∧ Only g w wr) (fun _ i _ => n.toNat - (intOf i).toNat)
  case atStart =>
    refine ⟨0, w.heap.size, 0, [], [], by omega, rfl, rfl, .nil _, by simp, ?_, hd.keep fun q hq => (by (repeat (first | with_reducible exact Kp.refl _ _ | (with_reducible refine Kp.rng ?_ (by assumption) ?_) | (with_reducible refine Kp.below ?_ (by assumption)) | (with_reducible refine Kp.grown ?_ (by assumption) ?_) | (with_reducible refine Kp.alloc ?_ _) | (with_reducible refine Kp.drew ?_) | (with_reducible refine Kp.drewN ?_ _) | (with_reducible refine Kp.setCell ?_ _ ?_))) <;> (first | omega | (simp; done) | (simp; omega))), ⟨(by (repeat (first | with_reducible exact Below.refl _ _ | (with_reducible refine bel_next ?_ ?_ (by assumption)) | (with_reducible refine Below.alloc ?_ ?_ _) | (with_reducible refine Below.drew ?_) | (with_reducible refine below_drewN ?_ _) | (with_reducible refine Below.setCell ?_ ?_ _))) <;> (first | omega | (simp; done) | (simp; omega))), fun q hq => Kp.of_lt fun hql => (by (repeat (first | with_reducible exact Kp.refl _ _ | (with_reducible refine Kp.rng ?_ (by assumption) ?_) | (with_reducible refine Kp.below ?_ (by assumption)) | (with_reducible refine Kp.grown ?_ (by assumption) ?_) | (with_reducible refine Kp.alloc ?_ _) | (with_reducible refine Kp.drew ?_) | (with_reducible refine Kp.drewN ?_ _) | (with_reducible refine Kp.setCell ?_ _ ?_))) <;> (first | omega | (simp; done) | (simp; omega)))⟩⟩
    exact own_new w 90 6
  case round =>
    obtain ⟨k, gb, cb, blk, us, hk, rfl, rfl, hur, hbl, hown, hdr, ob0, or0⟩ := hrel
    have z0 := ob0.size
    have ge0 := hown.ge
    have HU := Lib.hid hur
    have HBL := Lib.hid hbl
    have hbl100 : blk.length ≤ 100 := by omega
    have hgt0 := hdr.gt
    clear hur hbl
    by_cases hlt : (k : Int) < n
    ·
      by_cases h12 : (blk.length : Int) < 12
      ·
        go_wp2_with fail
        refine (once_dr g xs ad c 8 _ ((hdr).keep fun q hq => (by (repeat (first | with_reducible exact Kp.refl _ _ | (with_reducible refine Kp.rng ?_ (by assumption) ?_) | (with_reducible refine Kp.below ?_ (by assumption)) | (with_reducible refine Kp.grown ?_ (by assumption) ?_) | (with_reducible refine Kp.alloc ?_ _) | (with_reducible refine Kp.drew ?_) | (with_reducible refine Kp.drewN ?_ _) | (with_reducible refine Kp.setCell ?_ _ ?_))) <;> (first | omega | (simp; done) | (simp; omega))))).mono ?_
        rintro e w1 ⟨b, rfl, hd1, ob1, or1⟩
        have z1 := ob1.size
        (try simp at z1)
        cases b
        ·
          go_wp2_with fail
          refine (l08Stmt_dr g xs ad c _ ((hd1).keep fun q hq => (by (repeat (first | with_reducible exact Kp.refl _ _ | (with_reducible refine Kp.rng ?_ (by assumption) ?_) | (with_reducible refine Kp.below ?_ (by assumption)) | (with_reducible refine Kp.grown ?_ (by assumption) ?_) | (with_reducible refine Kp.alloc ?_ _) | (with_reducible refine Kp.drew ?_) | (with_reducible refine Kp.drewN ?_ _) | (with_reducible refine Kp.setCell ?_ _ ?_))) <;> (first | omega | (simp; done) | (simp; omega))))).mono ?_
          rintro e w2 ⟨s, rfl, hpl, hd2, ob2, or2⟩
          have z2 := ob2.size
          (try simp at z2)
          obtain ⟨op, dst, sa, sb, sc, sn⟩ := s
          unfold stV
          have HPL := Lib.hid hpl
          clear hpl
          go_wp2_with (refine wpList_appSt _ rfl _ _ rfl w.heap.size blk.length cb gb w2.heap.size 0 1 1 blk [⟨op, dst, sa, sb, sc, sn⟩] (by rfl) (by rfl) ((hown).later (by (repeat (first | with_reducible exact Kp.refl _ _ | (with_reducible refine Kp.rng ?_ (by assumption) ?_) | (with_reducible refine Kp.below ?_ (by assumption)) | (with_reducible refine Kp.grown ?_ (by assumption) ?_) | (with_reducible refine Kp.alloc ?_ _) | (with_reducible refine Kp.drew ?_) | (with_reducible refine Kp.drewN ?_ _) | (with_reducible refine Kp.setCell ?_ _ ?_))) <;> (first | omega | (simp; done) | (simp; omega)))) (RdC.six (by go_simp) (by go_simp) (by go_simp) (by go_simp) (by go_simp) (by go_simp)) rfl (by omega) (by first | omega | (simp; done) | (simp; omega)) ?_; intro gn3 cn3 w3 hn3 hb3 hg3 hat3; (try simp at hat3); have z3 := hb3.size; (try simp at z3); have y3 := hg3.size; (try simp at y3); have ge3 := hn3.ge)
          have HE : Hid (((blk ++ [⟨op, dst, sa, sb, sc, sn⟩]) : List St).length = blk.length + 1) := by show _ = _; simp <;> omega
          go_wp2_with fail
          go_roundw
          case rel => exact ⟨k + 1, gn3, cn3, (blk ++ [⟨op, dst, sa, sb, sc, sn⟩]), _, by omega, by go_num, by rw [HE.out], HU.out.append (Ur.one HPL.out), by (rw [HE.out]; have := HBL.out; omega), by rw [HE.out]; exact hn3, ((hd2).keep fun q hq => (by (repeat (first | with_reducible exact Kp.refl _ _ | (with_reducible refine Kp.rng ?_ (by assumption) ?_) | (with_reducible refine Kp.below ?_ (by assumption)) | (with_reducible refine Kp.grown ?_ (by assumption) ?_) | (with_reducible refine Kp.alloc ?_ _) | (with_reducible refine Kp.drew ?_) | (with_reducible refine Kp.drewN ?_ _) | (with_reducible refine Kp.setCell ?_ _ ?_))) <;> (first | omega | (simp; done) | (simp; omega)))), ⟨(by (repeat (first | with_reducible exact Below.refl _ _ | (with_reducible refine bel_next ?_ ?_ (by assumption)) | (with_reducible refine Below.alloc ?_ ?_ _) | (with_reducible refine Below.drew ?_) | (with_reducible refine below_drewN ?_ _) | (with_reducible refine Below.setCell ?_ ?_ _))) <;> (first | omega | (simp; done) | (simp; omega))), fun q hq => Kp.of_lt fun hql => (by (repeat (first | with_reducible exact Kp.refl _ _ | (with_reducible refine Kp.rng ?_ (by assumption) ?_) | (with_reducible refine Kp.below ?_ (by assumption)) | (with_reducible refine Kp.grown ?_ (by assumption) ?_) | (with_reducible refine Kp.alloc ?_ _) | (with_reducible refine Kp.drew ?_) | (with_reducible refine Kp.drewN ?_ _) | (with_reducible refine Kp.setCell ?_ _ ?_))) <;> (first | omega | (simp; done) | (simp; omega)))⟩⟩
          case measure => simp [intOf]; omega
        ·
          go_wp2_with fail
          refine (below_dr g xs ad c 3 _ ((hd1).keep fun q hq => (by (repeat (first | with_reducible exact Kp.refl _ _ | (with_reducible refine Kp.rng ?_ (by assumption) ?_) | (with_reducible refine Kp.below ?_ (by assumption)) | (with_reducible refine Kp.grown ?_ (by assumption) ?_) | (with_reducible refine Kp.alloc ?_ _) | (with_reducible refine Kp.drew ?_) | (with_reducible refine Kp.drewN ?_ _) | (with_reducible refine Kp.setCell ?_ _ ?_))) <;> (first | omega | (simp; done) | (simp; omega))))).mono ?_
          rintro e w2 ⟨vn, rfl, vn0, vn1, _, hd2, ob2, or2⟩
          have vn1 := vn1 (by omega)
          have z2 := ob2.size
          (try simp at z2)
          go_wp2_with (refine wpList_appSt _ rfl _ _ rfl w.heap.size blk.length cb gb w2.heap.size 0 1 1 blk [⟨12, 0, 0, 0, 0, 1 + vn⟩] (by rfl) (by rfl) ((hown).later (by (repeat (first | with_reducible exact Kp.refl _ _ | (with_reducible refine Kp.rng ?_ (by assumption) ?_) | (with_reducible refine Kp.below ?_ (by assumption)) | (with_reducible refine Kp.grown ?_ (by assumption) ?_) | (with_reducible refine Kp.alloc ?_ _) | (with_reducible refine Kp.drew ?_) | (with_reducible refine Kp.drewN ?_ _) | (with_reducible refine Kp.setCell ?_ _ ?_))) <;> (first | omega | (simp; done) | (simp; omega)))) (RdC.six (by go_simp) (by go_simp) (by go_simp) (by go_simp) (by go_simp) (by go_simp)) rfl (by omega) (by first | omega | (simp; done) | (simp; omega)) ?_; intro gn3 cn3 w3 hn3 hb3 hg3 hat3; (try simp at hat3); have z3 := hb3.size; (try simp at z3); have y3 := hg3.size; (try simp at y3); have ge3 := hn3.ge)
          go_wp2_with fail
          refine (below_dr g xs ad c 2 _ ((hd2).keep fun q hq => (by (repeat (first | with_reducible exact Kp.refl _ _ | (with_reducible refine Kp.rng ?_ (by assumption) ?_) | (with_reducible refine Kp.below ?_ (by assumption)) | (with_reducible refine Kp.grown ?_ (by assumption) ?_) | (with_reducible refine Kp.alloc ?_ _) | (with_reducible refine Kp.drew ?_) | (with_reducible refine Kp.drewN ?_ _) | (with_reducible refine Kp.setCell ?_ _ ?_))) <;> (first | omega | (simp; done) | (simp; omega))))).mono ?_
          rintro e w4 ⟨vm, rfl, vm0, vm1, _, hd4, ob4, or4⟩
          have vm1 := vm1 (by omega)
          have z4 := ob4.size
          (try simp at z4)
          go_wp2_with fail
          refine (block_dr1 g xs ad c (1 + vm) _ ((hd4).keep fun q hq => (by (repeat (first | with_reducible exact Kp.refl _ _ | (with_reducible refine Kp.rng ?_ (by assumption) ?_) | (with_reducible refine Kp.below ?_ (by assumption)) | (with_reducible refine Kp.grown ?_ (by assumption) ?_) | (with_reducible refine Kp.alloc ?_ _) | (with_reducible refine Kp.drew ?_) | (with_reducible refine Kp.drewN ?_ _) | (with_reducible refine Kp.setCell ?_ _ ?_))) <;> (first | omega | (simp; done) | (simp; omega)))) (by omega) (by omega)).mono ?_
          rintro e w5 ⟨gi, ci, bi, rfl, ⟨ui, huri⟩, hbi, howni, hd5, ob5, or5⟩
          have z5 := ob5.size
          (try simp at z5)
          have gei := howni.ge
          (try simp at gei)
          have HUI := Lib.hid huri
          clear huri
          have HX : True := trivial
          go_wp2_with (first | (refine wpList_appSt _ rfl _ _ rfl w.heap.size (blk.length + 1) cn3 gn3 gi 0 bi.length ci (blk ++ [⟨12, 0, 0, 0, 0, 1 + vn⟩]) bi (by rfl) (by rfl) ((hn3).later (by (repeat (first | with_reducible exact Kp.refl _ _ | (with_reducible refine Kp.rng ?_ (by assumption) ?_) | (with_reducible refine Kp.below ?_ (by assumption)) | (with_reducible refine Kp.grown ?_ (by assumption) ?_) | (with_reducible refine Kp.alloc ?_ _) | (with_reducible refine Kp.drew ?_) | (with_reducible refine Kp.drewN ?_ _) | (with_reducible refine Kp.setCell ?_ _ ?_))) <;> (first | omega | (simp; done) | (simp; omega)))) (howni.later (by (repeat (first | with_reducible exact Kp.refl _ _ | (with_reducible refine Kp.rng ?_ (by assumption) ?_) | (with_reducible refine Kp.below ?_ (by assumption)) | (with_reducible refine Kp.grown ?_ (by assumption) ?_) | (with_reducible refine Kp.alloc ?_ _) | (with_reducible refine Kp.drew ?_) | (with_reducible refine Kp.drewN ?_ _) | (with_reducible refine Kp.setCell ?_ _ ?_))) <;> (first | omega | (simp; done) | (simp; omega)))).rd rfl (by omega) (by first | omega | (simp; done) | (simp; omega)) ?_; intro gn6 cn6 w6 hn6 hb6 hg6 hat6; (try simp at hat6); have z6 := hb6.size; (try simp at z6); have y6 := hg6.size; (try simp at y6); have ge6 := hn6.ge) | (refine wpList_appSt _ rfl _ _ rfl w.heap.size (blk.length + 1 + bi.length) cn6 gn6 w6.heap.size 0 1 1 ((blk ++ [⟨12, 0, 0, 0, 0, 1 + vn⟩]) ++ bi) [⟨13, 0, 0, 0, 0, 0⟩] (by rfl) (by rfl) ((hn6).later (by (repeat (first | with_reducible exact Kp.refl _ _ | (with_reducible refine Kp.rng ?_ (by assumption) ?_) | (with_reducible refine Kp.below ?_ (by assumption)) | (with_reducible refine Kp.grown ?_ (by assumption) ?_) | (with_reducible refine Kp.alloc ?_ _) | (with_reducible refine Kp.drew ?_) | (with_reducible refine Kp.drewN ?_ _) | (with_reducible refine Kp.setCell ?_ _ ?_))) <;> (first | omega | (simp; done) | (simp; omega)))) (RdC.six (by go_simp) (by go_simp) (by go_simp) (by go_simp) (by go_simp) (by go_simp)) rfl (by omega) (by first | omega | (simp; done) | (simp; omega)) ?_; intro gn7 cn7 w7 hn7 hb7 hg7 hat7; (try simp at hat7); have z7 := hb7.size; (try simp at z7); have y7 := hg7.size; (try simp at y7); have ge7 := hn7.ge))
          have HE : Hid (((((blk ++ [⟨12, 0, 0, 0, 0, 1 + vn⟩]) ++ bi) ++ [⟨13, 0, 0, 0, 0, 0⟩]) : List St).length = blk.length + 1 + bi.length + 1) := by show _ = _; simp <;> omega
          go_wp2_with fail
          go_roundw
          case rel => exact ⟨k + 1, gn7, cn7, (((blk ++ [⟨12, 0, 0, 0, 0, 1 + vn⟩]) ++ bi) ++ [⟨13, 0, 0, 0, 0, 0⟩]), _, by omega, by go_num, by rw [HE.out], (by have := HU.out.append (Ur.oneLoop (n := 1 + vn) (by omega) (by omega) HUI.out); simpa [List.append_assoc] using this), by (rw [HE.out]; have := HBL.out; omega), by rw [HE.out]; exact hn7, ((hd5).keep fun q hq => (by (repeat (first | with_reducible exact Kp.refl _ _ | (with_reducible refine Kp.rng ?_ (by assumption) ?_) | (with_reducible refine Kp.below ?_ (by assumption)) | (with_reducible refine Kp.grown ?_ (by assumption) ?_) | (with_reducible refine Kp.alloc ?_ _) | (with_reducible refine Kp.drew ?_) | (with_reducible refine Kp.drewN ?_ _) | (with_reducible refine Kp.setCell ?_ _ ?_))) <;> (first | omega | (simp; done) | (simp; omega)))), ⟨(by (repeat (first | with_reducible exact Below.refl _ _ | (with_reducible refine bel_next ?_ ?_ (by assumption)) | (with_reducible refine Below.alloc ?_ ?_ _) | (with_reducible refine Below.drew ?_) | (with_reducible refine below_drewN ?_ _) | (with_reducible refine Below.setCell ?_ ?_ _))) <;> (first | omega | (simp; done) | (simp; omega))), fun q hq => Kp.of_lt fun hql => (by (repeat (first | with_reducible exact Kp.refl _ _ | (with_reducible refine Kp.rng ?_ (by assumption) ?_) | (with_reducible refine Kp.below ?_ (by assumption)) | (with_reducible refine Kp.grown ?_ (by assumption) ?_) | (with_reducible refine Kp.alloc ?_ _) | (with_reducible refine Kp.drew ?_) | (with_reducible refine Kp.drewN ?_ _) | (with_reducible refine Kp.setCell ?_ _ ?_))) <;> (first | omega | (simp; done) | (simp; omega)))⟩⟩
          case measure => simp [intOf]; omega
      ·
        go_wp2_with fail
        refine (l08Stmt_dr g xs ad c _ ((hdr).keep fun q hq => (by (repeat (first | with_reducible exact Kp.refl _ _ | (with_reducible refine Kp.rng ?_ (by assumption) ?_) | (with_reducible refine Kp.below ?_ (by assumption)) | (with_reducible refine Kp.grown ?_ (by assumption) ?_) | (with_reducible refine Kp.alloc ?_ _) | (with_reducible refine Kp.drew ?_) | (with_reducible refine Kp.drewN ?_ _) | (with_reducible refine Kp.setCell ?_ _ ?_))) <;> (first | omega | (simp; done) | (simp; omega))))).mono ?_
        rintro e w9 ⟨s, rfl, hpl, hd9, ob9, or9⟩
        have z9 := ob9.size
        (try simp at z9)
        obtain ⟨op, dst, sa, sb, sc, sn⟩ := s
        unfold stV
        have HPL := Lib.hid hpl
        clear hpl
        go_wp2_with (refine wpList_appSt _ rfl _ _ rfl w.heap.size blk.length cb gb w9.heap.size 0 1 1 blk [⟨op, dst, sa, sb, sc, sn⟩] (by rfl) (by rfl) ((hown).later (by (repeat (first | with_reducible exact Kp.refl _ _ | (with_reducible refine Kp.rng ?_ (by assumption) ?_) | (with_reducible refine Kp.below ?_ (by assumption)) | (with_reducible refine Kp.grown ?_ (by assumption) ?_) | (with_reducible refine Kp.alloc ?_ _) | (with_reducible refine Kp.drew ?_) | (with_reducible refine Kp.drewN ?_ _) | (with_reducible refine Kp.setCell ?_ _ ?_))) <;> (first | omega | (simp; done) | (simp; omega)))) (RdC.six (by go_simp) (by go_simp) (by go_simp) (by go_simp) (by go_simp) (by go_simp)) rfl (by omega) (by first | omega | (simp; done) | (simp; omega)) ?_; intro gn10 cn10 w10 hn10 hb10 hg10 hat10; (try simp at hat10); have z10 := hb10.size; (try simp at z10); have y10 := hg10.size; (try simp at y10); have ge10 := hn10.ge)
        have HE : Hid (((blk ++ [⟨op, dst, sa, sb, sc, sn⟩]) : List St).length = blk.length + 1) := by show _ = _; simp <;> omega
        go_wp2_with fail
        go_roundw
        case rel => exact ⟨k + 1, gn10, cn10, (blk ++ [⟨op, dst, sa, sb, sc, sn⟩]), _, by omega, by go_num, by rw [HE.out], HU.out.append (Ur.one HPL.out), by (rw [HE.out]; have := HBL.out; omega), by rw [HE.out]; exact hn10, ((hd9).keep fun q hq => (by (repeat (first | with_reducible exact Kp.refl _ _ | (with_reducible refine Kp.rng ?_ (by assumption) ?_) | (with_reducible refine Kp.below ?_ (by assumption)) | (with_reducible refine Kp.grown ?_ (by assumption) ?_) | (with_reducible refine Kp.alloc ?_ _) | (with_reducible refine Kp.drew ?_) | (with_reducible refine Kp.drewN ?_ _) | (with_reducible refine Kp.setCell ?_ _ ?_))) <;> (first | omega | (simp; done) | (simp; omega)))), ⟨(by (repeat (first | with_reducible exact Below.refl _ _ | (with_reducible refine bel_next ?_ ?_ (by assumption)) | (with_reducible refine Below.alloc ?_ ?_ _) | (with_reducible refine Below.drew ?_) | (with_reducible refine below_drewN ?_ _) | (with_reducible refine Below.setCell ?_ ?_ _))) <;> (first | omega | (simp; done) | (simp; omega))), fun q hq => Kp.of_lt fun hql => (by (repeat (first | with_reducible exact Kp.refl _ _ | (with_reducible refine Kp.rng ?_ (by assumption) ?_) | (with_reducible refine Kp.below ?_ (by assumption)) | (with_reducible refine Kp.grown ?_ (by assumption) ?_) | (with_reducible refine Kp.alloc ?_ _) | (with_reducible refine Kp.drew ?_) | (with_reducible refine Kp.drewN ?_ _) | (with_reducible refine Kp.setCell ?_ _ ?_))) <;> (first | omega | (simp; done) | (simp; omega)))⟩⟩
        case measure => simp [intOf]; omega
    · go_wp2_with fail
      go_ret
      exact ⟨gb, cb, blk, rfl, ⟨us, HU.out⟩, (by have := HBL.out; omega), hown, hdr, ob0, or0⟩
/-- What a drawn program is. -/
structure DProg (l : List St) : Prop where
  ur : ∃ us, Ur 2 l us
  len : l.length ≤ 40
  two : ∃ r, l = ⟨2, 0, 0, 0, 0, 0⟩ :: ⟨2, 1, 1, 0, 0, 0⟩ :: r
  out : ∃ r a, l = r ++ [⟨11, 0, a, 0, 0, 0⟩] ∧ 0 ≤ a ∧ a ≤ 3
theorem dprog_of {blk us : List St} {a : Int} (hu : Ur 2 blk us) (hl : (blk.length : Int) ≤ 29) (h0 : 0 ≤ a) (h3 : a < 4) : DProg ([⟨2, 0, 0, 0, 0, 0⟩, ⟨2, 1, 1, 0, 0, 0⟩] ++ blk ++ [⟨11, 0, a, 0, 0, 0⟩]) := by
  have i0 : plain1 ⟨2, 0, 0, 0, 0, 0⟩ := by simp [plain1, stOk, inB]
  have i1 : plain1 ⟨2, 1, 1, 0, 0, 0⟩ := by simp [plain1, stOk, inB]
  have o1 : plain1 ⟨11, 0, a, 0, 0, 0⟩ := by simp [plain1, stOk, inB]; omega
  refine ⟨⟨_, (((Ur.one i0).append (Ur.one i1)).append hu).append (Ur.one o1)⟩, by simp; omega, ⟨blk ++ [⟨11, 0, a, 0, 0, 0⟩], by simp⟩, ⟨[⟨2, 0, 0, 0, 0, 0⟩, ⟨2, 1, 1, 0, 0, 0⟩] ++ blk, a, rfl, h0, by omega⟩⟩
set_option maxRecDepth 20000 in
set_option maxHeartbeats 8000000 in
theorem l08Case_dr (g : Nat) (xs : List Int) (ad : Option Addr) (c : Nat) (w : World) (hd : Dr w g xs ad c) :
    Calls Try.prog 81 #[.pointer (some ⟨g, 0, none⟩)] w fun e w' => ∃ (gp cp : Nat) (l : List St), e = .returned (.slice (some ⟨gp, 0, none⟩) l.length cp) ∧ DProg l ∧
      Own w' w.heap.size 90 6 (some ⟨gp, 0, none⟩) l.length cp (stCells l) ∧ Dr w' g xs ad c ∧ Only g w w' := by
  have hgt := hd.gt
  go_enter Try.func81, Try.ntmps81
  go_wp2_with fail
  obtain ⟨w1, hw1⟩ : ∃ W, W = w.alloc (.cells #[.int .i64 2, .int .i64 0, .int .i64 0, .int .i64 0, .int .i64 0, .int .i64 0, .int .i64 2, .int .i64 1, .int .i64 1, .int .i64 0, .int .i64 0, .int .i64 0] 90) := ⟨_, rfl⟩
  rw [← hw1]
  have hb1 : Below w.heap.size w w1 := by rw [hw1]; exact (Below.refl _ _).alloc (Nat.le_refl _) _
  have x1 : w.heap.size < w1.heap.size := by rw [hw1]; simp
  have hown : Own w1 w.heap.size 90 6 (some ⟨w.heap.size, 0, none⟩) 2 2 (stCells [⟨2, 0, 0, 0, 0, 0⟩, ⟨2, 1, 1, 0, 0, 0⟩]) := by rw [hw1]; exact World.ownsRow_lit w _ 2 (Nat.le_refl _) (by simp [maxLen]) rfl
  clear hw1
  refine (below_dr g xs ad c 9 _ (hd.keep fun q hq => (by (repeat (first | with_reducible exact Kp.refl _ _ | (with_reducible refine Kp.rng ?_ (by assumption) ?_) | (with_reducible refine Kp.below ?_ (by assumption)) | (with_reducible refine Kp.grown ?_ (by assumption) ?_) | (with_reducible refine Kp.alloc ?_ _) | (with_reducible refine Kp.drew ?_) | (with_reducible refine Kp.drewN ?_ _) | (with_reducible refine Kp.setCell ?_ _ ?_))) <;> (first | omega | (simp; done) | (simp; omega))))).mono ?_
  rintro e w2 ⟨vn, rfl, vn0, vn1, _, hd2, ob2, or2⟩
  have vn1 := vn1 (by omega)
  have z2 := ob2.size
  (try simp at z2)
  go_wp2_with fail
  refine (block_dr2 g xs ad c vn _ (hd2.keep fun q hq => (by (repeat (first | with_reducible exact Kp.refl _ _ | (with_reducible refine Kp.rng ?_ (by assumption) ?_) | (with_reducible refine Kp.below ?_ (by assumption)) | (with_reducible refine Kp.grown ?_ (by assumption) ?_) | (with_reducible refine Kp.alloc ?_ _) | (with_reducible refine Kp.drew ?_) | (with_reducible refine Kp.drewN ?_ _) | (with_reducible refine Kp.setCell ?_ _ ?_))) <;> (first | omega | (simp; done) | (simp; omega)))) (by omega) (by omega)).mono ?_
  rintro e w3 ⟨gi, ci, bi, rfl, ⟨ui, huri⟩, hbi, howni, hd3, ob3, or3⟩
  have z3 := ob3.size
  (try simp at z3)
  have gei := howni.ge
  (try simp at gei)
  have HUI := Lib.hid huri
  clear huri
  go_wp2_with (refine wpList_appSt _ rfl _ _ rfl w.heap.size 2 2 w.heap.size gi 0 bi.length ci [⟨2, 0, 0, 0, 0, 0⟩, ⟨2, 1, 1, 0, 0, 0⟩] bi (by rfl) (by rfl) (hown.later (by (repeat (first | with_reducible exact Kp.refl _ _ | (with_reducible refine Kp.rng ?_ (by assumption) ?_) | (with_reducible refine Kp.below ?_ (by assumption)) | (with_reducible refine Kp.grown ?_ (by assumption) ?_) | (with_reducible refine Kp.alloc ?_ _) | (with_reducible refine Kp.drew ?_) | (with_reducible refine Kp.drewN ?_ _) | (with_reducible refine Kp.setCell ?_ _ ?_))) <;> (first | omega | (simp; done) | (simp; omega)))) (howni.later (by (repeat (first | with_reducible exact Kp.refl _ _ | (with_reducible refine Kp.rng ?_ (by assumption) ?_) | (with_reducible refine Kp.below ?_ (by assumption)) | (with_reducible refine Kp.grown ?_ (by assumption) ?_) | (with_reducible refine Kp.alloc ?_ _) | (with_reducible refine Kp.drew ?_) | (with_reducible refine Kp.drewN ?_ _) | (with_reducible refine Kp.setCell ?_ _ ?_))) <;> (first | omega | (simp; done) | (simp; omega)))).rd rfl (by omega) (by first | omega | (simp; done) | (simp; omega)) ?_; intro gn4 cn4 w4 hn4 hb4 hg4 hat4; (try simp at hat4); have z4 := hb4.size; (try simp at z4); have y4 := hg4.size; (try simp at y4); have ge4 := hn4.ge)
  refine (below_dr g xs ad c 4 _ (hd3.keep fun q hq => (by (repeat (first | with_reducible exact Kp.refl _ _ | (with_reducible refine Kp.rng ?_ (by assumption) ?_) | (with_reducible refine Kp.below ?_ (by assumption)) | (with_reducible refine Kp.grown ?_ (by assumption) ?_) | (with_reducible refine Kp.alloc ?_ _) | (with_reducible refine Kp.drew ?_) | (with_reducible refine Kp.drewN ?_ _) | (with_reducible refine Kp.setCell ?_ _ ?_))) <;> (first | omega | (simp; done) | (simp; omega))))).mono ?_
  rintro e w5 ⟨va, rfl, va0, va1, _, hd5, ob5, or5⟩
  have va1 := va1 (by omega)
  have z5 := ob5.size
  (try simp at z5)
  go_wp2_with (refine wpList_appSt _ rfl _ _ rfl w.heap.size (2 + bi.length) cn4 gn4 w5.heap.size 0 1 1 ([⟨2, 0, 0, 0, 0, 0⟩, ⟨2, 1, 1, 0, 0, 0⟩] ++ bi) [⟨11, 0, va, 0, 0, 0⟩] (by rfl) (by rfl) (hn4.later (by (repeat (first | with_reducible exact Kp.refl _ _ | (with_reducible refine Kp.rng ?_ (by assumption) ?_) | (with_reducible refine Kp.below ?_ (by assumption)) | (with_reducible refine Kp.grown ?_ (by assumption) ?_) | (with_reducible refine Kp.alloc ?_ _) | (with_reducible refine Kp.drew ?_) | (with_reducible refine Kp.drewN ?_ _) | (with_reducible refine Kp.setCell ?_ _ ?_))) <;> (first | omega | (simp; done) | (simp; omega)))) (RdC.six (by go_simp) (by go_simp) (by go_simp) (by go_simp) (by go_simp) (by go_simp)) rfl (by omega) (by first | omega | (simp; done) | (simp; omega)) ?_; intro gn6 cn6 w6 hn6 hb6 hg6 hat6; (try simp at hat6); have z6 := hb6.size; (try simp at z6); have y6 := hg6.size; (try simp at y6); have ge6 := hn6.ge)
  have HE : Hid ((([⟨2, 0, 0, 0, 0, 0⟩, ⟨2, 1, 1, 0, 0, 0⟩] ++ bi ++ [⟨11, 0, va, 0, 0, 0⟩]) : List St).length = 2 + bi.length + 1) := by show _ = _; simp; omega
  go_wp2_with fail
  go_ret
  exact ⟨gn6, cn6, [⟨2, 0, 0, 0, 0, 0⟩, ⟨2, 1, 1, 0, 0, 0⟩] ++ bi ++ [⟨11, 0, va, 0, 0, 0⟩], by rw [HE.out]; rfl, dprog_of HUI.out (by omega) va0 va1, by rw [HE.out]; exact hn6, hd5.keep fun q hq => (by (repeat (first | with_reducible exact Kp.refl _ _ | (with_reducible refine Kp.rng ?_ (by assumption) ?_) | (with_reducible refine Kp.below ?_ (by assumption)) | (with_reducible refine Kp.grown ?_ (by assumption) ?_) | (with_reducible refine Kp.alloc ?_ _) | (with_reducible refine Kp.drew ?_) | (with_reducible refine Kp.drewN ?_ _) | (with_reducible refine Kp.setCell ?_ _ ?_))) <;> (first | omega | (simp; done) | (simp; omega))), ⟨(by (repeat (first | with_reducible exact Below.refl _ _ | (with_reducible refine bel_next ?_ ?_ (by assumption)) | (with_reducible refine Below.alloc ?_ ?_ _) | (with_reducible refine Below.drew ?_) | (with_reducible refine below_drewN ?_ _) | (with_reducible refine Below.setCell ?_ ?_ _))) <;> (first | omega | (simp; done) | (simp; omega))), fun q hq => Kp.of_lt fun hql => (by (repeat (first | with_reducible exact Kp.refl _ _ | (with_reducible refine Kp.rng ?_ (by assumption) ?_) | (with_reducible refine Kp.below ?_ (by assumption)) | (with_reducible refine Kp.grown ?_ (by assumption) ?_) | (with_reducible refine Kp.alloc ?_ _) | (with_reducible refine Kp.drew ?_) | (with_reducible refine Kp.drewN ?_ _) | (with_reducible refine Kp.setCell ?_ _ ?_))) <;> (first | omega | (simp; done) | (simp; omega)))⟩⟩
end Go.Proofs.Ytfcijloiebnloaa

/- DrRun -/
namespace Go.Proofs.Ytfcijloiebnloaa
open Go.RowKit
set_option linter.unusedVariables false
set_option linter.unusedSimpArgs false

theorem el_ints : El 56 23 1 24 (.slice none 0 0) := by
  obtain ⟨i0, hi, hz0, hz1, hz2⟩ := info_parts info_ints
  exact ⟨⟨i0, Try.underlying56, hi, hz0, hz1, hz2⟩, rfl, by omega⟩
set_option maxHeartbeats 2000000 in
theorem l03List_dr (g : Nat) (xs : List Int) (ad : Option Addr) (c : Nat) (w : World) (hd : Dr w g xs ad c) :
    Calls Try.prog 108 #[.pointer (some ⟨g, 0, none⟩), .int .i64 16, .int .i64 4] w fun e w' => ∃ (gr cr : Nat) (vs : List Int), e = .returned (.slice (some ⟨gr, 0, none⟩) 4 cr) ∧ vs.length = 4 ∧ allB vs 0 15 = true ∧
      Own w' w.heap.size 3 1 (some ⟨gr, 0, none⟩) 4 cr (I64 vs) ∧ Dr w' g xs ad c ∧ Only g w w' := by
  have hgt := hd.gt
  go_enter Try.func108, Try.ntmps108
  go_wp2_with fail
  go_loopw [7, 8] (fun v i wr => ∃ (k gr cr : Nat) (vs : List Int), k ≤ 4 ∧ i = .int .i64 k ∧ v = .slice (some ⟨gr, 0, none⟩) k cr ∧ vs.length = k ∧ allB vs 0 15 = true ∧
      Own wr w.heap.size 3 1 (some ⟨gr, 0, none⟩) k cr (I64 vs) ∧ Dr wr g xs ad c ∧ Only g w wr) (fun _ i _ => 4 - (intOf i).toNat)
  case atStart => exact ⟨0, w.heap.size, 0, [], Nat.zero_le _, rfl, rfl, rfl, rfl, own_new w 3 1, hd.keep fun q hq => (by (repeat (first | with_reducible exact Kp.refl _ _ | (with_reducible refine Kp.rng ?_ (by assumption) ?_) | (with_reducible refine Kp.below ?_ (by assumption)) | (with_reducible refine Kp.grown ?_ (by assumption) ?_) | (with_reducible refine Kp.alloc ?_ _) | (with_reducible refine Kp.drew ?_) | (with_reducible refine Kp.drewN ?_ _) | (with_reducible refine Kp.setCell ?_ _ ?_))) <;> (first | omega | (simp; done) | (simp; omega))), ⟨(by (repeat (first | with_reducible exact Below.refl _ _ | (with_reducible refine bel_next ?_ ?_ (by assumption)) | (with_reducible refine Below.alloc ?_ ?_ _) | (with_reducible refine Below.drew ?_) | (with_reducible refine below_drewN ?_ _) | (with_reducible refine Below.setCell ?_ ?_ _))) <;> (first | omega | (simp; done) | (simp; omega))), fun q hq => Kp.of_lt fun hql => (by (repeat (first | with_reducible exact Kp.refl _ _ | (with_reducible refine Kp.rng ?_ (by assumption) ?_) | (with_reducible refine Kp.below ?_ (by assumption)) | (with_reducible refine Kp.grown ?_ (by assumption) ?_) | (with_reducible refine Kp.alloc ?_ _) | (with_reducible refine Kp.drew ?_) | (with_reducible refine Kp.drewN ?_ _) | (with_reducible refine Kp.setCell ?_ _ ?_))) <;> (first | omega | (simp; done) | (simp; omega)))⟩⟩
  case round =>
    obtain ⟨k, gr, cr, vs, hk, rfl, rfl, hl, hv, hown, hdr, ob0, or0⟩ := hrel
    have z0 := ob0.size
    have ge0 := hown.ge
    have hgt0 := hdr.gt
    have HL := Lib.hid hl
    have HV := Lib.hid hv
    clear hl hv
    by_cases hlt : (k : Int) < 4
    · go_wp2_with fail
      refine (below_dr g xs ad c 16 _ hdr).mono ?_
      rintro e w2 ⟨v, rfl, v0, v1, _, hd2, ob2, or2⟩
      have v1 := v1 (by omega)
      have z2 := ob2.size
      go_wp2_with (refine wpList_push _ rfl _ _ rfl w.heap.size gr k cr vs v w2.heap.size 1 (by rfl) (by rfl) (hown.later (by (repeat (first | with_reducible exact Kp.refl _ _ | (with_reducible refine Kp.rng ?_ (by assumption) ?_) | (with_reducible refine Kp.below ?_ (by assumption)) | (with_reducible refine Kp.grown ?_ (by assumption) ?_) | (with_reducible refine Kp.alloc ?_ _) | (with_reducible refine Kp.drew ?_) | (with_reducible refine Kp.drewN ?_ _) | (with_reducible refine Kp.setCell ?_ _ ?_))) <;> (first | omega | (simp; done) | (simp; omega)))) (by go_simp) (by omega) (by first | omega | (simp; done) | (simp; omega)) ?_; intro g3 c3 w3 ho3 hb3 hg3 hat3; (try simp at hat3); have z3 := hb3.size; (try simp at z3); have y3 := hg3.size; (try simp at y3); have ge3 := ho3.ge)
      go_roundw
      case rel => exact ⟨k + 1, g3, c3, vs ++ [v], by omega, by go_num, rfl, by simp [HL.out], (by have := HV.out; simp only [allB_iff] at this ⊢; intro x hx; rcases List.mem_append.1 hx with hx | hx; exact this x hx; simp at hx; omega), ho3, hd2.keep fun q hq => (by (repeat (first | with_reducible exact Kp.refl _ _ | (with_reducible refine Kp.rng ?_ (by assumption) ?_) | (with_reducible refine Kp.below ?_ (by assumption)) | (with_reducible refine Kp.grown ?_ (by assumption) ?_) | (with_reducible refine Kp.alloc ?_ _) | (with_reducible refine Kp.drew ?_) | (with_reducible refine Kp.drewN ?_ _) | (with_reducible refine Kp.setCell ?_ _ ?_))) <;> (first | omega | (simp; done) | (simp; omega))), ⟨(by (repeat (first | with_reducible exact Below.refl _ _ | (with_reducible refine bel_next ?_ ?_ (by assumption)) | (with_reducible refine Below.alloc ?_ ?_ _) | (with_reducible refine Below.drew ?_) | (with_reducible refine below_drewN ?_ _) | (with_reducible refine Below.setCell ?_ ?_ _))) <;> (first | omega | (simp; done) | (simp; omega))), fun q hq => Kp.of_lt fun hql => (by (repeat (first | with_reducible exact Kp.refl _ _ | (with_reducible refine Kp.rng ?_ (by assumption) ?_) | (with_reducible refine Kp.below ?_ (by assumption)) | (with_reducible refine Kp.grown ?_ (by assumption) ?_) | (with_reducible refine Kp.alloc ?_ _) | (with_reducible refine Kp.drew ?_) | (with_reducible refine Kp.drewN ?_ _) | (with_reducible refine Kp.setCell ?_ _ ?_))) <;> (first | omega | (simp; done) | (simp; omega)))⟩⟩
      case measure => simp [intOf]; omega
    · obtain rfl : k = 4 := by omega
      have H := Lib.hid (And.intro hown (And.intro hdr (show Only g w wr from ⟨ob0, or0⟩)))
      clear hown hdr ob0 or0
      go_wp2_with fail
      go_ret
      exact ⟨gr, cr, rfl, vs, HL.out, HV.out, H.out.1, H.out.2.1, H.out.2.2⟩
structure RowAt (w0 w : World) (ga : Nat) (r : Rw) : Prop where
  rd : RdC w r.ad (I64 r.xs)
  blk : ∃ b, r.ad = some ⟨b, 0, none⟩ ∧ w0.heap.size ≤ b ∧ b < w.heap.size ∧ b ≠ ga
  len : r.xs.length = 4
  ok : allB r.xs 0 15 = true
set_option maxHeartbeats 2000000 in
theorem l12Inputs_dr (g : Nat) (xs : List Int) (ad : Option Addr) (c : Nat) (w : World) (hd : Dr w g xs ad c) :
    Calls Try.prog 82 #[.pointer (some ⟨g, 0, none⟩)] w fun e w' => ∃ (ga ca : Nat) (rs : List Rw), e = .returned (.slice (some ⟨ga, 0, none⟩) 5 ca) ∧ rs.length = 5 ∧ inputsOk (rs.map Rw.xs) = true ∧
      RdR w' (some ⟨ga, 0, none⟩) rs ∧ ga < w'.heap.size ∧ Dr w' g xs ad c ∧ Only g w w' := by
  have hgt := hd.gt
  go_enter Try.func82, Try.ntmps82
  go_wp2_with fail
  go_loopw [3, 4] (fun v i wr => ∃ (k ga ca : Nat) (rs : List Rw), k ≤ 5 ∧ i = .int .i64 k ∧ v = .slice (some ⟨ga, 0, none⟩) k ca ∧ rs.length = k ∧ (∀ r ∈ rs, RowAt w wr ga r) ∧
      Own wr w.heap.size 23 1 (some ⟨ga, 0, none⟩) k ca (rs.map Rw.val) ∧ Dr wr g xs ad c ∧ Only g w wr) (fun _ i _ => 5 - (intOf i).toNat)
  case atStart => exact ⟨0, w.heap.size, 0, [], Nat.zero_le _, rfl, rfl, rfl, (by intro r hr; cases hr), own_new w 23 1, hd.keep fun q hq => (by (repeat (first | with_reducible exact Kp.refl _ _ | (with_reducible refine Kp.rng ?_ (by assumption) ?_) | (with_reducible refine Kp.below ?_ (by assumption)) | (with_reducible refine Kp.grown ?_ (by assumption) ?_) | (with_reducible refine Kp.alloc ?_ _) | (with_reducible refine Kp.drew ?_) | (with_reducible refine Kp.drewN ?_ _) | (with_reducible refine Kp.setCell ?_ _ ?_))) <;> (first | omega | (simp; done) | (simp; omega))), ⟨(by (repeat (first | with_reducible exact Below.refl _ _ | (with_reducible refine bel_next ?_ ?_ (by assumption)) | (with_reducible refine Below.alloc ?_ ?_ _) | (with_reducible refine Below.drew ?_) | (with_reducible refine below_drewN ?_ _) | (with_reducible refine Below.setCell ?_ ?_ _))) <;> (first | omega | (simp; done) | (simp; omega))), fun q hq => Kp.of_lt fun hql => (by (repeat (first | with_reducible exact Kp.refl _ _ | (with_reducible refine Kp.rng ?_ (by assumption) ?_) | (with_reducible refine Kp.below ?_ (by assumption)) | (with_reducible refine Kp.grown ?_ (by assumption) ?_) | (with_reducible refine Kp.alloc ?_ _) | (with_reducible refine Kp.drew ?_) | (with_reducible refine Kp.drewN ?_ _) | (with_reducible refine Kp.setCell ?_ _ ?_))) <;> (first | omega | (simp; done) | (simp; omega)))⟩⟩
  case round =>
    obtain ⟨k, ga, ca, rs, hk, rfl, rfl, hl, hv, hown, hdr, ob0, or0⟩ := hrel
    have z0 := ob0.size
    have ge0 := hown.ge
    have hgt0 := hdr.gt
    have HL := Lib.hid hl
    have HV := Lib.hid hv
    clear hl hv
    by_cases hlt : (k : Int) < 5
    · go_wp2_with fail
      refine (l03List_dr g xs ad c _ hdr).mono ?_
      rintro e w2 ⟨gr, cr, vs, rfl, hvl, hvo, ho2, hd2, ob2, or2⟩
      have z2 := ob2.size
      have ge2 := ho2.ge
      have HVL := Lib.hid hvl
      have HVO := Lib.hid hvo
      have HO2 := Lib.hid ho2
      clear hvl hvo ho2
      go_wp2_with (refine wpList_appm _ rfl el_ints _ _ rfl w.heap.size ga k ca (rs.map Rw.val) [.slice (some ⟨gr, 0, none⟩) 4 cr] (some ⟨w2.heap.size, 0, none⟩) 1 1 (by rfl) (by rfl) (hown.later (by (repeat (first | with_reducible exact Kp.refl _ _ | (with_reducible refine Kp.rng ?_ (by assumption) ?_) | (with_reducible refine Kp.below ?_ (by assumption)) | (with_reducible refine Kp.grown ?_ (by assumption) ?_) | (with_reducible refine Kp.alloc ?_ _) | (with_reducible refine Kp.drew ?_) | (with_reducible refine Kp.drewN ?_ _) | (with_reducible refine Kp.setCell ?_ _ ?_))) <;> (first | omega | (simp; done) | (simp; omega)))) rfl (.inr ⟨w2.heap.size, 0, rfl, fun j hj => by (have : j = 0 := (by simpa using hj)); subst this; go_simp⟩) (by intro u hu; simp at hu; subst hu; rfl) (by intro h; cases h) (by omega) (by omega) (by first | omega | (simp; done) | (simp; omega)) ?_; intro g3 c3 w3 ho3 hb3 hg3 hat3; (try simp at hat3); have z3 := hb3.size; (try simp at z3); have y3 := hg3.size; (try simp at y3); have ge3 := ho3.ge)
      have HROWS : Hid (∀ r ∈ rs ++ [⟨some ⟨gr, 0, none⟩, cr, vs⟩], RowAt w w3 g3 r) := by
        intro r hr
        rcases List.mem_append.1 hr with hr | hr
        · obtain ⟨h1, ⟨b, h2, h3, h4, h5⟩, h6, h7⟩ := HV.out r hr
          refine ⟨h1.keep fun b' off e => ?_, ⟨b, h2, h3, by omega, by omega⟩, h6, h7⟩
          rw [h2] at e
          obtain rfl : b = b' := by simpa using congrArg Addr.block (Option.some.inj e)
          exact (by (repeat (first | with_reducible exact Kp.refl _ _ | (with_reducible refine Kp.rng ?_ (by assumption) ?_) | (with_reducible refine Kp.below ?_ (by assumption)) | (with_reducible refine Kp.grown ?_ (by assumption) ?_) | (with_reducible refine Kp.alloc ?_ _) | (with_reducible refine Kp.drew ?_) | (with_reducible refine Kp.drewN ?_ _) | (with_reducible refine Kp.setCell ?_ _ ?_))) <;> (first | omega | (simp; done) | (simp; omega)))
        · simp at hr; subst hr
          exact ⟨(HO2.out.later (by (repeat (first | with_reducible exact Kp.refl _ _ | (with_reducible refine Kp.rng ?_ (by assumption) ?_) | (with_reducible refine Kp.below ?_ (by assumption)) | (with_reducible refine Kp.grown ?_ (by assumption) ?_) | (with_reducible refine Kp.alloc ?_ _) | (with_reducible refine Kp.drew ?_) | (with_reducible refine Kp.drewN ?_ _) | (with_reducible refine Kp.setCell ?_ _ ?_))) <;> (first | omega | (simp; done) | (simp; omega)))).rd, ⟨gr, rfl, by omega, by omega, by omega⟩, HVL.out, HVO.out⟩
      go_wp2_with fail
      go_roundw
      case rel => exact ⟨k + 1, g3, c3, rs ++ [⟨some ⟨gr, 0, none⟩, cr, vs⟩], by omega, by go_num, rfl, by simp [HL.out], HROWS.out, (by have := ho3; simpa [Rw.val, HVL.out] using this), hd2.keep fun q hq => (by (repeat (first | with_reducible exact Kp.refl _ _ | (with_reducible refine Kp.rng ?_ (by assumption) ?_) | (with_reducible refine Kp.below ?_ (by assumption)) | (with_reducible refine Kp.grown ?_ (by assumption) ?_) | (with_reducible refine Kp.alloc ?_ _) | (with_reducible refine Kp.drew ?_) | (with_reducible refine Kp.drewN ?_ _) | (with_reducible refine Kp.setCell ?_ _ ?_))) <;> (first | omega | (simp; done) | (simp; omega))), ⟨(by (repeat (first | with_reducible exact Below.refl _ _ | (with_reducible refine bel_next ?_ ?_ (by assumption)) | (with_reducible refine Below.alloc ?_ ?_ _) | (with_reducible refine Below.drew ?_) | (with_reducible refine below_drewN ?_ _) | (with_reducible refine Below.setCell ?_ ?_ _))) <;> (first | omega | (simp; done) | (simp; omega))), fun q hq => Kp.of_lt fun hql => (by (repeat (first | with_reducible exact Kp.refl _ _ | (with_reducible refine Kp.rng ?_ (by assumption) ?_) | (with_reducible refine Kp.below ?_ (by assumption)) | (with_reducible refine Kp.grown ?_ (by assumption) ?_) | (with_reducible refine Kp.alloc ?_ _) | (with_reducible refine Kp.drew ?_) | (with_reducible refine Kp.drewN ?_ _) | (with_reducible refine Kp.setCell ?_ _ ?_))) <;> (first | omega | (simp; done) | (simp; omega)))⟩⟩
      case measure => simp [intOf]; omega
    · obtain rfl : k = 5 := by omega
      have H := Lib.hid (And.intro hown (And.intro hdr (show Only g w wr from ⟨ob0, or0⟩)))
      clear hown hdr ob0 or0
      go_wp2_with fail
      go_ret
      refine ⟨ga, ⟨ca, rfl⟩, rs, HL.out, ?_, ⟨H.out.1.rd, fun r hr => (HV.out r hr).rd⟩, ge0.2, H.out.2.1, H.out.2.2⟩
      simp only [inputsOk, rowsOk, Bool.and_eq_true, List.all_eq_true, List.mem_map]
      refine ⟨?_, by simp [HL.out]⟩
      rintro _ ⟨r, hr, rfl⟩
      have := HV.out r hr
      simp [rowOk, this.len, this.ok]
set_option maxHeartbeats 1000000 in
theorem DrawRun_any (xs : List Int) (ad : Option Addr) (c : Nat) (w : World) (hm : xs.length ≤ 1048576) (hr : RdC w ad (xs.map (Value.int .u8))) (hb : ∀ x ∈ xs, 0 ≤ x ∧ x ≤ 255) :
    Calls Try.prog 42 #[.slice ad xs.length c] w fun e w' => ∃ (gp cp ga ca : Nat) (l : List St) (rs : List Rw), e = .returned (.tuple #[.slice (some ⟨gp, 0, none⟩) l.length cp, .slice (some ⟨ga, 0, none⟩) 5 ca]) ∧ DProg l ∧
      Own w' w.heap.size 90 6 (some ⟨gp, 0, none⟩) l.length cp (stCells l) ∧ rs.length = 5 ∧ inputsOk (rs.map Rw.xs) = true ∧ RdR w' (some ⟨ga, 0, none⟩) rs ∧ Below w.heap.size w w' := by
  go_enter Try.func42, Try.ntmps42
  go_wp2_with fail
  refine (l01New_any xs ad c w hm hr hb).mono ?_
  rintro e w1 ⟨g, rfl, hgl, hd1, hb1⟩
  have z1 := hb1.size
  have hg1 := hd1.gt
  go_wp2_with fail
  refine (l08Case_dr g xs ad c _ hd1).mono ?_
  rintro e w2 ⟨gp, cp, l, rfl, hp, ho, hd2, ob2, or2⟩
  have z2 := ob2.size
  have ge2 := ho.ge
  go_wp2_with fail
  refine (l12Inputs_dr g xs ad c _ hd2).mono ?_
  rintro e w3 ⟨ga, ca, rs, rfl, hl5, hin, hrd, _, hd3, ob3, or3⟩
  have z3 := ob3.size
  go_wp2_with fail
  go_ret2
  exact ⟨gp, cp, ga, ca, l, rs, rfl, hp, (ho.lo (by omega)).later (by (repeat (first | with_reducible exact Kp.refl _ _ | (with_reducible refine Kp.rng ?_ (by assumption) ?_) | (with_reducible refine Kp.below ?_ (by assumption)) | (with_reducible refine Kp.grown ?_ (by assumption) ?_) | (with_reducible refine Kp.alloc ?_ _) | (with_reducible refine Kp.drew ?_) | (with_reducible refine Kp.drewN ?_ _) | (with_reducible refine Kp.setCell ?_ _ ?_))) <;> (first | omega | (simp; done) | (simp; omega))), hl5, hin, hrd, (by (repeat (first | with_reducible exact Below.refl _ _ | (with_reducible refine bel_next ?_ ?_ (by assumption)) | (with_reducible refine Below.alloc ?_ ?_ _) | (with_reducible refine Below.drew ?_) | (with_reducible refine below_drewN ?_ _) | (with_reducible refine Below.setCell ?_ ?_ _))) <;> (first | omega | (simp; done) | (simp; omega)))⟩

end Go.Proofs.Ytfcijloiebnloaa

/- Outc -/
namespace Go.Proofs.Ytfcijloiebnloaa
open Go.RowKit
set_option linter.unusedVariables false
set_option linter.unusedSimpArgs false

def cntOut (us : List St) : Nat := (us.filter fun s => s.op == 11).length
theorem cntOut_snoc {us : List St} {k : Nat} {s : St} (h : us[k]? = some s) : cntOut (us.take (k + 1)) = cntOut (us.take k) + if s.op = 11 then 1 else 0 := by
  rw [take_snocS h]
  simp only [cntOut, List.filter_append, List.length_append, List.filter_cons, List.filter_nil]
  by_cases h1 : s.op = 11 <;> simp [h1]
theorem cntOut_le (us : List St) : cntOut us ≤ us.length := List.length_filter_le _ _
def outCount (us : List St) (ok : Bool) : Int := if ok then cntOut us else -1

set_option maxHeartbeats 2000000 in
theorem iOutputCount_any (xs us : List St) (ok : Bool) (hv : IsUnr xs us ok) (ad : Option Addr) (cp : Nat) (w : World) (hm : xs.length ≤ maxLen) (hcp : xs.length ≤ cp) (hcm : cp ≤ maxLen) (hr : RdC w ad (stCells xs)) :
    Calls Try.prog 48 #[.slice ad xs.length cp] w fun e w' => e = .returned (.int .i64 (outCount us ok)) ∧ Below w.heap.size w w' := by
  have hmm := hm
  unfold maxLen at hm
  have HR := Lib.hid hr
  have h120 := unr_len hv
  have HV := Lib.hid hv
  clear hr hv
  cases ok
  · go_enter Try.func48, Try.ntmps48
    go_wp2_with (go_at_call 77; refine (iUnroll_any xs us _ HV.out _ _ _ hmm hcp hcm HR.out).mono ?_; rintro e w1 ⟨a, c, rfl, ho, hb⟩)
    go_ret
    exact ⟨rfl, hb⟩
  · go_enter Try.func48, Try.ntmps48
    go_wp2_with (go_at_call 77; refine (iUnroll_any xs us _ HV.out _ _ _ hmm hcp hcm HR.out).mono ?_; rintro e w1 ⟨a, c, rfl, ho, hb⟩)
    have hz := hb.size
    have HRU := Lib.hid ho.rd
    clear ho
    go_loopw [5, 17] (fun m i wr => ∃ k : Nat, k ≤ us.length ∧ i = .int .i64 k ∧ m = .int .i64 (cntOut (us.take k) : Int) ∧ Below w1.heap.size w1 wr) (fun _ i _ => us.length - (intOf i).toNat)
    case atStart => exact ⟨0, Nat.zero_le _, rfl, rfl, Below.refl _ _⟩
    case round =>
      obtain ⟨k, hk, rfl, rfl, hbw⟩ := hrel
      have hbs := hbw.size
      have hcl := cntOut_le (us.take k)
      have hcl2 : (us.take k).length ≤ k := List.length_take_le _ _
      by_cases hlt : k < us.length
      · obtain ⟨b, off, op, dst, sa, sb, sc, sn, rfl, hbl, hx, c0, c1, c2, c3, c4, c5⟩ := (HRU.out.below hbw).st k hlt
        have hsn := cntOut_snoc hx
        obtain ⟨q, hq⟩ : ∃ q, q = cntOut (us.take k) := ⟨_, rfl⟩
        rw [← hq] at hsn hcl
        rw [← hq]
        have HQ := Lib.hid hq
        clear hq
        by_cases p : op = 11
        · subst p
          have HS : Hid (cntOut (us.take (k + 1)) = q + 1) := by show _ = _; rw [hsn]; simp
          clear hsn hx
          go_wp2_with fail
          go_roundw
          case rel => exact ⟨k + 1, by omega, by go_num, by rw [HS.out]; go_num, (by (repeat (first | with_reducible exact Below.refl _ _ | (with_reducible refine bel_next ?_ ?_ (by assumption)) | (with_reducible refine Below.alloc ?_ ?_ _) | (with_reducible refine Below.drew ?_) | (with_reducible refine below_drewN ?_ _) | (with_reducible refine Below.setCell ?_ ?_ _))) <;> (first | omega | (simp; done) | (simp; omega)))⟩
          case measure => simp [intOf]; omega
        · have HS : Hid (cntOut (us.take (k + 1)) = q) := by show _ = _; rw [hsn]; simp [p]
          have q11 : (op == 11) = false := by simp; omega
          clear hsn hx p
          go_wp2_with fail
          go_roundw
          case rel => exact ⟨k + 1, by omega, by go_num, by rw [HS.out], (by (repeat (first | with_reducible exact Below.refl _ _ | (with_reducible refine bel_next ?_ ?_ (by assumption)) | (with_reducible refine Below.alloc ?_ ?_ _) | (with_reducible refine Below.drew ?_) | (with_reducible refine below_drewN ?_ _) | (with_reducible refine Below.setCell ?_ ?_ _))) <;> (first | omega | (simp; done) | (simp; omega)))⟩
          case measure => simp [intOf]; omega
      · have HK : Hid ((cntOut (us.take k) : Int) = outCount us true) := by show _ = _; rw [List.take_of_length_le (by omega)]; rfl
        go_wp2_with fail
        go_ret
        exact ⟨ret_int (by rw [HK.out]), (by (repeat (first | with_reducible exact Below.refl _ _ | (with_reducible refine bel_next ?_ ?_ (by assumption)) | (with_reducible refine Below.alloc ?_ ?_ _) | (with_reducible refine Below.drew ?_) | (with_reducible refine below_drewN ?_ _) | (with_reducible refine Below.setCell ?_ ?_ _))) <;> (first | omega | (simp; done) | (simp; omega)))⟩

end Go.Proofs.Ytfcijloiebnloaa

/- Eval -/
namespace Go.Proofs.Ytfcijloiebnloaa
open Go.RowKit
set_option linter.unusedVariables false
set_option linter.unusedSimpArgs false

theorem Own.int {w : World} {lo e g n cap : Nat} {ws : List Int} (h : Own w lo e 1 (some ⟨g, 0, none⟩) n cap (I64 ws)) (j : Nat) (hj : j < ws.length) : w.cell? ⟨g, j, none⟩ = some (.int .i64 (at0 ws j)) := by
  rw [(h.get j (by simpa using hj)).1, I64_get ws j hj, at0_nat]
  simp [List.getD, List.getElem?_eq_getElem hj]
theorem RdC.int {w : World} {ad : Option Addr} {xs : List Int} (h : RdC w ad (I64 xs)) (j : Nat) (hj : j < xs.length) : ∃ b off, ad = some ⟨b, off, none⟩ ∧ b < w.heap.size ∧ w.cell? ⟨b, off + j, none⟩ = some (.int .i64 (at0 xs j)) := by
  obtain ⟨b, off, h1, h2⟩ := h.at j hj
  refine ⟨b, off, h1, lt_of_cell (h2 j hj), ?_⟩
  rw [h2 j hj, at0_nat]
  simp [List.getD, List.getElem?_eq_getElem hj]
theorem evalB_circ {gs : List Gt} {os bs : List Int} (h : circOk gs os = false) : evalB gs os bs = false := by simp [evalB, h]
theorem evalB_bits {gs : List Gt} {os bs : List Int} (h : bitsB bs = false) : evalB gs os bs = false := by simp [evalB, h]
theorem bitsB_spec (bs : List Int) : (allB bs 0 1 && ((bs.length : Int) == 80)) = bitsB bs := by
  unfold bitsB; rw [Bool.and_comm]; congr 1
  by_cases h : bs.length = 80 <;> simp [h] <;> omega

set_option maxRecDepth 20000 in
set_option maxHeartbeats 4000000 in
theorem iEvalWires_any (gs : List Gt) (os bs : List Int) (a1 a2 ab : Option Addr) (c1 c2 cb : Nat) (w : World) (hm : gs.length ≤ 1048576) (hm2 : os.length ≤ 1048576) (hmb : bs.length ≤ 1048576) (hr : RdC w a1 (gtCells gs)) (hr2 : RdC w a2 (I64 os)) (hrb : RdC w ab (I64 bs)) :
    Calls Try.prog 116 #[.agg #[.slice a1 gs.length c1, .slice a2 os.length c2], .slice ab bs.length cb] w fun e w' => ∃ ad c, e = .returned (.slice ad (evalWires gs os bs).length c) ∧ Own w' w.heap.size 3 1 ad (evalWires gs os bs).length c (I64 (evalWires gs os bs)) ∧ Below w.heap.size w w' := by
  have HR := Lib.hid hr
  have HR2 := Lib.hid hr2
  have HB := Lib.hid hrb
  clear hr hr2 hrb
  cases hc : circOk gs os
  · have HC := Lib.hid hc
    rw [show evalWires gs os bs = [] by simp [evalWires, evalOuts, evalB_circ hc]]
    
    clear hc
    go_enter Try.func116, Try.ntmps116
    go_wp2_with (go_at_call 47; refine (iCircuitOk_any gs os _ _ _ _ _ hm hm2 (HR.out.below (by (repeat (first | with_reducible exact Below.refl _ _ | (with_reducible refine bel_next ?_ ?_ (by assumption)) | (with_reducible refine Below.alloc ?_ ?_ _) | (with_reducible refine Below.drew ?_) | (with_reducible refine below_drewN ?_ _) | (with_reducible refine Below.setCell ?_ ?_ _))) <;> (first | omega | (simp; done) | (simp; omega)))) (HR2.out.below (by (repeat (first | with_reducible exact Below.refl _ _ | (with_reducible refine bel_next ?_ ?_ (by assumption)) | (with_reducible refine Below.alloc ?_ ?_ _) | (with_reducible refine Below.drew ?_) | (with_reducible refine below_drewN ?_ _) | (with_reducible refine Below.setCell ?_ ?_ _))) <;> (first | omega | (simp; done) | (simp; omega))))).mono ?_; rintro e w1 ⟨rfl, hb1⟩; rw [HC.out]; have z1 := hb1.size; (try simp at z1); have y1 : w.heap.size < w1.heap.size := (by omega); have k1_0 := bel_keeps hb1 (b := w.heap.size) (o := 0) (v := .slice a1 gs.length c1) (by go_simp); have k1_1 := bel_keeps hb1 (b := w.heap.size) (o := 1) (v := .slice a2 os.length c2) (by go_simp))
    go_ret
    exact ⟨none, 0, rfl, Own.nil _ _ _ _, (by (repeat (first | with_reducible exact Below.refl _ _ | (with_reducible refine bel_next ?_ ?_ (by assumption)) | (with_reducible refine Below.alloc ?_ ?_ _) | (with_reducible refine Below.drew ?_) | (with_reducible refine below_drewN ?_ _) | (with_reducible refine Below.setCell ?_ ?_ _))) <;> (first | omega | (simp; done) | (simp; omega)))⟩
  have HC := Lib.hid hc
  by_cases h80 : bs.length = 80
  case neg =>
    have t80 : ((bs.length : Int) != 80) = true := by simp; omega
    rw [show evalWires gs os bs = [] by simp [evalWires, evalOuts, evalB, bitsB, h80]]
    
    clear hc h80
    go_enter Try.func116, Try.ntmps116
    go_wp2_with (first | (go_at_call 47; refine (iCircuitOk_any gs os _ _ _ _ _ hm hm2 (HR.out.below (by (repeat (first | with_reducible exact Below.refl _ _ | (with_reducible refine bel_next ?_ ?_ (by assumption)) | (with_reducible refine Below.alloc ?_ ?_ _) | (with_reducible refine Below.drew ?_) | (with_reducible refine below_drewN ?_ _) | (with_reducible refine Below.setCell ?_ ?_ _))) <;> (first | omega | (simp; done) | (simp; omega)))) (HR2.out.below (by (repeat (first | with_reducible exact Below.refl _ _ | (with_reducible refine bel_next ?_ ?_ (by assumption)) | (with_reducible refine Below.alloc ?_ ?_ _) | (with_reducible refine Below.drew ?_) | (with_reducible refine below_drewN ?_ _) | (with_reducible refine Below.setCell ?_ ?_ _))) <;> (first | omega | (simp; done) | (simp; omega))))).mono ?_; rintro e w1 ⟨rfl, hb1⟩; rw [HC.out]; have z1 := hb1.size; (try simp at z1); have y1 : w.heap.size < w1.heap.size := (by omega); have k1_0 := bel_keeps hb1 (b := w.heap.size) (o := 0) (v := .slice a1 gs.length c1) (by go_simp); have k1_1 := bel_keeps hb1 (b := w.heap.size) (o := 1) (v := .slice a2 os.length c2) (by go_simp)) | (go_at_call 115; refine (areBits_any bs _ _ _ (by unfold maxLen; omega) (HB.out.below (by (repeat (first | with_reducible exact Below.refl _ _ | (with_reducible refine bel_next ?_ ?_ (by assumption)) | (with_reducible refine Below.alloc ?_ ?_ _) | (with_reducible refine Below.drew ?_) | (with_reducible refine below_drewN ?_ _) | (with_reducible refine Below.setCell ?_ ?_ _))) <;> (first | omega | (simp; done) | (simp; omega))))).mono ?_; rintro e _ ⟨rfl, rfl⟩; rw [HC.out]))
    go_ret
    exact ⟨none, 0, rfl, Own.nil _ _ _ _, (by (repeat (first | with_reducible exact Below.refl _ _ | (with_reducible refine bel_next ?_ ?_ (by assumption)) | (with_reducible refine Below.alloc ?_ ?_ _) | (with_reducible refine Below.drew ?_) | (with_reducible refine below_drewN ?_ _) | (with_reducible refine Below.setCell ?_ ?_ _))) <;> (first | omega | (simp; done) | (simp; omega)))⟩
  have t80 : ((bs.length : Int) != 80) = false := by simp; omega
  cases hall : allB bs 0 1
  · have HT := Lib.hid hall
    rw [show evalWires gs os bs = [] by simp [evalWires, evalOuts, evalB, bitsB, hall]]
    
    clear hc hall
    have H80 := Lib.hid h80
    clear h80
    go_enter Try.func116, Try.ntmps116
    go_wp2_with (first | (go_at_call 47; refine (iCircuitOk_any gs os _ _ _ _ _ hm hm2 (HR.out.below (by (repeat (first | with_reducible exact Below.refl _ _ | (with_reducible refine bel_next ?_ ?_ (by assumption)) | (with_reducible refine Below.alloc ?_ ?_ _) | (with_reducible refine Below.drew ?_) | (with_reducible refine below_drewN ?_ _) | (with_reducible refine Below.setCell ?_ ?_ _))) <;> (first | omega | (simp; done) | (simp; omega)))) (HR2.out.below (by (repeat (first | with_reducible exact Below.refl _ _ | (with_reducible refine bel_next ?_ ?_ (by assumption)) | (with_reducible refine Below.alloc ?_ ?_ _) | (with_reducible refine Below.drew ?_) | (with_reducible refine below_drewN ?_ _) | (with_reducible refine Below.setCell ?_ ?_ _))) <;> (first | omega | (simp; done) | (simp; omega))))).mono ?_; rintro e w1 ⟨rfl, hb1⟩; rw [HC.out]; have z1 := hb1.size; (try simp at z1); have y1 : w.heap.size < w1.heap.size := (by omega); have k1_0 := bel_keeps hb1 (b := w.heap.size) (o := 0) (v := .slice a1 gs.length c1) (by go_simp); have k1_1 := bel_keeps hb1 (b := w.heap.size) (o := 1) (v := .slice a2 os.length c2) (by go_simp)) | (go_at_call 115; refine (areBits_any bs _ _ _ (by unfold maxLen; omega) (HB.out.below (by (repeat (first | with_reducible exact Below.refl _ _ | (with_reducible refine bel_next ?_ ?_ (by assumption)) | (with_reducible refine Below.alloc ?_ ?_ _) | (with_reducible refine Below.drew ?_) | (with_reducible refine below_drewN ?_ _) | (with_reducible refine Below.setCell ?_ ?_ _))) <;> (first | omega | (simp; done) | (simp; omega))))).mono ?_; rintro e _ ⟨rfl, rfl⟩; rw [HT.out]))
    go_ret
    exact ⟨none, 0, rfl, Own.nil _ _ _ _, (by (repeat (first | with_reducible exact Below.refl _ _ | (with_reducible refine bel_next ?_ ?_ (by assumption)) | (with_reducible refine Below.alloc ?_ ?_ _) | (with_reducible refine Below.drew ?_) | (with_reducible refine below_drewN ?_ _) | (with_reducible refine Below.setCell ?_ ?_ _))) <;> (first | omega | (simp; done) | (simp; omega)))⟩
  have ht : bitsB bs = true := by simp [bitsB, h80, hall]
  have HT := Lib.hid hall
  have hev : evalB gs os bs = true := by simp [evalB, hc, ht]
  obtain ⟨hok, hob, h6⟩ := circ_parts hc
  have H80 := Lib.hid h80
  have HL := Lib.hid hall
  have HOK := Lib.hid hok
  have HOB := Lib.hid hob
  have HF : Hid (evalWires gs os bs = evalW bs gs) := by show _ = _; simp [evalWires, hev]
  rw [HF.out]
  clear hc ht hev h80 hall hok hob HF
  go_enter Try.func116, Try.ntmps116
  go_wp2_with (first | (go_at_call 47; refine (iCircuitOk_any gs os _ _ _ _ _ hm hm2 (HR.out.below (by (repeat (first | with_reducible exact Below.refl _ _ | (with_reducible refine bel_next ?_ ?_ (by assumption)) | (with_reducible refine Below.alloc ?_ ?_ _) | (with_reducible refine Below.drew ?_) | (with_reducible refine below_drewN ?_ _) | (with_reducible refine Below.setCell ?_ ?_ _))) <;> (first | omega | (simp; done) | (simp; omega)))) (HR2.out.below (by (repeat (first | with_reducible exact Below.refl _ _ | (with_reducible refine bel_next ?_ ?_ (by assumption)) | (with_reducible refine Below.alloc ?_ ?_ _) | (with_reducible refine Below.drew ?_) | (with_reducible refine below_drewN ?_ _) | (with_reducible refine Below.setCell ?_ ?_ _))) <;> (first | omega | (simp; done) | (simp; omega))))).mono ?_; rintro e w1 ⟨rfl, hb1⟩; rw [HC.out]; have z1 := hb1.size; (try simp at z1); have y1 : w.heap.size < w1.heap.size := (by omega); have k1_0 := bel_keeps hb1 (b := w.heap.size) (o := 0) (v := .slice a1 gs.length c1) (by go_simp); have k1_1 := bel_keeps hb1 (b := w.heap.size) (o := 1) (v := .slice a2 os.length c2) (by go_simp)) | (go_at_call 115; refine (areBits_any bs _ _ _ (by unfold maxLen; omega) (HB.out.below (by (repeat (first | with_reducible exact Below.refl _ _ | (with_reducible refine bel_next ?_ ?_ (by assumption)) | (with_reducible refine Below.alloc ?_ ?_ _) | (with_reducible refine Below.drew ?_) | (with_reducible refine below_drewN ?_ _) | (with_reducible refine Below.setCell ?_ ?_ _))) <;> (first | omega | (simp; done) | (simp; omega))))).mono ?_; rintro e _ ⟨rfl, rfl⟩; rw [HT.out]))
  go_loopw [5, 26] (fun v i wr => ∃ k g cp : Nat, k ≤ gs.length ∧ i = .int .i64 k ∧ v = .slice (some ⟨g, 0, none⟩) k cp ∧ Own wr (w.heap.size + 1) 3 1 (some ⟨g, 0, none⟩) k cp (I64 (evalW bs (gs.take k))) ∧ wr.cell? ⟨w.heap.size, 0, none⟩ = some (.slice a1 gs.length c1) ∧ Below w.heap.size w wr) (fun _ i _ => gs.length - (intOf i).toNat)
  case atStart => exact ⟨0, w1.heap.size, 0, Nat.zero_le _, rfl, rfl, own_last w1 3 1 (w.heap.size + 1) w1.heap.size rfl (by omega), (by first | (go_simp; done) | assumption), (by (repeat (first | with_reducible exact Below.refl _ _ | (with_reducible refine bel_next ?_ ?_ (by assumption)) | (with_reducible refine Below.alloc ?_ ?_ _) | (with_reducible refine Below.drew ?_) | (with_reducible refine below_drewN ?_ _) | (with_reducible refine Below.setCell ?_ ?_ _))) <;> (first | omega | (simp; done) | (simp; omega)))⟩
  case round =>
    obtain ⟨k, g, cp, hk, rfl, rfl, hown, k0, hbw⟩ := hrel
    have hbs := hbw.size
    have hge := hown.ge
    have hbx : w.heap.size < wr.heap.size := lt_of_cell k0
    by_cases hlt : k < gs.length
    · obtain ⟨b, off, gk, ga, gb, rfl, hbl, hx, d0, d1, d2⟩ := (HR.out.below hbw).gt k hlt
      have hg := gate_cases (show gateOk gk ga gb k = true from gtsOk_at HOK.out hx)
      have HSN := Lib.hid (evalW_snoc (bs := bs) hx)
      have hwl : (evalW bs (gs.take k)).length = k := by rw [evalW_len, List.length_take]; omega
      have hwb := evalW_b HL.out (gs.take k) (gtsOk_take HOK.out k)
      obtain ⟨ws, hws⟩ : ∃ x, x = evalW bs (gs.take k) := ⟨_, rfl⟩
      rw [← hws] at hown hwl hwb
      have HW := Lib.hid hws
      have HO := Lib.hid hown
      have HWL := Lib.hid hwl
      have HWB := Lib.hid hwb
      have hli : (k : Int) < (gs.length : Int) := by omega
      clear hws hown hwl hwb hx
      rcases hg with ⟨rfl, rfl, q1, q2⟩ | ⟨rfl, rfl, q1, q2⟩ | ⟨rfl, q1, q2, q3, q4⟩ | ⟨rfl, q1, q2, q3, q4⟩ | ⟨rfl, rfl, q1, q2⟩
      · obtain ⟨n, rfl⟩ := Int.eq_ofNat_of_zero_le q1
        have hnb : n < bs.length := by have := H80.out; omega
        obtain ⟨bb, ob, rfl, hbb, e1⟩ := (HB.out.below hbw).int n hnb
        have hnb' : (n : Int) < (bs.length : Int) := by omega
        have HV : Hid (gval bs ws ⟨1, n, 0⟩ = at0 bs n) := by show _ = _; simp [gval]
        obtain ⟨x, hx⟩ : ∃ x, x = at0 bs n := ⟨_, rfl⟩
        rw [← hx] at e1 HV
        clear hx
        go_wp2_with (refine wpList_push _ rfl _ _ rfl (w.heap.size + 1) g k cp ws x (wr.heap.size + 1) 1 (by rfl) (by rfl) (HO.out.later (by (repeat (first | with_reducible exact Kp.refl _ _ | (with_reducible refine Kp.rng ?_ (by assumption) ?_) | (with_reducible refine Kp.below ?_ (by assumption)) | (with_reducible refine Kp.grown ?_ (by assumption) ?_) | (with_reducible refine Kp.alloc ?_ _) | (with_reducible refine Kp.drew ?_) | (with_reducible refine Kp.drewN ?_ _) | (with_reducible refine Kp.setCell ?_ _ ?_))) <;> (first | omega | (simp; done) | (simp; omega)))) (by go_simp) (by omega) (by first | omega | (simp; done) | (simp; omega)) ?_; intro g5 c5 w5 ho5 hb5 hg5 hat5; (try simp at hat5); have z5 := hb5.size; (try simp at z5); have y5 := hg5.size; (try simp at y5); have ge5 := ho5.ge; have kk5 := grown_cell hg5 (b := w.heap.size) (o := 0) (x := .slice (some ⟨b, off, none⟩) gs.length c1) (by first | (simp; omega) | omega) (by go_simp))
        go_roundw
        case rel =>
          exact ⟨k + 1, g5, c5, by omega, by go_num, rfl, by (rw [HSN.out, ← HW.out, HV.out]; exact ho5), kk5, (by (repeat (first | with_reducible exact Below.refl _ _ | (with_reducible refine bel_next ?_ ?_ (by assumption)) | (with_reducible refine Below.alloc ?_ ?_ _) | (with_reducible refine Below.drew ?_) | (with_reducible refine below_drewN ?_ _) | (with_reducible refine Below.setCell ?_ ?_ _))) <;> (first | omega | (simp; done) | (simp; omega)))⟩
        case measure => simp [intOf]; omega
      · obtain ⟨n, rfl⟩ := Int.eq_ofNat_of_zero_le q1
        have HV : Hid (gval bs ws ⟨2, n, 0⟩ = n) := by show _ = _; simp [gval]
        go_wp2_with (refine wpList_push _ rfl _ _ rfl (w.heap.size + 1) g k cp ws (n : Int) (wr.heap.size + 1) 1 (by rfl) (by rfl) (HO.out.later (by (repeat (first | with_reducible exact Kp.refl _ _ | (with_reducible refine Kp.rng ?_ (by assumption) ?_) | (with_reducible refine Kp.below ?_ (by assumption)) | (with_reducible refine Kp.grown ?_ (by assumption) ?_) | (with_reducible refine Kp.alloc ?_ _) | (with_reducible refine Kp.drew ?_) | (with_reducible refine Kp.drewN ?_ _) | (with_reducible refine Kp.setCell ?_ _ ?_))) <;> (first | omega | (simp; done) | (simp; omega)))) (by go_simp) (by omega) (by first | omega | (simp; done) | (simp; omega)) ?_; intro g5 c5 w5 ho5 hb5 hg5 hat5; (try simp at hat5); have z5 := hb5.size; (try simp at z5); have y5 := hg5.size; (try simp at y5); have ge5 := ho5.ge; have kk5 := grown_cell hg5 (b := w.heap.size) (o := 0) (x := .slice (some ⟨b, off, none⟩) gs.length c1) (by first | (simp; omega) | omega) (by go_simp))
        go_roundw
        case rel =>
          exact ⟨k + 1, g5, c5, by omega, by go_num, rfl, by (rw [HSN.out, ← HW.out, HV.out]; exact ho5), kk5, (by (repeat (first | with_reducible exact Below.refl _ _ | (with_reducible refine bel_next ?_ ?_ (by assumption)) | (with_reducible refine Below.alloc ?_ ?_ _) | (with_reducible refine Below.drew ?_) | (with_reducible refine below_drewN ?_ _) | (with_reducible refine Below.setCell ?_ ?_ _))) <;> (first | omega | (simp; done) | (simp; omega)))⟩
        case measure => simp [intOf]; omega
      · obtain ⟨n, rfl⟩ := Int.eq_ofNat_of_zero_le q1
        obtain ⟨m, rfl⟩ := Int.eq_ofNat_of_zero_le q3
        have e1 := HO.out.int n (by have := HWL.out; omega)
        have e2 := HO.out.int m (by have := HWL.out; omega)
        have HV : Hid (gval bs ws ⟨3, n, m⟩ = bits .xor .i64 (at0 ws n) (at0 ws m)) := by show _ = _; simp [gval, xorI]
        obtain ⟨x, hx⟩ : ∃ x, x = at0 ws n := ⟨_, rfl⟩
        obtain ⟨y, hy⟩ : ∃ x, x = at0 ws m := ⟨_, rfl⟩
        rw [← hx] at e1 HV
        rw [← hy] at e2 HV
        clear hx hy
        go_wp2_with (refine wpList_push _ rfl _ _ rfl (w.heap.size + 1) g k cp ws (bits .xor .i64 x y) (wr.heap.size + 1) 1 (by rfl) (by rfl) (HO.out.later (by (repeat (first | with_reducible exact Kp.refl _ _ | (with_reducible refine Kp.rng ?_ (by assumption) ?_) | (with_reducible refine Kp.below ?_ (by assumption)) | (with_reducible refine Kp.grown ?_ (by assumption) ?_) | (with_reducible refine Kp.alloc ?_ _) | (with_reducible refine Kp.drew ?_) | (with_reducible refine Kp.drewN ?_ _) | (with_reducible refine Kp.setCell ?_ _ ?_))) <;> (first | omega | (simp; done) | (simp; omega)))) (by go_simp) (by omega) (by first | omega | (simp; done) | (simp; omega)) ?_; intro g5 c5 w5 ho5 hb5 hg5 hat5; (try simp at hat5); have z5 := hb5.size; (try simp at z5); have y5 := hg5.size; (try simp at y5); have ge5 := ho5.ge; have kk5 := grown_cell hg5 (b := w.heap.size) (o := 0) (x := .slice (some ⟨b, off, none⟩) gs.length c1) (by first | (simp; omega) | omega) (by go_simp))
        go_quiet (fail)
        go_wp2_with (refine wpList_push _ rfl _ _ rfl (w.heap.size + 1) g k cp ws (bits .xor .i64 x y) (wr.heap.size + 1) 1 (by rfl) (by rfl) (HO.out.later (by (repeat (first | with_reducible exact Kp.refl _ _ | (with_reducible refine Kp.rng ?_ (by assumption) ?_) | (with_reducible refine Kp.below ?_ (by assumption)) | (with_reducible refine Kp.grown ?_ (by assumption) ?_) | (with_reducible refine Kp.alloc ?_ _) | (with_reducible refine Kp.drew ?_) | (with_reducible refine Kp.drewN ?_ _) | (with_reducible refine Kp.setCell ?_ _ ?_))) <;> (first | omega | (simp; done) | (simp; omega)))) (by go_simp) (by omega) (by first | omega | (simp; done) | (simp; omega)) ?_; intro g5 c5 w5 ho5 hb5 hg5 hat5; (try simp at hat5); have z5 := hb5.size; (try simp at z5); have y5 := hg5.size; (try simp at y5); have ge5 := ho5.ge; have kk5 := grown_cell hg5 (b := w.heap.size) (o := 0) (x := .slice (some ⟨b, off, none⟩) gs.length c1) (by first | (simp; omega) | omega) (by go_simp))
        go_roundw
        case rel =>
          exact ⟨k + 1, g5, c5, by omega, by go_num, rfl, by (rw [HSN.out, ← HW.out, HV.out]; exact ho5), kk5, (by (repeat (first | with_reducible exact Below.refl _ _ | (with_reducible refine bel_next ?_ ?_ (by assumption)) | (with_reducible refine Below.alloc ?_ ?_ _) | (with_reducible refine Below.drew ?_) | (with_reducible refine below_drewN ?_ _) | (with_reducible refine Below.setCell ?_ ?_ _))) <;> (first | omega | (simp; done) | (simp; omega)))⟩
        case measure => simp [intOf]; omega
      · obtain ⟨n, rfl⟩ := Int.eq_ofNat_of_zero_le q1
        obtain ⟨m, rfl⟩ := Int.eq_ofNat_of_zero_le q3
        have e1 := HO.out.int n (by have := HWL.out; omega)
        have e2 := HO.out.int m (by have := HWL.out; omega)
        have HV : Hid (gval bs ws ⟨4, n, m⟩ = bits .and .i64 (at0 ws n) (at0 ws m)) := by show _ = _; simp [gval, andI]
        obtain ⟨x, hx⟩ : ∃ x, x = at0 ws n := ⟨_, rfl⟩
        obtain ⟨y, hy⟩ : ∃ x, x = at0 ws m := ⟨_, rfl⟩
        rw [← hx] at e1 HV
        rw [← hy] at e2 HV
        clear hx hy
        go_wp2_with (refine wpList_push _ rfl _ _ rfl (w.heap.size + 1) g k cp ws (bits .and .i64 x y) (wr.heap.size + 1) 1 (by rfl) (by rfl) (HO.out.later (by (repeat (first | with_reducible exact Kp.refl _ _ | (with_reducible refine Kp.rng ?_ (by assumption) ?_) | (with_reducible refine Kp.below ?_ (by assumption)) | (with_reducible refine Kp.grown ?_ (by assumption) ?_) | (with_reducible refine Kp.alloc ?_ _) | (with_reducible refine Kp.drew ?_) | (with_reducible refine Kp.drewN ?_ _) | (with_reducible refine Kp.setCell ?_ _ ?_))) <;> (first | omega | (simp; done) | (simp; omega)))) (by go_simp) (by omega) (by first | omega | (simp; done) | (simp; omega)) ?_; intro g5 c5 w5 ho5 hb5 hg5 hat5; (try simp at hat5); have z5 := hb5.size; (try simp at z5); have y5 := hg5.size; (try simp at y5); have ge5 := ho5.ge; have kk5 := grown_cell hg5 (b := w.heap.size) (o := 0) (x := .slice (some ⟨b, off, none⟩) gs.length c1) (by first | (simp; omega) | omega) (by go_simp))
        go_quiet (fail)
        go_wp2_with (refine wpList_push _ rfl _ _ rfl (w.heap.size + 1) g k cp ws (bits .and .i64 x y) (wr.heap.size + 1) 1 (by rfl) (by rfl) (HO.out.later (by (repeat (first | with_reducible exact Kp.refl _ _ | (with_reducible refine Kp.rng ?_ (by assumption) ?_) | (with_reducible refine Kp.below ?_ (by assumption)) | (with_reducible refine Kp.grown ?_ (by assumption) ?_) | (with_reducible refine Kp.alloc ?_ _) | (with_reducible refine Kp.drew ?_) | (with_reducible refine Kp.drewN ?_ _) | (with_reducible refine Kp.setCell ?_ _ ?_))) <;> (first | omega | (simp; done) | (simp; omega)))) (by go_simp) (by omega) (by first | omega | (simp; done) | (simp; omega)) ?_; intro g5 c5 w5 ho5 hb5 hg5 hat5; (try simp at hat5); have z5 := hb5.size; (try simp at z5); have y5 := hg5.size; (try simp at y5); have ge5 := ho5.ge; have kk5 := grown_cell hg5 (b := w.heap.size) (o := 0) (x := .slice (some ⟨b, off, none⟩) gs.length c1) (by first | (simp; omega) | omega) (by go_simp))
        go_roundw
        case rel =>
          exact ⟨k + 1, g5, c5, by omega, by go_num, rfl, by (rw [HSN.out, ← HW.out, HV.out]; exact ho5), kk5, (by (repeat (first | with_reducible exact Below.refl _ _ | (with_reducible refine bel_next ?_ ?_ (by assumption)) | (with_reducible refine Below.alloc ?_ ?_ _) | (with_reducible refine Below.drew ?_) | (with_reducible refine below_drewN ?_ _) | (with_reducible refine Below.setCell ?_ ?_ _))) <;> (first | omega | (simp; done) | (simp; omega)))⟩
        case measure => simp [intOf]; omega
      · obtain ⟨n, rfl⟩ := Int.eq_ofNat_of_zero_le q1
        have e1 := HO.out.int n (by have := HWL.out; omega)
        have hx01 := at0_b (i := (n : Int)) HWB.out (by omega) (by omega)
        have HV : Hid (gval bs ws ⟨5, n, 0⟩ = 1 - at0 ws n) := by show _ = _; simp [gval]
        obtain ⟨x, hx⟩ : ∃ x, x = at0 ws n := ⟨_, rfl⟩
        rw [← hx] at e1 HV hx01
        obtain ⟨x0, x1⟩ := hx01
        clear hx
        go_wp2_with (refine wpList_push _ rfl _ _ rfl (w.heap.size + 1) g k cp ws (1 - x) (wr.heap.size + 1) 1 (by rfl) (by rfl) (HO.out.later (by (repeat (first | with_reducible exact Kp.refl _ _ | (with_reducible refine Kp.rng ?_ (by assumption) ?_) | (with_reducible refine Kp.below ?_ (by assumption)) | (with_reducible refine Kp.grown ?_ (by assumption) ?_) | (with_reducible refine Kp.alloc ?_ _) | (with_reducible refine Kp.drew ?_) | (with_reducible refine Kp.drewN ?_ _) | (with_reducible refine Kp.setCell ?_ _ ?_))) <;> (first | omega | (simp; done) | (simp; omega)))) (by go_simp) (by omega) (by first | omega | (simp; done) | (simp; omega)) ?_; intro g5 c5 w5 ho5 hb5 hg5 hat5; (try simp at hat5); have z5 := hb5.size; (try simp at z5); have y5 := hg5.size; (try simp at y5); have ge5 := ho5.ge; have kk5 := grown_cell hg5 (b := w.heap.size) (o := 0) (x := .slice (some ⟨b, off, none⟩) gs.length c1) (by first | (simp; omega) | omega) (by go_simp))
        go_roundw
        case rel =>
          exact ⟨k + 1, g5, c5, by omega, by go_num, rfl, by (rw [HSN.out, ← HW.out, HV.out]; exact ho5), kk5, (by (repeat (first | with_reducible exact Below.refl _ _ | (with_reducible refine bel_next ?_ ?_ (by assumption)) | (with_reducible refine Below.alloc ?_ ?_ _) | (with_reducible refine Below.drew ?_) | (with_reducible refine below_drewN ?_ _) | (with_reducible refine Below.setCell ?_ ?_ _))) <;> (first | omega | (simp; done) | (simp; omega)))⟩
        case measure => simp [intOf]; omega
    · have HK : Hid (evalW bs (gs.take k) = evalW bs gs) := by show _ = _; rw [List.take_of_length_le (by omega)]
      rw [HK.out] at hown
      have HKL : Hid ((evalW bs gs).length = k) := by show _ = _; rw [evalW_len]; omega
      have HO := Lib.hid hown
      clear hown
      go_wp2_with fail
      go_ret
      exact ⟨some ⟨g, 0, none⟩, cp, by (rw [HKL.out]; rfl), by rw [HKL.out]; exact HO.out.lo (by omega), hbw⟩

set_option maxRecDepth 20000 in
set_option maxHeartbeats 4000000 in
theorem iEvalCircuit_any (gs : List Gt) (os bs : List Int) (a1 a2 ab : Option Addr) (c1 c2 cb : Nat) (w : World) (hm : gs.length ≤ 1048576) (hm2 : os.length ≤ 1048576) (hmb : bs.length ≤ 1048576) (hr : RdC w a1 (gtCells gs)) (hr2 : RdC w a2 (I64 os)) (hrb : RdC w ab (I64 bs)) :
    Calls Try.prog 89 #[.agg #[.slice a1 gs.length c1, .slice a2 os.length c2], .slice ab bs.length cb] w fun e w' => ∃ ad c, e = .returned (.tuple #[.slice ad (evalOuts gs os bs).length c, .bool (evalB gs os bs)]) ∧ Own w' w.heap.size 3 1 ad (evalOuts gs os bs).length c (I64 (evalOuts gs os bs)) ∧ Below w.heap.size w w' := by
  have HR := Lib.hid hr
  have HR2 := Lib.hid hr2
  have HB := Lib.hid hrb
  clear hr hr2 hrb
  cases hc : circOk gs os
  · have HC := Lib.hid hc
    rw [show evalOuts gs os bs = [] by simp [evalWires, evalOuts, evalB_circ hc]]
    rw [evalB_circ hc]
    clear hc
    go_enter Try.func89, Try.ntmps89
    go_wp2_with (go_at_call 47; refine (iCircuitOk_any gs os _ _ _ _ _ hm hm2 (HR.out.below (by (repeat (first | with_reducible exact Below.refl _ _ | (with_reducible refine bel_next ?_ ?_ (by assumption)) | (with_reducible refine Below.alloc ?_ ?_ _) | (with_reducible refine Below.drew ?_) | (with_reducible refine below_drewN ?_ _) | (with_reducible refine Below.setCell ?_ ?_ _))) <;> (first | omega | (simp; done) | (simp; omega)))) (HR2.out.below (by (repeat (first | with_reducible exact Below.refl _ _ | (with_reducible refine bel_next ?_ ?_ (by assumption)) | (with_reducible refine Below.alloc ?_ ?_ _) | (with_reducible refine Below.drew ?_) | (with_reducible refine below_drewN ?_ _) | (with_reducible refine Below.setCell ?_ ?_ _))) <;> (first | omega | (simp; done) | (simp; omega))))).mono ?_; rintro e w1 ⟨rfl, hb1⟩; rw [HC.out]; have z1 := hb1.size; (try simp at z1); have y1 : w.heap.size < w1.heap.size := (by omega); have k1_0 := bel_keeps hb1 (b := w.heap.size) (o := 0) (v := .slice a1 gs.length c1) (by go_simp); have k1_1 := bel_keeps hb1 (b := w.heap.size) (o := 1) (v := .slice a2 os.length c2) (by go_simp))
    go_ret2
    exact ⟨none, 0, rfl, Own.nil _ _ _ _, (by (repeat (first | with_reducible exact Below.refl _ _ | (with_reducible refine bel_next ?_ ?_ (by assumption)) | (with_reducible refine Below.alloc ?_ ?_ _) | (with_reducible refine Below.drew ?_) | (with_reducible refine below_drewN ?_ _) | (with_reducible refine Below.setCell ?_ ?_ _))) <;> (first | omega | (simp; done) | (simp; omega)))⟩
  have HC := Lib.hid hc
  by_cases h80 : bs.length = 80
  case neg =>
    have t80 : ((bs.length : Int) != 80) = true := by simp; omega
    rw [show evalOuts gs os bs = [] by simp [evalWires, evalOuts, evalB, bitsB, h80]]
    rw [show evalB gs os bs = false by simp [evalB, bitsB, h80]]
    clear hc h80
    go_enter Try.func89, Try.ntmps89
    go_wp2_with (first | (go_at_call 47; refine (iCircuitOk_any gs os _ _ _ _ _ hm hm2 (HR.out.below (by (repeat (first | with_reducible exact Below.refl _ _ | (with_reducible refine bel_next ?_ ?_ (by assumption)) | (with_reducible refine Below.alloc ?_ ?_ _) | (with_reducible refine Below.drew ?_) | (with_reducible refine below_drewN ?_ _) | (with_reducible refine Below.setCell ?_ ?_ _))) <;> (first | omega | (simp; done) | (simp; omega)))) (HR2.out.below (by (repeat (first | with_reducible exact Below.refl _ _ | (with_reducible refine bel_next ?_ ?_ (by assumption)) | (with_reducible refine Below.alloc ?_ ?_ _) | (with_reducible refine Below.drew ?_) | (with_reducible refine below_drewN ?_ _) | (with_reducible refine Below.setCell ?_ ?_ _))) <;> (first | omega | (simp; done) | (simp; omega))))).mono ?_; rintro e w1 ⟨rfl, hb1⟩; rw [HC.out]; have z1 := hb1.size; (try simp at z1); have y1 : w.heap.size < w1.heap.size := (by omega); have k1_0 := bel_keeps hb1 (b := w.heap.size) (o := 0) (v := .slice a1 gs.length c1) (by go_simp); have k1_1 := bel_keeps hb1 (b := w.heap.size) (o := 1) (v := .slice a2 os.length c2) (by go_simp)) | (go_at_call 115; refine (areBits_any bs _ _ _ (by unfold maxLen; omega) (HB.out.below (by (repeat (first | with_reducible exact Below.refl _ _ | (with_reducible refine bel_next ?_ ?_ (by assumption)) | (with_reducible refine Below.alloc ?_ ?_ _) | (with_reducible refine Below.drew ?_) | (with_reducible refine below_drewN ?_ _) | (with_reducible refine Below.setCell ?_ ?_ _))) <;> (first | omega | (simp; done) | (simp; omega))))).mono ?_; rintro e _ ⟨rfl, rfl⟩; rw [HC.out]))
    go_ret2
    exact ⟨none, 0, rfl, Own.nil _ _ _ _, (by (repeat (first | with_reducible exact Below.refl _ _ | (with_reducible refine bel_next ?_ ?_ (by assumption)) | (with_reducible refine Below.alloc ?_ ?_ _) | (with_reducible refine Below.drew ?_) | (with_reducible refine below_drewN ?_ _) | (with_reducible refine Below.setCell ?_ ?_ _))) <;> (first | omega | (simp; done) | (simp; omega)))⟩
  have t80 : ((bs.length : Int) != 80) = false := by simp; omega
  cases hall : allB bs 0 1
  · have HT := Lib.hid hall
    rw [show evalOuts gs os bs = [] by simp [evalWires, evalOuts, evalB, bitsB, hall]]
    rw [show evalB gs os bs = false by simp [evalB, bitsB, hall]]
    clear hc hall
    have H80 := Lib.hid h80
    clear h80
    go_enter Try.func89, Try.ntmps89
    go_wp2_with (first | (go_at_call 47; refine (iCircuitOk_any gs os _ _ _ _ _ hm hm2 (HR.out.below (by (repeat (first | with_reducible exact Below.refl _ _ | (with_reducible refine bel_next ?_ ?_ (by assumption)) | (with_reducible refine Below.alloc ?_ ?_ _) | (with_reducible refine Below.drew ?_) | (with_reducible refine below_drewN ?_ _) | (with_reducible refine Below.setCell ?_ ?_ _))) <;> (first | omega | (simp; done) | (simp; omega)))) (HR2.out.below (by (repeat (first | with_reducible exact Below.refl _ _ | (with_reducible refine bel_next ?_ ?_ (by assumption)) | (with_reducible refine Below.alloc ?_ ?_ _) | (with_reducible refine Below.drew ?_) | (with_reducible refine below_drewN ?_ _) | (with_reducible refine Below.setCell ?_ ?_ _))) <;> (first | omega | (simp; done) | (simp; omega))))).mono ?_; rintro e w1 ⟨rfl, hb1⟩; rw [HC.out]; have z1 := hb1.size; (try simp at z1); have y1 : w.heap.size < w1.heap.size := (by omega); have k1_0 := bel_keeps hb1 (b := w.heap.size) (o := 0) (v := .slice a1 gs.length c1) (by go_simp); have k1_1 := bel_keeps hb1 (b := w.heap.size) (o := 1) (v := .slice a2 os.length c2) (by go_simp)) | (go_at_call 115; refine (areBits_any bs _ _ _ (by unfold maxLen; omega) (HB.out.below (by (repeat (first | with_reducible exact Below.refl _ _ | (with_reducible refine bel_next ?_ ?_ (by assumption)) | (with_reducible refine Below.alloc ?_ ?_ _) | (with_reducible refine Below.drew ?_) | (with_reducible refine below_drewN ?_ _) | (with_reducible refine Below.setCell ?_ ?_ _))) <;> (first | omega | (simp; done) | (simp; omega))))).mono ?_; rintro e _ ⟨rfl, rfl⟩; rw [HT.out]))
    go_ret2
    exact ⟨none, 0, rfl, Own.nil _ _ _ _, (by (repeat (first | with_reducible exact Below.refl _ _ | (with_reducible refine bel_next ?_ ?_ (by assumption)) | (with_reducible refine Below.alloc ?_ ?_ _) | (with_reducible refine Below.drew ?_) | (with_reducible refine below_drewN ?_ _) | (with_reducible refine Below.setCell ?_ ?_ _))) <;> (first | omega | (simp; done) | (simp; omega)))⟩
  have ht : bitsB bs = true := by simp [bitsB, h80, hall]
  have HT := Lib.hid hall
  have hev : evalB gs os bs = true := by simp [evalB, hc, ht]
  obtain ⟨hok, hob, h6⟩ := circ_parts hc
  have H80 := Lib.hid h80
  have HL := Lib.hid hall
  have HOK := Lib.hid hok
  have HOB := Lib.hid hob
  have HWV : Hid (evalWires gs os bs = evalW bs gs) := by show _ = _; simp [evalWires, hev]
  have HF : Hid (evalOuts gs os bs = outsOf (evalW bs gs) os) := by show _ = _; simp [evalOuts, hev]
  rw [HF.out, hev]
  have hwl := evalW_len bs gs
  obtain ⟨ws, hws⟩ : ∃ x, x = evalW bs gs := ⟨_, rfl⟩
  rw [← hws] at HWV hwl
  rw [← hws]
  have HWL := Lib.hid hwl
  clear hc ht hev h80 hall hok hob HF hws hwl
  go_enter Try.func89, Try.ntmps89
  go_wp2_with (first | (go_at_call 47; refine (iCircuitOk_any gs os _ _ _ _ _ hm hm2 (HR.out.below (by (repeat (first | with_reducible exact Below.refl _ _ | (with_reducible refine bel_next ?_ ?_ (by assumption)) | (with_reducible refine Below.alloc ?_ ?_ _) | (with_reducible refine Below.drew ?_) | (with_reducible refine below_drewN ?_ _) | (with_reducible refine Below.setCell ?_ ?_ _))) <;> (first | omega | (simp; done) | (simp; omega)))) (HR2.out.below (by (repeat (first | with_reducible exact Below.refl _ _ | (with_reducible refine bel_next ?_ ?_ (by assumption)) | (with_reducible refine Below.alloc ?_ ?_ _) | (with_reducible refine Below.drew ?_) | (with_reducible refine below_drewN ?_ _) | (with_reducible refine Below.setCell ?_ ?_ _))) <;> (first | omega | (simp; done) | (simp; omega))))).mono ?_; rintro e w1 ⟨rfl, hb1⟩; rw [HC.out]; have z1 := hb1.size; (try simp at z1); have y1 : w.heap.size < w1.heap.size := (by omega); have k1_0 := bel_keeps hb1 (b := w.heap.size) (o := 0) (v := .slice a1 gs.length c1) (by go_simp); have k1_1 := bel_keeps hb1 (b := w.heap.size) (o := 1) (v := .slice a2 os.length c2) (by go_simp)) | (go_at_call 115; refine (areBits_any bs _ _ _ (by unfold maxLen; omega) (HB.out.below (by (repeat (first | with_reducible exact Below.refl _ _ | (with_reducible refine bel_next ?_ ?_ (by assumption)) | (with_reducible refine Below.alloc ?_ ?_ _) | (with_reducible refine Below.drew ?_) | (with_reducible refine below_drewN ?_ _) | (with_reducible refine Below.setCell ?_ ?_ _))) <;> (first | omega | (simp; done) | (simp; omega))))).mono ?_; rintro e _ ⟨rfl, rfl⟩; rw [HT.out]) | (go_at_call 116; refine (iEvalWires_any gs os bs _ _ _ _ _ _ _ hm hm2 hmb (HR.out.below (by (repeat (first | with_reducible exact Below.refl _ _ | (with_reducible refine bel_next ?_ ?_ (by assumption)) | (with_reducible refine Below.alloc ?_ ?_ _) | (with_reducible refine Below.drew ?_) | (with_reducible refine below_drewN ?_ _) | (with_reducible refine Below.setCell ?_ ?_ _))) <;> (first | omega | (simp; done) | (simp; omega)))) (HR2.out.below (by (repeat (first | with_reducible exact Below.refl _ _ | (with_reducible refine bel_next ?_ ?_ (by assumption)) | (with_reducible refine Below.alloc ?_ ?_ _) | (with_reducible refine Below.drew ?_) | (with_reducible refine below_drewN ?_ _) | (with_reducible refine Below.setCell ?_ ?_ _))) <;> (first | omega | (simp; done) | (simp; omega)))) (HB.out.below (by (repeat (first | with_reducible exact Below.refl _ _ | (with_reducible refine bel_next ?_ ?_ (by assumption)) | (with_reducible refine Below.alloc ?_ ?_ _) | (with_reducible refine Below.drew ?_) | (with_reducible refine below_drewN ?_ _) | (with_reducible refine Below.setCell ?_ ?_ _))) <;> (first | omega | (simp; done) | (simp; omega))))).mono ?_; rw [HWV.out]; rintro e w2 ⟨ad2, cp2, rfl, ho2, hb2⟩; have z2 := hb2.size; (try simp at z2); have y2 : w.heap.size < w2.heap.size := (by omega); have k2_0 := bel_keeps hb2 (b := w.heap.size) (o := 0) (v := .slice a1 gs.length c1) (by go_simp); have k2_1 := bel_keeps hb2 (b := w.heap.size) (o := 1) (v := .slice a2 os.length c2) (by go_simp); have HI2 := Lib.hid ho2.ins; have HO2 := Lib.hid ho2.rd; clear ho2))
  go_loopw [7, 30] (fun v i wr => ∃ k g cp : Nat, k ≤ os.length ∧ i = .int .i64 k ∧ v = .slice (some ⟨g, 0, none⟩) k cp ∧ Own wr (w.heap.size + 1) 3 1 (some ⟨g, 0, none⟩) k cp (I64 (outsOf ws (os.take k))) ∧ wr.cell? ⟨w.heap.size, 1, none⟩ = some (.slice a2 os.length c2) ∧ RdC wr ad2 (I64 ws) ∧ (∀ a, ad2 = some a → a.block ≠ g) ∧ Below w.heap.size w wr ∧ w2.heap.size ≤ wr.heap.size) (fun _ i _ => os.length - (intOf i).toNat)
  case atStart =>
    refine ⟨0, w2.heap.size, 0, Nat.zero_le _, rfl, rfl, ?_, (by first | (go_simp; done) | assumption), HO2.out.below (by (repeat (first | with_reducible exact Below.refl _ _ | (with_reducible refine bel_next ?_ ?_ (by assumption)) | (with_reducible refine Below.alloc ?_ ?_ _) | (with_reducible refine Below.drew ?_) | (with_reducible refine below_drewN ?_ _) | (with_reducible refine Below.setCell ?_ ?_ _))) <;> (first | omega | (simp; done) | (simp; omega))), ?_, (by (repeat (first | with_reducible exact Below.refl _ _ | (with_reducible refine bel_next ?_ ?_ (by assumption)) | (with_reducible refine Below.alloc ?_ ?_ _) | (with_reducible refine Below.drew ?_) | (with_reducible refine below_drewN ?_ _) | (with_reducible refine Below.setCell ?_ ?_ _))) <;> (first | omega | (simp; done) | (simp; omega))), (by first | omega | (simp; done) | (simp; omega))⟩
    · exact own_last w2 3 1 (w.heap.size + 1) w2.heap.size rfl (by omega)
    · intro a ha; have := HI2.out a ha; (try simp at this); omega
  case round =>
    obtain ⟨k, g, cp, hk, rfl, rfl, hown, k0, hrd, hne, hbw, hw2⟩ := hrel
    have hbs := hbw.size
    have hge := hown.ge
    have hbx : w.heap.size < wr.heap.size := lt_of_cell k0
    have HO := Lib.hid hown
    have HRD := Lib.hid hrd
    have HNE := Lib.hid hne
    clear hown hrd hne
    by_cases hlt : k < os.length
    · obtain ⟨b, off, rfl, hbl, e0⟩ := (HR2.out.below hbw).int k hlt
      have hob := allB_iff.1 HOB.out os[k] (List.getElem_mem _)
      have hat : os[k] = at0 os k := by rw [at0_nat]; simp [List.getD, List.getElem?_eq_getElem hlt]
      have HSN := Lib.hid (outsOf_snoc (ws := ws) hlt)
      rw [hat] at hob HSN
      obtain ⟨o, ho⟩ : ∃ x, x = at0 os k := ⟨_, rfl⟩
      rw [← ho] at hob HSN e0
      obtain ⟨o0, o1⟩ := hob
      clear ho hat
      obtain ⟨n, rfl⟩ := Int.eq_ofNat_of_zero_le o0
      obtain ⟨b2, off2, rfl, hbl2, e2⟩ := HRD.out.int n (by have := HWL.out; omega)
      have hli : (k : Int) < (os.length : Int) := by omega
      have hln : (n : Int) < (ws.length : Int) := by have := HWL.out; omega
      have hbg : b2 ≠ g := HNE.out _ rfl
      obtain ⟨y, hy⟩ : ∃ x, x = at0 ws n := ⟨_, rfl⟩
      rw [← hy] at e2 HSN
      clear hy
      go_wp2_with (refine wpList_push _ rfl _ _ rfl (w.heap.size + 1) g k cp (outsOf ws (os.take k)) y wr.heap.size 1 (by rfl) (by rfl) (HO.out.later (by (repeat (first | with_reducible exact Kp.refl _ _ | (with_reducible refine Kp.rng ?_ (by assumption) ?_) | (with_reducible refine Kp.below ?_ (by assumption)) | (with_reducible refine Kp.grown ?_ (by assumption) ?_) | (with_reducible refine Kp.alloc ?_ _) | (with_reducible refine Kp.drew ?_) | (with_reducible refine Kp.drewN ?_ _) | (with_reducible refine Kp.setCell ?_ _ ?_))) <;> (first | omega | (simp; done) | (simp; omega)))) (by go_simp) (by omega) (by first | omega | (simp; done) | (simp; omega)) ?_; intro g5 c5 w5 ho5 hb5 hg5 hat5; (try simp at hat5); have z5 := hb5.size; (try simp at z5); have y5 := hg5.size; (try simp at y5); have ge5 := ho5.ge; have kk5 := grown_cell hg5 (b := w.heap.size) (o := 1) (x := .slice (some ⟨b, off, none⟩) os.length c2) (by first | (simp; omega) | omega) (by go_simp))
      go_roundw
      case rel =>
        refine ⟨k + 1, g5, c5, by omega, by go_num, rfl, by (rw [HSN.out]; exact ho5), kk5, HRD.out.keep fun b off e => ?_, fun a ha => ?_, (by (repeat (first | with_reducible exact Below.refl _ _ | (with_reducible refine bel_next ?_ ?_ (by assumption)) | (with_reducible refine Below.alloc ?_ ?_ _) | (with_reducible refine Below.drew ?_) | (with_reducible refine below_drewN ?_ _) | (with_reducible refine Below.setCell ?_ ?_ _))) <;> (first | omega | (simp; done) | (simp; omega))), by omega⟩
        · have hbg' := HNE.out _ e
          simp at hbg'
          exact (by (repeat (first | with_reducible exact Kp.refl _ _ | (with_reducible refine Kp.rng ?_ (by assumption) ?_) | (with_reducible refine Kp.below ?_ (by assumption)) | (with_reducible refine Kp.grown ?_ (by assumption) ?_) | (with_reducible refine Kp.alloc ?_ _) | (with_reducible refine Kp.drew ?_) | (with_reducible refine Kp.drewN ?_ _) | (with_reducible refine Kp.setCell ?_ _ ?_))) <;> (first | omega | (simp; done) | (simp; omega)))
        · have h1 := HNE.out a ha
          have h2 := HI2.out a ha
          omega
      case measure => simp [intOf]; omega
    · have HK : Hid (outsOf ws (os.take k) = outsOf ws os) := by show _ = _; rw [List.take_of_length_le (by omega)]
      have hown := HO.out
      rw [HK.out] at hown
      have HKL : Hid ((outsOf ws os).length = k) := by show _ = _; rw [outsOf_len]; omega
      have HO' := Lib.hid hown
      clear hown
      go_wp2_with fail
      go_ret2
      exact ⟨some ⟨g, 0, none⟩, cp, by (rw [HKL.out]; rfl), by rw [HKL.out]; exact HO'.out.lo (by omega), hbw⟩

end Go.Proofs.Ytfcijloiebnloaa

/- BitFacts -/
namespace Go.Proofs.Ytfcijloiebnloaa
open Go.RowKit
set_option linter.unusedVariables false
set_option linter.unusedSimpArgs false

theorem words_append (xs : List Int) : ∀ ys : List Int, xs.length % 4 = 0 → words (xs ++ ys) = words xs ++ words ys := by
  match xs with
  | a :: b :: c :: d :: r =>
    intro ys h
    have := words_append r ys (by simp at h; omega)
    simp [words, this]
  | [] => intro ys _; simp [words]
  | [_] => intro ys h; simp at h
  | [_, _] => intro ys h; simp at h
  | [_, _, _] => intro ys h; simp at h
theorem bits_sum {x : Int} (h0 : 0 ≤ x) (h1 : x ≤ 15) : bitI x 0 + 2 * bitI x 1 + 4 * bitI x 2 + 8 * bitI x 3 = x := by
  simp [bitI]; omega
def valAt (xss : List (List Int)) (j : Nat) : Int := (xss.getD (j / 4) []).getD (j % 4) 0
theorem bitsT_four (xss : List (List Int)) (m : Nat) : bitsT xss (4 * (m + 1)) = bitsT xss (4 * m) ++ [bitI (valAt xss m) 0, bitI (valAt xss m) 1, bitI (valAt xss m) 2, bitI (valAt xss m) 3] := by
  have e : ∀ b, b < 4 → (4 * m + b) / 16 = m / 4 ∧ (4 * m + b) / 4 % 4 = m % 4 ∧ (4 * m + b) % 4 = b := by intro b hb; omega
  have h0 := e 0 (by omega)
  have h1 := e 1 (by omega)
  have h2 := e 2 (by omega)
  have h3 := e 3 (by omega)
  simp only [Nat.add_zero] at h0
  unfold bitsT valAt
  rw [show 4 * (m + 1) = 4 * m + 1 + 1 + 1 + 1 by omega]
  simp only [List.range_succ, List.map_append, List.map_cons, List.map_nil, List.append_assoc, List.cons_append, List.nil_append, Nat.add_assoc, Nat.reduceAdd, h0, h1, h2, h3]
theorem words_bitsT (xss : List (List Int)) (hv : ∀ j, 0 ≤ valAt xss j ∧ valAt xss j ≤ 15) : ∀ m, words (bitsT xss (4 * m)) = (List.range m).map (valAt xss) := by
  intro m
  induction m with
  | zero => simp [bitsT, words]
  | succ m ih =>
    rw [bitsT_four, words_append _ _ (by rw [bitsT_length]; omega), ih, List.range_succ, List.map_append]
    simp [words, bits_sum (hv m).1 (hv m).2]
theorem allB_bitsT (xss : List (List Int)) (t : Nat) : allB (bitsT xss t) 0 1 = true := by
  rw [allB_iff]
  intro x hx
  obtain ⟨i, _, rfl⟩ := List.mem_map.1 hx
  have h1 := Int.emod_nonneg ((((xss.getD (i / 16) []).getD (i / 4 % 4) 0)) / 2 ^ (i % 4)) (show (2 : Int) ≠ 0 by omega)
  have h2 := Int.emod_lt_of_pos ((((xss.getD (i / 16) []).getD (i / 4 % 4) 0)) / 2 ^ (i % 4)) (show (0 : Int) < 2 by omega)
  unfold bitI; omega
theorem valAt_b {rs : List Rw} (h : inputsOk (rs.map Rw.xs) = true) (j : Nat) : 0 ≤ valAt (rs.map Rw.xs) j ∧ valAt (rs.map Rw.xs) j ≤ 15 := by
  unfold valAt
  by_cases hj : j / 4 < (rs.map Rw.xs).length
  · have hm : (rs.map Rw.xs)[j / 4] ∈ rs.map Rw.xs := List.getElem_mem hj
    obtain ⟨r, hr, e⟩ := List.mem_map.1 hm
    have := (inputsOk_parts h).2 r hr
    rw [show (rs.map Rw.xs).getD (j / 4) [] = r.xs by simp only [List.getD, List.getElem?_eq_getElem hj, Option.getD_some]; exact e.symm]
    by_cases hk : j % 4 < r.xs.length
    · simp only [List.getD, List.getElem?_eq_getElem hk, Option.getD_some]; exact this.2 _ (List.getElem_mem hk)
    · simp only [List.getD, List.getElem?_eq_none (by omega : r.xs.length ≤ j % 4), Option.getD_none]; omega
  · simp only [List.getD, List.getElem?_eq_none (by omega : (rs.map Rw.xs).length ≤ j / 4), Option.getD_none]; simp
theorem input_words {rs : List Rw} (h : inputsOk (rs.map Rw.xs) = true) : (inputBits (rs.map Rw.xs)).length = 80 ∧ wordsOf (inputBits (rs.map Rw.xs)) = (List.range 20).map (valAt (rs.map Rw.xs)) := by
  have e : inputBits (rs.map Rw.xs) = bitsT (rs.map Rw.xs) (4 * 20) := by simp [inputBits, h]
  rw [e]
  refine ⟨bitsT_length _ _, ?_⟩
  rw [← words_bitsT _ (valAt_b h) 20]
  unfold wordsOf
  rw [if_pos ⟨by rw [bitsT_length], allB_bitsT _ _⟩]
theorem iInputBits_n (rs : List Rw) (nn : Nat) (hn : rs.length = nn) (xss : List (List Int)) (hx : rs.map Rw.xs = xss) (ad : Option Addr) (cp : Nat) (w : World) (hm : nn ≤ maxLen) (hml : rowsLe rs) (hr : RdR w ad rs) :
    Calls Try.prog 90 #[.slice ad nn cp] w fun e w' => ∃ a' c', e = .returned (.slice a' (inputBits xss).length c') ∧ Own w' w.heap.size 3 1 a' (inputBits xss).length c' (I64 (inputBits xss)) ∧ Below w.heap.size w w' := by
  subst hn; subst hx
  exact iInputBits_any rs ad cp w hm hml hr

end Go.Proofs.Ytfcijloiebnloaa

/- RunC -/
namespace Go.Proofs.Ytfcijloiebnloaa
open Go.RowKit
set_option linter.unusedVariables false
set_option linter.unusedSimpArgs false

def rcB (gs : List Gt) (os : List Int) (xss : List (List Int)) : Bool := circOk gs os && (decide (os.length % 4 = 0) && inputsOk xss)
def rcOuts (gs : List Gt) (os : List Int) (xss : List (List Int)) : List Int := if rcB gs os xss then wordsOf (evalOuts gs os (inputBits xss)) else []
theorem bitsB_in {rs : List Rw} (h : inputsOk (rs.map Rw.xs) = true) : bitsB (inputBits (rs.map Rw.xs)) = true := by
  have h1 := (input_words h).1
  have h2 : inputBits (rs.map Rw.xs) = bitsT (rs.map Rw.xs) 80 := by unfold inputBits; rw [if_pos h]
  unfold bitsB
  rw [h1, h2, allB_bitsT]; rfl
theorem wordsOf_le (xs : List Int) : (wordsOf xs).length ≤ xs.length := by
  unfold wordsOf; split
  · have := words_len xs; omega
  · simp
theorem rcOuts_le (gs : List Gt) (os : List Int) (xss : List (List Int)) : (rcOuts gs os xss).length ≤ os.length := by
  unfold rcOuts; split
  · exact Nat.le_trans (wordsOf_le _) (evalOuts_len _ _ _)
  · simp
theorem inputBits_le (xss : List (List Int)) : (inputBits xss).length ≤ 1048576 := by
  unfold inputBits; split
  · rw [bitsT_length]; omega
  · simp
set_option maxRecDepth 20000 in
set_option maxHeartbeats 4000000 in
theorem iRunCircuit_any (gs : List Gt) (os : List Int) (rs : List Rw) (nn : Nat) (hn : rs.length = nn) (xss : List (List Int)) (hx : rs.map Rw.xs = xss) (a1 a2 ar : Option Addr) (c1 c2 cr : Nat) (w : World) (hm : gs.length ≤ 1048576) (hm2 : os.length ≤ 1048576) (hmr : nn ≤ 1048576) (hml : rowsLe rs) (hr : RdC w a1 (gtCells gs)) (hr2 : RdC w a2 (I64 os)) (hri : RdR w ar rs) :
    Calls Try.prog 45 #[.agg #[.slice a1 gs.length c1, .slice a2 os.length c2], .slice ar nn cr] w fun e w' => ∃ ad c, e = .returned (.tuple #[.slice ad (rcOuts gs os xss).length c, .bool (rcB gs os xss)]) ∧ Own w' w.heap.size 3 1 ad (rcOuts gs os xss).length c (I64 (rcOuts gs os xss)) ∧ Below w.heap.size w w' := by
  have HR := Lib.hid hr
  have HR2 := Lib.hid hr2
  have HRI := Lib.hid hri
  have HN := Lib.hid hn
  have HX := Lib.hid hx
  clear hr hr2 hri hn hx
  have hmr' : nn ≤ maxLen := by unfold maxLen; omega
  by_cases h4 : os.length % 4 = 0
  case neg =>
    cases hc : circOk gs os
    ·
      rw [show rcOuts gs os xss = [] by simp [rcOuts, rcB, h4], show rcB gs os xss = false by simp [rcB, h4]]
      have HC := Lib.hid hc
      have t4 : (((os.length : Int) % 4) != 0) = true := by simp; omega
      clear h4 hc
      go_enter Try.func45, Try.ntmps45
      go_wp2_with fail
      refine (iCircuitOk_any gs os _ _ _ _ _ hm hm2 (HR.out.below (by (repeat (first | with_reducible exact Below.refl _ _ | (with_reducible refine bel_next ?_ ?_ (by assumption)) | (with_reducible refine Below.alloc ?_ ?_ _) | (with_reducible refine Below.drew ?_) | (with_reducible refine below_drewN ?_ _) | (with_reducible refine Below.setCell ?_ ?_ _))) <;> (first | omega | (simp; done) | (simp; omega)))) (HR2.out.below (by (repeat (first | with_reducible exact Below.refl _ _ | (with_reducible refine bel_next ?_ ?_ (by assumption)) | (with_reducible refine Below.alloc ?_ ?_ _) | (with_reducible refine Below.drew ?_) | (with_reducible refine below_drewN ?_ _) | (with_reducible refine Below.setCell ?_ ?_ _))) <;> (first | omega | (simp; done) | (simp; omega))))).mono ?_
      rintro e w1 ⟨rfl, hb1⟩
      rw [HC.out]
      have z1 := hb1.size
      (try simp at z1)
      have y1_0 : w.heap.size < w1.heap.size := (by omega)
      have k1_0 := bel_keeps hb1 (b := w.heap.size) (o := 0) (v := .slice a1 gs.length c1) (by first | (go_simp; done) | assumption)
      have k1_1 := bel_keeps hb1 (b := w.heap.size) (o := 1) (v := .slice a2 os.length c2) (by first | (go_simp; done) | assumption)
      go_wp2_with fail
      go_ret2
      exact ⟨none, 0, rfl, Own.nil _ _ _ _, (by (repeat (first | with_reducible exact Below.refl _ _ | (with_reducible refine bel_next ?_ ?_ (by assumption)) | (with_reducible refine Below.alloc ?_ ?_ _) | (with_reducible refine Below.drew ?_) | (with_reducible refine below_drewN ?_ _) | (with_reducible refine Below.setCell ?_ ?_ _))) <;> (first | omega | (simp; done) | (simp; omega)))⟩
    ·
      rw [show rcOuts gs os xss = [] by simp [rcOuts, rcB, h4], show rcB gs os xss = false by simp [rcB, h4]]
      have HC := Lib.hid hc
      have t4 : (((os.length : Int) % 4) != 0) = true := by simp; omega
      clear h4 hc
      go_enter Try.func45, Try.ntmps45
      go_wp2_with fail
      refine (iCircuitOk_any gs os _ _ _ _ _ hm hm2 (HR.out.below (by (repeat (first | with_reducible exact Below.refl _ _ | (with_reducible refine bel_next ?_ ?_ (by assumption)) | (with_reducible refine Below.alloc ?_ ?_ _) | (with_reducible refine Below.drew ?_) | (with_reducible refine below_drewN ?_ _) | (with_reducible refine Below.setCell ?_ ?_ _))) <;> (first | omega | (simp; done) | (simp; omega)))) (HR2.out.below (by (repeat (first | with_reducible exact Below.refl _ _ | (with_reducible refine bel_next ?_ ?_ (by assumption)) | (with_reducible refine Below.alloc ?_ ?_ _) | (with_reducible refine Below.drew ?_) | (with_reducible refine below_drewN ?_ _) | (with_reducible refine Below.setCell ?_ ?_ _))) <;> (first | omega | (simp; done) | (simp; omega))))).mono ?_
      rintro e w1 ⟨rfl, hb1⟩
      rw [HC.out]
      have z1 := hb1.size
      (try simp at z1)
      have y1_0 : w.heap.size < w1.heap.size := (by omega)
      have k1_0 := bel_keeps hb1 (b := w.heap.size) (o := 0) (v := .slice a1 gs.length c1) (by first | (go_simp; done) | assumption)
      have k1_1 := bel_keeps hb1 (b := w.heap.size) (o := 1) (v := .slice a2 os.length c2) (by first | (go_simp; done) | assumption)
      go_wp2_with fail
      go_ret2
      exact ⟨none, 0, rfl, Own.nil _ _ _ _, (by (repeat (first | with_reducible exact Below.refl _ _ | (with_reducible refine bel_next ?_ ?_ (by assumption)) | (with_reducible refine Below.alloc ?_ ?_ _) | (with_reducible refine Below.drew ?_) | (with_reducible refine below_drewN ?_ _) | (with_reducible refine Below.setCell ?_ ?_ _))) <;> (first | omega | (simp; done) | (simp; omega)))⟩
  have t4 : (((os.length : Int) % 4) != 0) = false := by simp; omega
  have HE0 : inputsOk xss = true → evalB gs os (inputBits xss) = circOk gs os := fun h => by unfold evalB; rw [← HX.out] at h ⊢; rw [bitsB_in h]; simp
  have HE0 := Lib.hid HE0
  cases hc : circOk gs os
  · cases hi : inputsOk xss
    ·
      rw [show rcOuts gs os xss = [] by simp [rcOuts, rcB, hc], show rcB gs os xss = false by simp [rcB, hc]]
      have HC := Lib.hid hc
      have HI := Lib.hid hi
      clear h4 hc hi HE0
      go_enter Try.func45, Try.ntmps45
      go_wp2_with fail
      refine (iCircuitOk_any gs os _ _ _ _ _ hm hm2 (HR.out.below (by (repeat (first | with_reducible exact Below.refl _ _ | (with_reducible refine bel_next ?_ ?_ (by assumption)) | (with_reducible refine Below.alloc ?_ ?_ _) | (with_reducible refine Below.drew ?_) | (with_reducible refine below_drewN ?_ _) | (with_reducible refine Below.setCell ?_ ?_ _))) <;> (first | omega | (simp; done) | (simp; omega)))) (HR2.out.below (by (repeat (first | with_reducible exact Below.refl _ _ | (with_reducible refine bel_next ?_ ?_ (by assumption)) | (with_reducible refine Below.alloc ?_ ?_ _) | (with_reducible refine Below.drew ?_) | (with_reducible refine below_drewN ?_ _) | (with_reducible refine Below.setCell ?_ ?_ _))) <;> (first | omega | (simp; done) | (simp; omega))))).mono ?_
      rintro e w1 ⟨rfl, hb1⟩
      rw [HC.out]
      have z1 := hb1.size
      (try simp at z1)
      have y1_0 : w.heap.size < w1.heap.size := (by omega)
      have k1_0 := bel_keeps hb1 (b := w.heap.size) (o := 0) (v := .slice a1 gs.length c1) (by first | (go_simp; done) | assumption)
      have k1_1 := bel_keeps hb1 (b := w.heap.size) (o := 1) (v := .slice a2 os.length c2) (by first | (go_simp; done) | assumption)
      go_wp2_with fail
      go_ret2
      exact ⟨none, 0, rfl, Own.nil _ _ _ _, (by (repeat (first | with_reducible exact Below.refl _ _ | (with_reducible refine bel_next ?_ ?_ (by assumption)) | (with_reducible refine Below.alloc ?_ ?_ _) | (with_reducible refine Below.drew ?_) | (with_reducible refine below_drewN ?_ _) | (with_reducible refine Below.setCell ?_ ?_ _))) <;> (first | omega | (simp; done) | (simp; omega)))⟩
    ·
      rw [show rcOuts gs os xss = [] by simp [rcOuts, rcB, hc], show rcB gs os xss = false by simp [rcB, hc]]
      have HE : Hid (evalB gs os (inputBits xss) = circOk gs os) := HE0.out hi
      rw [hc] at HE
      have HC := Lib.hid hc
      have HI := Lib.hid hi
      clear h4 hc hi HE0
      go_enter Try.func45, Try.ntmps45
      go_wp2_with fail
      refine (iCircuitOk_any gs os _ _ _ _ _ hm hm2 (HR.out.below (by (repeat (first | with_reducible exact Below.refl _ _ | (with_reducible refine bel_next ?_ ?_ (by assumption)) | (with_reducible refine Below.alloc ?_ ?_ _) | (with_reducible refine Below.drew ?_) | (with_reducible refine below_drewN ?_ _) | (with_reducible refine Below.setCell ?_ ?_ _))) <;> (first | omega | (simp; done) | (simp; omega)))) (HR2.out.below (by (repeat (first | with_reducible exact Below.refl _ _ | (with_reducible refine bel_next ?_ ?_ (by assumption)) | (with_reducible refine Below.alloc ?_ ?_ _) | (with_reducible refine Below.drew ?_) | (with_reducible refine below_drewN ?_ _) | (with_reducible refine Below.setCell ?_ ?_ _))) <;> (first | omega | (simp; done) | (simp; omega))))).mono ?_
      rintro e w1 ⟨rfl, hb1⟩
      rw [HC.out]
      have z1 := hb1.size
      (try simp at z1)
      have y1_0 : w.heap.size < w1.heap.size := (by omega)
      have k1_0 := bel_keeps hb1 (b := w.heap.size) (o := 0) (v := .slice a1 gs.length c1) (by first | (go_simp; done) | assumption)
      have k1_1 := bel_keeps hb1 (b := w.heap.size) (o := 1) (v := .slice a2 os.length c2) (by first | (go_simp; done) | assumption)
      go_wp2_with fail
      go_ret2
      exact ⟨none, 0, rfl, Own.nil _ _ _ _, (by (repeat (first | with_reducible exact Below.refl _ _ | (with_reducible refine bel_next ?_ ?_ (by assumption)) | (with_reducible refine Below.alloc ?_ ?_ _) | (with_reducible refine Below.drew ?_) | (with_reducible refine below_drewN ?_ _) | (with_reducible refine Below.setCell ?_ ?_ _))) <;> (first | omega | (simp; done) | (simp; omega)))⟩
  · cases hi : inputsOk xss
    ·
      rw [show rcOuts gs os xss = [] by simp [rcOuts, rcB, hi], show rcB gs os xss = false by simp [rcB, hi]]
      have HC := Lib.hid hc
      have HI := Lib.hid hi
      clear h4 hc hi HE0
      go_enter Try.func45, Try.ntmps45
      go_wp2_with fail
      refine (iCircuitOk_any gs os _ _ _ _ _ hm hm2 (HR.out.below (by (repeat (first | with_reducible exact Below.refl _ _ | (with_reducible refine bel_next ?_ ?_ (by assumption)) | (with_reducible refine Below.alloc ?_ ?_ _) | (with_reducible refine Below.drew ?_) | (with_reducible refine below_drewN ?_ _) | (with_reducible refine Below.setCell ?_ ?_ _))) <;> (first | omega | (simp; done) | (simp; omega)))) (HR2.out.below (by (repeat (first | with_reducible exact Below.refl _ _ | (with_reducible refine bel_next ?_ ?_ (by assumption)) | (with_reducible refine Below.alloc ?_ ?_ _) | (with_reducible refine Below.drew ?_) | (with_reducible refine below_drewN ?_ _) | (with_reducible refine Below.setCell ?_ ?_ _))) <;> (first | omega | (simp; done) | (simp; omega))))).mono ?_
      rintro e w1 ⟨rfl, hb1⟩
      rw [HC.out]
      have z1 := hb1.size
      (try simp at z1)
      have y1_0 : w.heap.size < w1.heap.size := (by omega)
      have k1_0 := bel_keeps hb1 (b := w.heap.size) (o := 0) (v := .slice a1 gs.length c1) (by first | (go_simp; done) | assumption)
      have k1_1 := bel_keeps hb1 (b := w.heap.size) (o := 1) (v := .slice a2 os.length c2) (by first | (go_simp; done) | assumption)
      go_wp2_with fail
      have hcc := iInputsOk_any rs ar cr w1 (by rw [HN.out]; exact hmr') hml (HRI.out.below (by (repeat (first | with_reducible exact Below.refl _ _ | (with_reducible refine bel_next ?_ ?_ (by assumption)) | (with_reducible refine Below.alloc ?_ ?_ _) | (with_reducible refine Below.drew ?_) | (with_reducible refine below_drewN ?_ _) | (with_reducible refine Below.setCell ?_ ?_ _))) <;> (first | omega | (simp; done) | (simp; omega))))
      rw [HN.out, HX.out, HI.out] at hcc
      refine (hcc).mono ?_
      clear hcc
      rintro e _ ⟨rfl, rfl⟩
      go_wp2_with fail
      go_ret2
      exact ⟨none, 0, rfl, Own.nil _ _ _ _, (by (repeat (first | with_reducible exact Below.refl _ _ | (with_reducible refine bel_next ?_ ?_ (by assumption)) | (with_reducible refine Below.alloc ?_ ?_ _) | (with_reducible refine Below.drew ?_) | (with_reducible refine below_drewN ?_ _) | (with_reducible refine Below.setCell ?_ ?_ _))) <;> (first | omega | (simp; done) | (simp; omega)))⟩
    ·
      rw [show rcOuts gs os xss = wordsOf (evalOuts gs os (inputBits xss)) by simp [rcOuts, rcB, hc, hi, h4], show rcB gs os xss = true by simp [rcB, hc, hi, h4]]
      have HE : Hid (evalB gs os (inputBits xss) = circOk gs os) := HE0.out hi
      rw [hc] at HE
      have HC := Lib.hid hc
      have HI := Lib.hid hi
      clear h4 hc hi HE0
      go_enter Try.func45, Try.ntmps45
      go_wp2_with fail
      refine (iCircuitOk_any gs os _ _ _ _ _ hm hm2 (HR.out.below (by (repeat (first | with_reducible exact Below.refl _ _ | (with_reducible refine bel_next ?_ ?_ (by assumption)) | (with_reducible refine Below.alloc ?_ ?_ _) | (with_reducible refine Below.drew ?_) | (with_reducible refine below_drewN ?_ _) | (with_reducible refine Below.setCell ?_ ?_ _))) <;> (first | omega | (simp; done) | (simp; omega)))) (HR2.out.below (by (repeat (first | with_reducible exact Below.refl _ _ | (with_reducible refine bel_next ?_ ?_ (by assumption)) | (with_reducible refine Below.alloc ?_ ?_ _) | (with_reducible refine Below.drew ?_) | (with_reducible refine below_drewN ?_ _) | (with_reducible refine Below.setCell ?_ ?_ _))) <;> (first | omega | (simp; done) | (simp; omega))))).mono ?_
      rintro e w1 ⟨rfl, hb1⟩
      rw [HC.out]
      have z1 := hb1.size
      (try simp at z1)
      have y1_0 : w.heap.size < w1.heap.size := (by omega)
      have k1_0 := bel_keeps hb1 (b := w.heap.size) (o := 0) (v := .slice a1 gs.length c1) (by first | (go_simp; done) | assumption)
      have k1_1 := bel_keeps hb1 (b := w.heap.size) (o := 1) (v := .slice a2 os.length c2) (by first | (go_simp; done) | assumption)
      go_wp2_with fail
      have hcc := iInputsOk_any rs ar cr w1 (by rw [HN.out]; exact hmr') hml (HRI.out.below (by (repeat (first | with_reducible exact Below.refl _ _ | (with_reducible refine bel_next ?_ ?_ (by assumption)) | (with_reducible refine Below.alloc ?_ ?_ _) | (with_reducible refine Below.drew ?_) | (with_reducible refine below_drewN ?_ _) | (with_reducible refine Below.setCell ?_ ?_ _))) <;> (first | omega | (simp; done) | (simp; omega))))
      rw [HN.out, HX.out, HI.out] at hcc
      refine (hcc).mono ?_
      clear hcc
      rintro e _ ⟨rfl, rfl⟩
      go_wp2_with fail
      apply wp_share4 (F := fun (W : World) (ab3 : Option Addr) (cb3 : Nat) (av3 : Option Addr) (cv3 : Nat) => Below w1.heap.size w1 W ∧ Own W w.heap.size 3 1 av3 (evalOuts gs os (inputBits xss)).length cv3 (I64 (evalOuts gs os (inputBits xss))) ∧ True)
      case h1 =>
        go_region_held3 (fun w' => w'.cell? ⟨w.heap.size, 0, none⟩ = some (.slice a1 gs.length c1) ∧ w'.cell? ⟨w.heap.size, 1, none⟩ = some (.slice a2 os.length c2))
          (first | go_keep)
          (first | (go_at_call 90; refine (iInputBits_n rs nn HN.out xss HX.out ar cr _ hmr' hml (HRI.out.below (by (repeat (first | with_reducible exact Below.refl _ _ | (with_reducible refine bel_next ?_ ?_ (by assumption)) | (with_reducible refine Below.alloc ?_ ?_ _) | (with_reducible refine Below.drew ?_) | (with_reducible refine below_drewN ?_ _) | (with_reducible refine Below.setCell ?_ ?_ _))) <;> (first | omega | (simp; done) | (simp; omega))))).mono ?_; rintro e v1 ⟨ab3, cb3, rfl, ob, hv1⟩; have zv1 := hv1.size; (try simp at zv1); have yv1_0 : w.heap.size < v1.heap.size := (by omega); have nv1_0 : w.heap.size ≠ v1.heap.size := (by omega); have mv1_0 : v1.heap.size ≠ w.heap.size := (by omega); have kv1_0 := bel_keeps hv1 (b := w.heap.size) (o := 0) (v := .slice a1 gs.length c1) (by first | (go_simp; done) | assumption); have kv1_1 := bel_keeps hv1 (b := w.heap.size) (o := 1) (v := .slice a2 os.length c2) (by first | (go_simp; done) | assumption)) | (go_at_call 89; refine (iEvalCircuit_any gs os (inputBits xss) _ _ _ _ _ _ _ hm hm2 (inputBits_le _) (HR.out.below (by (repeat (first | with_reducible exact Below.refl _ _ | (with_reducible refine bel_next ?_ ?_ (by assumption)) | (with_reducible refine Below.alloc ?_ ?_ _) | (with_reducible refine Below.drew ?_) | (with_reducible refine below_drewN ?_ _) | (with_reducible refine Below.setCell ?_ ?_ _))) <;> (first | omega | (simp; done) | (simp; omega)))) (HR2.out.below (by (repeat (first | with_reducible exact Below.refl _ _ | (with_reducible refine bel_next ?_ ?_ (by assumption)) | (with_reducible refine Below.alloc ?_ ?_ _) | (with_reducible refine Below.drew ?_) | (with_reducible refine below_drewN ?_ _) | (with_reducible refine Below.setCell ?_ ?_ _))) <;> (first | omega | (simp; done) | (simp; omega)))) (ob.rd.below (by (repeat (first | with_reducible exact Below.refl _ _ | (with_reducible refine bel_next ?_ ?_ (by assumption)) | (with_reducible refine Below.alloc ?_ ?_ _) | (with_reducible refine Below.drew ?_) | (with_reducible refine below_drewN ?_ _) | (with_reducible refine Below.setCell ?_ ?_ _))) <;> (first | omega | (simp; done) | (simp; omega))))).mono ?_; rintro e v2 ⟨av3, cv3, rfl, ov, hv2⟩; have zv2 := hv2.size; (try simp at zv2); rw [HE.out]; have yv2_0 : w.heap.size < v2.heap.size := (by omega); have nv2_0 : w.heap.size ≠ v2.heap.size := (by omega); have mv2_0 : v2.heap.size ≠ w.heap.size := (by omega); have kv2_0 := bel_keeps hv2 (b := w.heap.size) (o := 0) (v := .slice a1 gs.length c1) (by first | (go_simp; done) | assumption); have kv2_1 := bel_keeps hv2 (b := w.heap.size) (o := 1) (v := .slice a2 os.length c2) (by first | (go_simp; done) | assumption)))
        ·
          refine ⟨rfl, ab3, cb3, av3, cv3, ⟨(by (repeat (first | with_reducible exact Below.refl _ _ | (with_reducible refine bel_next ?_ ?_ (by assumption)) | (with_reducible refine Below.alloc ?_ ?_ _) | (with_reducible refine Below.drew ?_) | (with_reducible refine below_drewN ?_ _) | (with_reducible refine Below.setCell ?_ ?_ _))) <;> (first | omega | (simp; done) | (simp; omega))), ov.lo (by omega), trivial⟩, ?_⟩
          generalize v2 = W
          rfl
      rintro w3 ab3 cb3 av3 cv3 ⟨hb3, r3_0, r3_1⟩
      have z3 := hb3.size
      (try simp at z3)
      have y3_0 : w.heap.size < w3.heap.size := (by omega)
      have k3_0 := bel_keeps hb3 (b := w.heap.size) (o := 0) (v := .slice a1 gs.length c1) (by first | (go_simp; done) | assumption)
      have k3_1 := bel_keeps hb3 (b := w.heap.size) (o := 1) (v := .slice a2 os.length c2) (by first | (go_simp; done) | assumption)
      clear k1_0 k1_1
      have ov := r3_0
      go_wp2_with fail
      refine (iWordsOf_any (evalOuts gs os (inputBits xss)) _ _ _ (by have := evalOuts_len gs os (inputBits xss); omega) (ov.rd.below (by (repeat (first | with_reducible exact Below.refl _ _ | (with_reducible refine bel_next ?_ ?_ (by assumption)) | (with_reducible refine Below.alloc ?_ ?_ _) | (with_reducible refine Below.drew ?_) | (with_reducible refine below_drewN ?_ _) | (with_reducible refine Below.setCell ?_ ?_ _))) <;> (first | omega | (simp; done) | (simp; omega))))).mono ?_
      rintro e w4 ⟨aw, cw, rfl, ow, hb4⟩
      have z4 := hb4.size
      (try simp at z4)
      have y4_0 : w.heap.size < w4.heap.size := (by omega)
      have k4_0 := bel_keeps hb4 (b := w.heap.size) (o := 0) (v := .slice a1 gs.length c1) (by first | (go_simp; done) | assumption)
      have k4_1 := bel_keeps hb4 (b := w.heap.size) (o := 1) (v := .slice a2 os.length c2) (by first | (go_simp; done) | assumption)
      clear k3_0 k3_1
      go_wp2_with fail
      go_ret2
      exact ⟨aw, cw, rfl, ow.lo (by omega), (by (repeat (first | with_reducible exact Below.refl _ _ | (with_reducible refine bel_next ?_ ?_ (by assumption)) | (with_reducible refine Below.alloc ?_ ?_ _) | (with_reducible refine Below.drew ?_) | (with_reducible refine below_drewN ?_ _) | (with_reducible refine Below.setCell ?_ ?_ _))) <;> (first | omega | (simp; done) | (simp; omega)))⟩
end Go.Proofs.Ytfcijloiebnloaa

/- Same -/
namespace Go.Proofs.Ytfcijloiebnloaa
open Go.RowKit
set_option linter.unusedVariables false
set_option linter.unusedSimpArgs false
set_option maxHeartbeats 1000000 in
theorem sameInts_same (xs : List Int) (n1 n2 : Nat) (h1 : xs.length = n1) (h2 : xs.length = n2) (ad ad' : Option Addr) (c c' : Nat) (w : World) (hm : xs.length ≤ 1048576) (hr : RdC w ad (I64 xs)) (hr' : RdC w ad' (I64 xs)) :
    Calls Try.prog 46 #[.slice ad n1 c, .slice ad' n2 c'] w fun e w' => e = .returned (.bool true) ∧ ∃ n, w' = w.drewN n := by
  subst h1; subst h2
  go_enter Try.func46, Try.ntmps46
  go_wp2_with fail
  go_loopw [5] (fun i wr => ∃ k : Nat, k ≤ xs.length ∧ i = .int .i64 k ∧ ∃ m, wr = w.drewN m) (fun i _ => xs.length - (intOf i).toNat)
  case atStart => exact ⟨0, Nat.zero_le _, rfl, 0, rfl⟩
  case round =>
    obtain ⟨k, hk, rfl, m, hw⟩ := hrel
    have HW := Lib.hid hw
    by_cases hlt : k < xs.length
    · obtain ⟨b, off, rfl, hc⟩ := (show RdC wr ad (I64 xs) from by rw [hw]; exact hr.drewN m).at k hlt
      obtain ⟨b', off', rfl, hc'⟩ := (show RdC wr ad' (I64 xs) from by rw [hw]; exact hr'.drewN m).at k hlt
      have q1 := hc k hlt
      have q2 := hc' k hlt
      generalize xs[k] = x at q1 q2
      have hi : (k : Int) < (xs.length : Int) := by omega
      clear hr hr' hc hc' hw
      go_wp2_with fail
      go_quiet (fail)
      go_wp2_with fail
      go_roundw
      case rel => exact ⟨k + 1, by omega, by go_num, m + nq, by rw [HW.out, World.drewN_drewN]⟩
      case measure => simp [intOf]; omega
    · clear hw
      go_wp2_with fail
      go_ret
      exact ⟨rfl, m, HW.out⟩

end Go.Proofs.Ytfcijloiebnloaa

/- SimpS -/
namespace Go.Proofs.Ytfcijloiebnloaa
open Go.RowKit
set_option linter.unusedVariables false
set_option linter.unusedSimpArgs false

theorem Bld.drewN {w : World} {lo bx : Nat} {gs : List Gt} {v : Value} (h : Bld w lo bx gs v) (n : Nat) : Bld (w.drewN n) lo bx gs v := h.below (below_drewN (Below.refl _ _) n)
theorem Fr.drewN {w : World} {lo bx : Nat} {gs : List Gt} {v : Value} (h : Bld w lo bx gs v) (n : Nat) : Fr bx w (w.drewN n) := Fr.below h (below_drewN (Below.refl _ _) n)
/-- One gate of a circuit under construction. -/
theorem Bld.gt {w : World} {lo bx : Nat} {gs : List Gt} {v : Value} (h : Bld w lo bx gs v) (k : Nat) (hk : k < gs.length) :
    ∃ (g cap : Nat) (kd ga gb : Int), w.cell? ⟨bx, 0, none⟩ = some (.slice (some ⟨g, 0, none⟩) gs.length cap) ∧ g < w.heap.size ∧ gs[k]? = some ⟨kd, ga, gb⟩ ∧
      w.cell? ⟨g, k * 3, none⟩ = some (.int .i64 kd) ∧ w.cell? ⟨g, k * 3 + 1, none⟩ = some (.int .i64 ga) ∧ w.cell? ⟨g, k * 3 + 2, none⟩ = some (.int .i64 gb) := by
  obtain ⟨ad, cap, hc, ho, hne⟩ := h.row
  obtain ⟨g, rfl, _, hg⟩ := ho.addr (by omega)
  obtain ⟨b, off, kd, ga, gb, e, hb, hx, c0, c1, c2⟩ := ho.rd.gt k hk
  simp only [Option.some.injEq, Addr.mk.injEq, and_true] at e
  obtain ⟨rfl, rfl⟩ := e
  simp only [Nat.zero_add] at c0 c1 c2
  exact ⟨g, cap, kd, ga, gb, hc, hg, hx, c0, c1, c2⟩
theorem valC_get {gs : List Gt} {k : Nat} {kd ga gb : Int} (h : gs[k]? = some ⟨kd, ga, gb⟩) : valC gs (k : Int) = if kd = 2 then ga else -1 := by unfold valC; simp [h]

def gtEq (s t : Gt) : Bool := s.kd == t.kd && (s.ga == t.ga && s.gb == t.gb)
theorem gtEq_iff (s t : Gt) : gtEq s t = true ↔ s = t := by
  obtain ⟨a, b, c⟩ := s; obtain ⟨a', b', c'⟩ := t
  simp [gtEq]
theorem gt_eql (w : World) (s t : Gt) : (binOp .eql 109 (.agg #[.int .i64 s.kd, .int .i64 s.ga, .int .i64 s.gb]) (.agg #[.int .i64 t.kd, .int .i64 t.ga, .int .i64 t.gb])).run Try.prog w = .ok (.bool (gtEq s t)) w := by
  unfold gtEq
  go_simp
  by_cases h1 : s.kd = t.kd <;> by_cases h2 : s.ga = t.ga <;> by_cases h3 : s.gb = t.gb <;> simp [h1, h2, h3]
theorem gt_eql_of {s t : Gt} {v : Bool} (h : gtEq s t = v) (w : World) : (binOp .eql 109 (.agg #[.int .i64 s.kd, .int .i64 s.ga, .int .i64 s.gb]) (.agg #[.int .i64 t.kd, .int .i64 t.ga, .int .i64 t.gb])).run Try.prog w = .ok (.bool v) w := by rw [gt_eql, h]

def normG (kd a b : Int) : Gt := if b < a ∧ (kd = 3 ∨ kd = 4) then ⟨kd, b, a⟩ else ⟨kd, a, b⟩
theorem normG_one {kd a b : Int} (h3 : kd ≠ 3) (h4 : kd ≠ 4) : normG kd a b = ⟨kd, a, b⟩ := by unfold normG; rw [if_neg (fun h => by rcases h.2 with h | h <;> contradiction)]
theorem normG_two {kd a b : Int} (h : kd = 3 ∨ kd = 4) : normG kd a b = ⟨kd, min a b, max a b⟩ := by
  unfold normG
  by_cases hab : b < a
  · rw [if_pos ⟨hab, h⟩, Int.min_eq_right (by omega), Int.max_eq_left (by omega)]
  · rw [if_neg (fun h => hab h.1), Int.min_eq_left (by omega), Int.max_eq_right (by omega)]
theorem gNot_get {gs : List Gt} {k : Nat} {g : Gt} (h : gs[k]? = some g) : gNot gs (k : Int) = if g.kd = 2 then gGate gs ⟨2, 1 - g.ga, 0⟩ else if g.kd = 5 then (gs, g.ga) else gGate gs ⟨5, (k : Int), 0⟩ := by unfold gNot; simp [h]
end Go.Proofs.Ytfcijloiebnloaa

/- SameC -/
namespace Go.Proofs.Ytfcijloiebnloaa
open Go.RowKit
set_option linter.unusedVariables false
set_option linter.unusedSimpArgs false
theorem gt_neq_same (w : World) (a b c : Int) : (binOp .neq 109 (.agg #[.int .i64 a, .int .i64 b, .int .i64 c]) (.agg #[.int .i64 a, .int .i64 b, .int .i64 c])).run Try.prog w = .ok (.bool false) w := by
  go_simp
theorem sameInts_bel (xs : List Int) (n1 n2 : Nat) (h1 : xs.length = n1) (h2 : xs.length = n2) (ad ad' : Option Addr) (c c' : Nat) (w : World) (hm : xs.length ≤ 1048576) (hr : RdC w ad (I64 xs)) (hr' : RdC w ad' (I64 xs)) :
    Calls Try.prog 46 #[.slice ad n1 c, .slice ad' n2 c'] w fun e w' => e = .returned (.bool true) ∧ Below w.heap.size w w' :=
  (sameInts_same xs n1 n2 h1 h2 ad ad' c c' w hm hr hr').mono fun _ _ ⟨h, n, e⟩ => ⟨h, by rw [e]; exact below_drewN (Below.refl _ _) n⟩
end Go.Proofs.Ytfcijloiebnloaa

/- Places -/
namespace Go.Proofs.Ytfcijloiebnloaa
open Go.RowKit

/-- The numbers at two places. -/
theorem Own.at2 {w : World} {lo e : Nat} {ad : Option Addr} {n c : Nat} {vs : List Int} (h : Own w lo e 1 ad n c (I64 vs)) (hn : 0 < n) :
    ∃ b, ad = some ⟨b, 0, none⟩ ∧ ∀ i (hi : i < vs.length), w.cell? ⟨b, i, none⟩ = some (.int .i64 vs[i]) := by
  obtain ⟨g, rfl, _, _⟩ := h.addr hn
  exact ⟨g, rfl, fun i hi => by rw [(h.get i (by simpa using hi)).1, I64_get vs i hi]⟩

def opsHold (a b : Int) : Bool :=
  (operateF 4 (operateF 3 a b) b == a) && (operateF 8 a b + operateF 8 b a + operateF 9 a b == 1) && (operateF 5 a b == a * b % 16) && (operateF 7 (operateF 7 a b) b == a) && (operateF 3 a b == (a + b) % 16)
def opsBound (a b : Int) : Bool := inB (operateF 8 a b) 0 1 && inB (operateF 8 b a) 0 1 && inB (operateF 9 a b) 0 1
theorem opsBound_all : ∀ a : Fin 16, ∀ b : Fin 16, opsBound (a.val : Int) (b.val : Int) = true := by decide +kernel
theorem opsBound_of {a b : Int} (ha : 0 ≤ a) (ha' : a < 16) (hb : 0 ≤ b) (hb' : b < 16) : opsBound a b = true := by
  obtain ⟨x, rfl⟩ := Int.eq_ofNat_of_zero_le ha
  obtain ⟨y, rfl⟩ := Int.eq_ofNat_of_zero_le hb
  exact opsBound_all ⟨x, by omega⟩ ⟨y, by omega⟩
theorem opsHold_all : ∀ a : Fin 16, ∀ b : Fin 16, opsHold (a.val : Int) (b.val : Int) = true := by decide +kernel
theorem opsHold_of {a b : Int} (ha : 0 ≤ a) (ha' : a < 16) (hb : 0 ≤ b) (hb' : b < 16) : opsHold a b = true := by
  obtain ⟨x, rfl⟩ := Int.eq_ofNat_of_zero_le ha
  obtain ⟨y, rfl⟩ := Int.eq_ofNat_of_zero_le hb
  exact opsHold_all ⟨x, by omega⟩ ⟨y, by omega⟩

end Go.Proofs.Ytfcijloiebnloaa

/- Parties -/
namespace Go.Proofs.Ytfcijloiebnloaa
open Go.RowKit

def stepP (n : Int) (s : St) : Int := if s.op = 2 then (if n < s.a + 1 then s.a + 1 else n) else n
def partiesOf (xs : List St) : Int := if progOk xs then xs.foldl stepP 0 else 0
theorem stok_at {xs : List St} (h : progOk xs = true) {k : Nat} {s : St} (hx : xs[k]? = some s) : stOk s = true := by
  simp only [progOk, Bool.and_eq_true, decide_eq_true_eq] at h
  have hd : ∀ (ys : List St) (d e : Int), depF d ys = some e → ∀ s ∈ ys, stOk s = true := by
    intro ys
    induction ys with
    | nil => intro d e _ s hs; cases hs
    | cons y r ih =>
      intro d e h s hs
      simp only [depF] at h
      split at h
      case isFalse => cases h
      case isTrue hc =>
        simp only [Bool.and_eq_true] at hc
        rcases List.mem_cons.1 hs with rfl | hs
        · exact hc.1
        · exact ih _ _ h s hs
  exact hd xs 0 0 h.2 s (List.mem_of_getElem? hx)
theorem stok_input {s : St} (h : stOk s = true) (ho : s.op = 2) : 0 ≤ s.a ∧ s.a ≤ 4 := by
  simp [stOk, ho, inB] at h; omega
theorem foldP_snoc {xs : List St} {k : Nat} {s : St} (h : xs[k]? = some s) : (xs.take (k + 1)).foldl stepP 0 = stepP ((xs.take k).foldl stepP 0) s := by
  rw [take_snocS h, List.foldl_append]; rfl
theorem foldP_bd {xs : List St} (h : ∀ s ∈ xs, stOk s = true) : ∀ n : Int, 0 ≤ n → n ≤ 5 → 0 ≤ xs.foldl stepP n ∧ xs.foldl stepP n ≤ 5 := by
  induction xs with
  | nil => intro n h0 h1; exact ⟨h0, h1⟩
  | cons s r ih =>
    intro n h0 h1
    have hs := h s (List.mem_cons_self ..)
    have e : 0 ≤ stepP n s ∧ stepP n s ≤ 5 := by
      unfold stepP; split
      · have := stok_input hs (by assumption)
        split <;> omega
      · exact ⟨h0, h1⟩
    exact ih (fun x hx => h x (List.mem_cons_of_mem _ hx)) _ e.1 e.2

def stepM (p : Int × Int) (s : St) : Int × Int := (stepD p.1 s, if p.2 < stepD p.1 s then stepD p.1 s else p.2)
def loopDepth (xs : List St) : Int := if progOk xs then (xs.foldl stepM (0, 0)).2 else -1
theorem foldM_snoc {xs : List St} {k : Nat} {s : St} (h : xs[k]? = some s) : (xs.take (k + 1)).foldl stepM (0, 0) = stepM ((xs.take k).foldl stepM (0, 0)) s := by
  rw [take_snocS h, List.foldl_append]; rfl
theorem foldM_fst (xs : List St) : ∀ p : Int × Int, (xs.foldl stepM p).1 = dp p.1 xs := by
  induction xs with
  | nil => intro p; rfl
  | cons s r ih => intro p; simp only [List.foldl_cons, ih]; rfl
theorem progOk_take {xs : List St} (h : progOk xs = true) (k : Nat) : ∃ d, depF 0 (xs.take k) = some d := by
  simp only [progOk, Bool.and_eq_true, decide_eq_true_eq] at h
  have e := h.2
  rw [← List.take_append_drop k xs, depF_append] at e
  cases hd : depF 0 (xs.take k) with
  | none => rw [hd] at e; cases e
  | some d => exact ⟨d, rfl⟩
theorem foldM_bd {xs : List St} (h : progOk xs = true) (k : Nat) : 0 ≤ ((xs.take k).foldl stepM (0, 0)).1 ∧ ((xs.take k).foldl stepM (0, 0)).1 ≤ 3 ∧ 0 ≤ ((xs.take k).foldl stepM (0, 0)).2 ∧ ((xs.take k).foldl stepM (0, 0)).2 ≤ 3 := by
  have h1 : ∀ k, 0 ≤ ((xs.take k).foldl stepM (0, 0)).1 ∧ ((xs.take k).foldl stepM (0, 0)).1 ≤ 3 := by
    intro k
    obtain ⟨d, hd⟩ := progOk_take h k
    rw [foldM_fst, depF_dp hd]
    exact depF_lo hd (by omega)
  refine ⟨(h1 k).1, (h1 k).2, ?_⟩
  induction k with
  | zero => simp
  | succ k ih =>
    cases hx : xs[k]? with
    | none =>
      have : xs.length ≤ k := by simpa using hx
      rw [List.take_of_length_le (by omega)]
      rw [List.take_of_length_le (by omega)] at ih
      exact ih
    | some s =>
      have e := h1 (k + 1)
      rw [foldM_snoc hx] at e ⊢
      simp only [stepM] at e ⊢
      split <;> omega

end Go.Proofs.Ytfcijloiebnloaa

/- ProgFacts -/
namespace Go.Proofs.Ytfcijloiebnloaa
open Go.RowKit
set_option linter.unusedVariables false
set_option linter.unusedSimpArgs false

theorem Own.cap {w : World} {lo e size : Nat} {g n cap : Nat} {cs : List Value} (h : Own w lo e size (some ⟨g, 0, none⟩) n cap cs) : n ≤ cap := by
  rcases h.2 with ⟨he, _⟩ | ⟨g', cap', cur, he, _, _, hnc, _⟩
  · simp at he
  · simp only [Value.slice.injEq] at he
    obtain ⟨_, _, rfl⟩ := he
    exact hnc
theorem Own.capMax {w : World} {lo e size : Nat} {g n cap : Nat} {cs : List Value} (h : Own w lo e size (some ⟨g, 0, none⟩) n cap cs) : cap ≤ maxLen := by
  rcases h.2 with ⟨he, _⟩ | ⟨g', cap', cur, he, _, _, _, hcm, _⟩
  · simp at he
  · simp only [Value.slice.injEq] at he
    obtain ⟨_, _, rfl⟩ := he
    exact hcm
theorem parties_two {l : List St} (h : progOk l = true) {r : List St} (hl : l = ⟨2, 0, 0, 0, 0, 0⟩ :: ⟨2, 1, 1, 0, 0, 0⟩ :: r) : 2 ≤ partiesOf l := by
  have hst : ∀ s ∈ l, stOk s = true := fun s hs => by
    obtain ⟨k, hk⟩ := List.getElem?_of_mem hs
    exact stok_at h hk
  have mono : ∀ (r : List St) (n : Int), 2 ≤ n → 2 ≤ r.foldl stepP n := by
    intro r
    induction r with
    | nil => intro n hn; exact hn
    | cons s r ih =>
      intro n hn
      refine ih _ ?_
      unfold stepP
      repeat' split
      all_goals omega
  simp only [partiesOf, h, if_true]
  rw [hl]
  exact mono r _ (by simp [stepP])

end Go.Proofs.Ytfcijloiebnloaa

/- UnrFacts -/
namespace Go.Proofs.Ytfcijloiebnloaa
open Go.RowKit
set_option linter.unusedVariables false
set_option linter.unusedSimpArgs false

theorem ur_mem {b : Nat} {xs us : List St} (h : Ur b xs us) : ∀ s ∈ xs, s.op ≠ 12 → s.op ≠ 13 → s ∈ us := by
  induction h with
  | nil b => intro s hs; cases hs
  | plain b s r u h1 h2 h3 h4 ih =>
    intro x hx h12 h13
    rcases List.mem_cons.1 hx with rfl | hx
    · exact List.mem_cons_self ..
    · exact List.mem_cons_of_mem _ (ih x hx h12 h13)
  | loop b l e body r v u h1 h2 h3 h4 h5 h6 ih5 ih6 =>
    intro x hx h12 h13
    rcases List.mem_cons.1 hx with rfl | hx
    · exact absurd h3 h12
    rcases List.mem_append.1 hx with hx | hx
    · refine List.mem_append_left _ ?_
      have hn := (stOk_loop h1 h3).1
      have hv := ih5 x hx h12 h13
      simp only [repS, List.mem_flatten]
      exact ⟨v, by simp [List.mem_replicate]; omega, hv⟩
    rcases List.mem_cons.1 hx with rfl | hx
    · exact absurd h4 h13
    · exact List.mem_append_right _ (ih6 x hx h12 h13)
theorem foldM_mono (xs : List St) : ∀ p : Int × Int, p.2 ≤ (xs.foldl stepM p).2 := by
  induction xs with
  | nil => intro p; exact Int.le_refl _
  | cons s r ih =>
    intro p
    refine Int.le_trans ?_ (ih _)
    simp only [stepM]
    split <;> omega
theorem depth_bd {l : List St} (h : progOk l = true) : 0 ≤ loopDepth l ∧ loopDepth l ≤ 3 := by
  have := foldM_bd h l.length
  rw [List.take_length] at this
  simp only [loopDepth, h, if_true]
  exact this.2.2
theorem depth_zero {l : List St} (h : progOk l = true) (h0 : loopDepth l = 0) : ∀ s ∈ l, s.op ≠ 12 := by
  intro s hs h12
  obtain ⟨k, hk⟩ := List.getElem?_of_mem hs
  have e := foldM_bd h k
  have e2 := foldM_mono (l.drop (k + 1)) ((l.take (k + 1)).foldl stepM (0, 0))
  rw [← List.foldl_append, List.take_append_drop, foldM_snoc hk] at e2
  simp only [loopDepth, h, if_true] at h0
  rw [h0] at e2
  simp only [stepM, stepD, h12, if_true] at e2
  split at e2 <;> omega
theorem cnt_pos {us : List St} {s : St} (h : s ∈ us) (h11 : s.op = 11) : 1 ≤ cntOut us := by
  have : s ∈ us.filter (fun s => s.op == 11) := List.mem_filter.2 ⟨h, by simp [h11]⟩
  exact List.length_pos_of_mem this
/-- The one unrolled list of a valid program, and what the contracts ask of it. -/
theorem unr_one {l : List St} (h : progOk l = true) : ∃ U : List St, Ur 3 l U ∧ IsSize l (U.length : Int) ∧ (U.length ≤ 120 → IsUnr l U true) ∧ (120 < U.length → IsUnr l [] false) := by
  obtain ⟨hl, U, hu⟩ := ur_of_progOk h
  have hb : U.length ≤ 20480 := Nat.le_trans (ur_bound hu) (Nat.le_trans (Nat.mul_le_mul (Nat.le_refl _) hl) (by decide))
  exact ⟨U, hu, .inr ⟨h, hl, U, hu, rfl, hb⟩, fun h1 => .inr (.inr ⟨rfl, h, hl, hu, h1⟩), fun h1 => .inr (.inl ⟨rfl, rfl, h, hl, U, hu, h1, hb⟩)⟩
end Go.Proofs.Ytfcijloiebnloaa
