/- Contracts of the cursor that the draws read: what it returns is within its bound; nothing but the cursor turns. -/
import Derived.Test.YtigefmobejclaaaDoorList
namespace Go.Proofs.YtigefmobejclaaaDoor
open Go.RowKit

/-- A cursor. -/
def Cur (w : World) (g : Nat) (sl : Value) (i h : Int) : Prop := w.heap[g]? = some (.cells #[sl, .int .i64 i, .int .i64 h] 83 (0, 0))

theorem Cur.get {w : World} {g : Nat} {sl : Value} {i h : Int} (hc : Cur w g sl i h) :
    w.cell? ⟨g, 0, none⟩ = some sl ∧ w.cell? ⟨g, 1, none⟩ = some (.int .i64 i) ∧ w.cell? ⟨g, 2, none⟩ = some (.int .i64 h) ∧ w.frozen? ⟨g, 1, none⟩ = false ∧ w.frozen? ⟨g, 2, none⟩ = false := by
  unfold Cur at hc
  simp [World.cell?, World.frozen?, hc]
theorem Cur.lt {w : World} {g : Nat} {sl : Value} {i h : Int} (hc : Cur w g sl i h) : g < w.heap.size := (Array.getElem?_eq_some_iff.1 hc).1
theorem Cur.setH {w : World} {g : Nat} {sl : Value} {i h : Int} (hc : Cur w g sl i h) (h' : Int) : Cur (w.setCell ⟨g, 2, none⟩ (.int .i64 h')) g sl i h' := by
  unfold Cur at *
  simp [World.setCell, Array.getElem?_modify, hc]
theorem Cur.setI {w : World} {g : Nat} {sl : Value} {i h : Int} (hc : Cur w g sl i h) (i' : Int) : Cur (w.setCell ⟨g, 1, none⟩ (.int .i64 i')) g sl i' h := by
  unfold Cur at *
  simp [World.setCell, Array.getElem?_modify, hc]
theorem Cur.kp {w w' : World} {g : Nat} {sl : Value} {i h : Int} (hc : Cur w g sl i h) (hk : Kp g w w') : Cur w' g sl i h := (hk hc.lt).1.trans hc

/-- Only block g may have turned; blocks may have come. -/
def Only (g : Nat) (w w' : World) : Prop := Below g w w' ∧ Rng g (g + 1) w w'

theorem Only.setCell {g : Nat} {w : World} (o : Nat) (v : Value) : Only g w (w.setCell ⟨g, o, none⟩ v) :=
  ⟨(Below.refl _ _).setCell (p := ⟨g, o, none⟩) (Nat.le_refl _) _, fun b hb => (Kp.refl b w).setCell _ (by show b ≠ g; omega)⟩
theorem Only.trans {g : Nat} {w w1 w2 : World} (h : Only g w w1) (k : Only g w1 w2) : Only g w w2 :=
  ⟨h.1.trans k.1, fun b hb => (h.2 b hb).trans (k.2 b hb)⟩
theorem Only.drewN {g : Nat} {w w1 : World} (h : Only g w w1) (n : Nat) : Only g w (w1.drewN n) := ⟨below_drewN h.1 n, fun b hb => (h.2 b hb).drewN n⟩
theorem Only.refl (g : Nat) (w : World) : Only g w w := ⟨Below.refl _ _, fun b _ => Kp.refl b w⟩
theorem RdC.keepIf {w w' : World} {ad : Option Addr} {cs : List Value} (h : RdC w ad cs) (hk : cs ≠ [] → ∀ b off, ad = some ⟨b, off, none⟩ → Kp b w w') : RdC w' ad cs := by
  by_cases h0 : cs = []
  · exact .inl h0
  · exact h.keep (hk h0)
theorem RdC.lt {w : World} {ad : Option Addr} {cs : List Value} (h : RdC w ad cs) (h0 : cs ≠ []) : ∀ a, ad = some a → a.block < w.heap.size := by
  intro a ha
  rcases h with h | ⟨b, off, h1, h2⟩
  · exact absurd h h0
  · rw [ha] at h1
    obtain rfl : a = ⟨b, off, none⟩ := Option.some.inj h1
    have := h2 0 (List.length_pos_iff.2 h0)
    exact lt_of_cell this
theorem map_ne {xs : List Int} {f : Int → Value} (h : xs.map f ≠ []) : xs ≠ [] := fun e => h (by rw [e]; rfl)
theorem RdC.only {g : Nat} {w w1 : World} {ad : Option Addr} {xs : List Int} (h : RdC w ad (xs.map (Value.int .u8))) (hg : xs ≠ [] → ∀ a, ad = some a → a.block < g) (k : Only g w w1) : RdC w1 ad (xs.map (Value.int .u8)) :=
  h.keepIf fun h0 b _ hb => k.2 b (.inl (hg (map_ne h0) _ hb))
theorem RdC.byte {w : World} {ad : Option Addr} {xs : List Int} (h : RdC w ad (xs.map (Value.int .u8))) (k : Nat) (hk : k < xs.length) :
    ∃ b off, ad = some ⟨b, off, none⟩ ∧ w.cell? ⟨b, off + k, none⟩ = some (.int .u8 xs[k]) := by
  rcases h with h | ⟨b, off, h1, h2⟩
  · have := congrArg List.length h; simp only [List.length_map, List.length_nil] at this; omega
  · exact ⟨b, off, h1, by rw [h2 k (by simpa using hk)]; simp⟩

set_option maxHeartbeats 1000000 in
theorem l01Byte_any (g : Nat) (xs : List Int) (ad : Option Addr) (c : Nat) (i h : Int) (w : World) (hm : xs.length ≤ 1048576) (hc : Cur w g (.slice ad xs.length c) i h) (hr : RdC w ad (xs.map (Value.int .u8))) (hb : ∀ x ∈ xs, 0 ≤ x ∧ x ≤ 255)
    (hg : xs ≠ [] → ∀ a, ad = some a → a.block < g) (h0 : 0 ≤ i) (h1 : i ≤ xs.length) :
    Calls Tryd.prog 58 #[.pointer (some ⟨g, 0, none⟩)] w fun e w' => ∃ v i' h' : Int, e = .returned (.int .i64 v) ∧ 0 ≤ v ∧ v ≤ 255 ∧ 0 ≤ i' ∧ i' ≤ xs.length ∧ Cur w' g (.slice ad xs.length c) i' h' ∧ Only g w w' := by
  obtain ⟨c0, c1, c2, f1, f2⟩ := hc.get
  go_enter Tryd.func58, Tryd.ntmps58
  go_wp2_with fail
  generalize wrap64 (wrap64 (h * 6364136223846793005) + 1442695040888963407) = hh
  generalize wrap64 (h * 6364136223846793005) = hx
  have hc' := hc.setH hh
  have ho := Only.setCell (g := g) (w := w) 2 (.int .i64 hh)
  have hr' := hr.only hg ho
  clear c0 c1 c2 f1 f2 hc hr
  generalize w.setCell ⟨g, 2, none⟩ (.int .i64 hh) = W1 at *
  obtain ⟨c0, c1, c2, f1, _⟩ := hc'.get
  go_quiet (fail)
  go_wp2_with fail
  generalize hv : bits BinOp.and IntKind.i64 (bits BinOp.xor IntKind.i64 (hh / 8589934592) (hh / 35184372088832)) 255 = x
  have hx0 : 0 ≤ x ∧ x ≤ 255 := by rw [← hv, i64_and_mask8]; omega
  clear hv
  obtain ⟨x0, x1⟩ := hx0
  obtain ⟨k, rfl⟩ := Int.eq_ofNat_of_zero_le h0
  by_cases hlt : k < xs.length
  · obtain ⟨b, off, rfl, hcell⟩ := hr'.byte k hlt
    obtain ⟨b0, b1⟩ := hb xs[k] (List.getElem_mem _)
    generalize xs[k] = y at *
    have hlt' : (k : Int) < (xs.length : Int) := by omega
    have hw : IntKind.i64.wrap (x + y) = x + y := wrap_i64_id (by omega) (by omega)
    clear hr' hb
    go_quiet (fail)
    go_wp2_with fail
    go_quiet (fail)
    clear hw
    go_wp2_with fail
    generalize hv : bits BinOp.and IntKind.i64 (x + y) 255 = z
    have hz0 : 0 ≤ z ∧ z ≤ 255 := by rw [← hv, i64_and_mask8]; omega
    clear hv
    obtain ⟨z0, z1⟩ := hz0
    try go_wp2_with fail
    go_ret
    refine ⟨z, k + 1, hh, rfl, z0, z1, by omega, by omega, ?_, ?_⟩
    · exact hc'.setI _
    · exact (ho.trans (Only.setCell 1 _)).drewN _
  · have hlt' : (xs.length : Int) ≤ (k : Int) := by omega
    go_quiet (fail)
    go_wp2_with fail
    go_ret
    exact ⟨x, k, hh, rfl, x0, x1, by omega, by omega, hc', (ho.drewN _).drewN _⟩

/-- A cursor over these bytes, ready to be read. -/
structure Dr (w : World) (g : Nat) (xs : List Int) (ad : Option Addr) (c : Nat) : Prop where
  cur : ∃ i h : Int, 0 ≤ i ∧ i ≤ xs.length ∧ Cur w g (.slice ad xs.length c) i h
  rd : RdC w ad (xs.map (Value.int .u8))
  bytes : ∀ x ∈ xs, 0 ≤ x ∧ x ≤ 255
  lt : xs ≠ [] → ∀ a, ad = some a → a.block < g
  len : xs.length ≤ 1048576

theorem Dr.only {w w' : World} {g : Nat} {xs : List Int} {ad : Option Addr} {c : Nat} (h : Dr w g xs ad c) (ho : Only g w w') (hc : ∃ i h : Int, 0 ≤ i ∧ i ≤ xs.length ∧ Cur w' g (.slice ad xs.length c) i h) : Dr w' g xs ad c :=
  ⟨hc, h.rd.only h.lt ho, h.bytes, h.lt, h.len⟩
theorem Dr.gt {w : World} {g : Nat} {xs : List Int} {ad : Option Addr} {c : Nat} (h : Dr w g xs ad c) : g < w.heap.size := by
  obtain ⟨i, k, _, _, hc⟩ := h.cur; exact hc.lt
/-- A cursor lasts where its block and what lies below it last. -/
theorem Dr.keep {w w' : World} {g : Nat} {xs : List Int} {ad : Option Addr} {c : Nat} (h : Dr w g xs ad c) (hk : ∀ b, b ≤ g → Kp b w w') : Dr w' g xs ad c := by
  obtain ⟨i, k, h0, h1, hc⟩ := h.cur
  exact ⟨⟨i, k, h0, h1, hc.kp (hk g (Nat.le_refl _))⟩, h.rd.keepIf fun h0 b _ hb => hk b (by have := h.lt (map_ne h0) _ hb; simp at this; omega), h.bytes, h.lt, h.len⟩

theorem byte_dr (g : Nat) (xs : List Int) (ad : Option Addr) (c : Nat) (w : World) (hd : Dr w g xs ad c) :
    Calls Tryd.prog 58 #[.pointer (some ⟨g, 0, none⟩)] w fun e w' => ∃ v : Int, e = .returned (.int .i64 v) ∧ 0 ≤ v ∧ v ≤ 255 ∧ Dr w' g xs ad c ∧ Only g w w' := by
  obtain ⟨i, h, h0, h1, hc⟩ := hd.cur
  exact (l01Byte_any g xs ad c i h w hd.len hc hd.rd hd.bytes hd.lt h0 h1).mono fun _ _ ⟨v, i', h', e1, e2, e3, e4, e5, e6, e7⟩ => ⟨v, e1, e2, e3, hd.only e7 ⟨i', h', e4, e5, e6⟩, e7⟩

set_option maxHeartbeats 1000000 in
theorem below_dr (g : Nat) (xs : List Int) (ad : Option Addr) (c : Nat) (n : Int) (w : World) (hd : Dr w g xs ad c) :
    Calls Tryd.prog 44 #[.pointer (some ⟨g, 0, none⟩), .int .i64 n] w fun e w' => ∃ v : Int, e = .returned (.int .i64 v) ∧ 0 ≤ v ∧ (0 < n → v < n) ∧ (n ≤ 0 → v = 0) ∧ Dr w' g xs ad c ∧ Only g w w' := by
  by_cases hn : n ≤ 0
  · go_enter Tryd.func44, Tryd.ntmps44
    go_wp2_with fail
    go_ret
    exact ⟨0, rfl, by omega, by omega, fun _ => rfl, hd, Only.refl _ _⟩
  · have hn' : 0 < n := by omega
    by_cases h256 : n ≤ 256
    · go_enter Tryd.func44, Tryd.ntmps44
      go_wp2_with fail
      refine (byte_dr g xs ad c _ hd).mono ?_
      rintro e w1 ⟨v, rfl, v0, v1, hd1, ho1⟩
      go_wp2_with fail
      go_ret
      exact ⟨v % n, rfl, Int.emod_nonneg _ (by omega), fun _ => Int.emod_lt_of_pos _ hn', fun h => absurd h (by omega), hd1, ho1⟩
    · have h256' : 256 < n := by omega
      go_enter Tryd.func44, Tryd.ntmps44
      go_wp2_with fail
      refine (byte_dr g xs ad c _ hd).mono ?_
      rintro e w1 ⟨v1, rfl, a1, b1, hd1, ho1⟩
      go_wp2_with fail
      refine (byte_dr g xs ad c _ hd1).mono ?_
      rintro e w2 ⟨v2, rfl, a2, b2, hd2, ho2⟩
      go_wp2_with fail
      refine (byte_dr g xs ad c _ hd2).mono ?_
      rintro e w3 ⟨v3, rfl, a3, b3, hd3, ho3⟩
      go_wp2_with fail
      refine (byte_dr g xs ad c _ hd3).mono ?_
      rintro e w4 ⟨v4, rfl, a4, b4, hd4, ho4⟩
      go_wp2_with fail
      go_ret
      exact ⟨(v1 * 16777216 + v2 * 65536 + v3 * 256 + v4) % n, rfl, Int.emod_nonneg _ (by omega), fun _ => Int.emod_lt_of_pos _ hn', fun h => absurd h (by omega), hd4, ((ho1.trans ho2).trans ho3).trans ho4⟩

set_option maxHeartbeats 1000000 in
theorem l01New_any (xs : List Int) (ad : Option Addr) (c : Nat) (w : World) (hm : xs.length ≤ 1048576) (hr : RdC w ad (xs.map (Value.int .u8))) (hb : ∀ x ∈ xs, 0 ≤ x ∧ x ≤ 255) :
    Calls Tryd.prog 43 #[.slice ad xs.length c] w fun e w' => ∃ g, e = .returned (.pointer (some ⟨g, 0, none⟩)) ∧ w.heap.size ≤ g ∧ Dr w' g xs ad c ∧ Below w.heap.size w w' := by
  have fin : ∀ h : Int, Dr (w.alloc (.cells #[.slice ad xs.length c, .int .i64 0, .int .i64 h] 83)) w.heap.size xs ad c := fun h =>
    ⟨⟨0, h, by omega, by omega, heap_alloc_new w _⟩, hr.keep fun b _ _ => (Kp.refl b w).alloc _, hb, fun h0 => hr.lt (by simpa using h0), hm⟩
  go_enter Tryd.func43, Tryd.ntmps43
  go_wp2_with fail
  go_loop [3, 4] (fun hv i => ∃ (k : Nat) (h : Int), k ≤ xs.length ∧ i = .int .i64 k ∧ hv = .int .i64 h) (fun _ i => xs.length - (intOf i).toNat)
  case atStart => exact ⟨0, _, Nat.zero_le _, rfl, rfl⟩
  case round =>
    obtain ⟨k, h, hk, rfl, rfl⟩ := hrel
    by_cases hlt : k < xs.length
    · by_cases h4 : (k : Int) < 4000
      · obtain ⟨b, off, rfl, hcell⟩ := hr.byte k hlt
        obtain ⟨b0, b1⟩ := hb xs[k] (List.getElem_mem _)
        generalize xs[k] = y at *
        clear hr hb
        go_wp2_with fail
        go_round
        case rel => exact ⟨k + 1, _, by omega, by go_num, rfl⟩
        case measure => simp [intOf]; omega
      · go_wp2_with fail
        go_ret
        exact ⟨_, rfl, Nat.le_refl _, fin h, (Below.refl _ _).alloc (Nat.le_refl _) _⟩
    · go_wp2_with fail
      go_ret
      exact ⟨_, rfl, Nat.le_refl _, fin h, (Below.refl _ _).alloc (Nat.le_refl _) _⟩
end Go.Proofs.YtigefmobejclaaaDoor
