/- Contracts of the draws of words and tapes, and the law on labels. -/
import Derived.Test.YtnipfbgmafknfaaPlaces
import Derived.Test.YtnipfbgmafknfaaDelta
import Derived.Test.YtnipfbgmafknfaaLab
namespace Go.Proofs.Ytnipfbgmafknfaa
open Go.RowKit

theorem rng_keeps {W w' : World} {g b o : Nat} {v : Value} (h : Rng g (g + 1) W w') (hb : b ≠ g) (hc : W.cell? ⟨b, o, none⟩ = some v) : w'.cell? ⟨b, o, none⟩ = some v :=
  (World.cell?_of_block (w := W) (a := ⟨b, o, none⟩) (h b (by omega) (lt_of_cell hc)).1).trans hc
theorem rng_free {W w' : World} {g b o : Nat} (h : Rng g (g + 1) W w') (hb : b ≠ g) (hl : b < W.heap.size) (hc : W.frozen? ⟨b, o, none⟩ = false) : w'.frozen? ⟨b, o, none⟩ = false :=
  (World.frozen?_of_block (w := W) (a := ⟨b, o, none⟩) (h b (by omega) hl).1).trans hc

set_option maxHeartbeats 1000000 in
theorem pickInt_dr (g : Nat) (xs : List Int) (ad : Option Addr) (c : Nat) (ys : List Int) (yd : Option Addr) (yc : Nat) (w : World) (hd : Dr w g xs ad c) (hm : ys.length ≤ 1048576) (hy : ys ≠ []) (hr : RdC w yd (I64 ys)) (hg : ∀ a, yd = some a → a.block ≠ g) :
    Calls Try.prog 72 #[.pointer (some ⟨g, 0, none⟩), .slice yd ys.length yc] w fun e w' => ∃ v : Int, e = .returned (.int .i64 v) ∧ v ∈ ys ∧ Dr w' g xs ad c ∧ Only g w w' := by
  have hpos : 0 < ys.length := List.length_pos_iff.2 hy
  go_enter Try.func72, Try.ntmps72
  go_wp2_with fail
  refine (below_dr g xs ad c _ _ hd).mono ?_
  rintro e w1 ⟨v, rfl, v0, v1, _, hd1, ho1⟩
  have v2 := v1 (by omega)
  obtain ⟨k, rfl⟩ := Int.eq_ofNat_of_zero_le v0
  have hk : k < ys.length := by omega
  obtain ⟨b, off, rfl, hcell⟩ := (hr.keep fun b _ hb => (Kp.refl _ _).rng ho1.2 (by have := hg _ hb; simp at this; omega)).at k hk
  have hc := hcell k hk
  clear hcell hr v1
  go_wp2_with fail
  go_ret
  exact ⟨_, rfl, List.getElem_mem _, hd1, ho1⟩

set_option maxHeartbeats 1000000 in
theorem word_dr (g : Nat) (xs : List Int) (ad : Option Addr) (c : Nat) (w : World) (hd : Dr w g xs ad c) :
    Calls Try.prog 65 #[.pointer (some ⟨g, 0, none⟩)] w fun e w' => ∃ v : Int, e = .returned (.int .i64 v) ∧ 0 ≤ v ∧ v ≤ 4294967295 ∧ Dr w' g xs ad c ∧ Only g w w' := by
  go_enter Try.func65, Try.ntmps65
  go_wp2_with fail
  refine (below_dr g xs ad c 4 _ hd).mono ?_
  rintro e w1 ⟨v, rfl, v0, v1, _, hd1, ho1⟩
  have hg1 := hd1.gt
  clear v1
  by_cases h0 : v = 0
  · subst h0
    go_wp2_with fail
    refine (pickInt_dr g xs ad c [0, 1, 4294967295, 2147483648, 65536] _ _ _ (hd1.keep fun b _ => (Kp.refl _ _).alloc _) (by simp) (by simp) (RdC.alloc _ _ _) (by intro a ha; obtain rfl : _ = a := Option.some.inj ha; simp; omega)).mono ?_
    rintro e w2 ⟨u, rfl, hu, hd2, ho2⟩
    go_wp2_with fail
    go_ret
    refine ⟨u, rfl, ?_, ?_, hd2, ?_⟩
    · simp at hu; omega
    · simp at hu; omega
    · exact ⟨ho1.1.trans (((Below.refl _ _).alloc (by omega) _).trans ho2.1), fun b hb => ((ho1.2 b hb).alloc _).trans (ho2.2 b hb)⟩
  · by_cases h1 : v = 1
    · subst h1
      go_wp2_with fail
      refine (below_dr g xs ad c 200 _ hd1).mono ?_
      rintro e w2 ⟨u, rfl, u0, u1, _, hd2, ho2⟩
      have u2 := u1 (by omega)
      clear u1
      go_wp2_with fail
      go_ret
      exact ⟨u, rfl, u0, by omega, hd2, ho1.trans ho2⟩
    · have q0 : (v == 0) = false := by simpa using h0
      have q1 : (v == 1) = false := by simpa using h1
      clear h0 h1
      go_wp2_with fail
      refine (below_dr g xs ad c 65536 _ hd1).mono ?_
      rintro e w2 ⟨u, rfl, u0, u1, _, hd2, ho2⟩
      have u2 := u1 (by omega)
      clear u1
      go_wp2_with fail
      refine (below_dr g xs ad c 65536 _ hd2).mono ?_
      rintro e w3 ⟨t, rfl, t0, t1, _, hd3, ho3⟩
      have t2 := t1 (by omega)
      clear t1
      go_wp2_with fail
      go_ret
      exact ⟨u * 65536 + t, rfl, by omega, by omega, hd3, (ho1.trans ho2).trans ho3⟩

set_option maxHeartbeats 1000000 in
theorem tape_dr (g : Nat) (xs : List Int) (ad : Option Addr) (c : Nat) (w : World) (hd : Dr w g xs ad c) :
    Calls Try.prog 48 #[.pointer (some ⟨g, 0, none⟩)] w fun e w' => ∃ s a : Int, e = .returned (.agg #[.int .i64 s, .int .i64 a]) ∧ 0 ≤ s ∧ s ≤ 4294967295 ∧ 0 ≤ a ∧ a < 50 ∧ Dr w' g xs ad c ∧ Only g w w' := by
  have hg1 := hd.gt
  go_enter Try.func48, Try.ntmps48
  go_wp2_with fail
  refine (word_dr g xs ad c _ (hd.keep fun b _ => (Kp.refl _ _).alloc _)).mono ?_
  rintro e w2 ⟨s, rfl, s0, s1, hd2, hb2, hr2⟩
  have z2 := hb2.size
  simp at z2
  have k2_0 : w2.cell? ⟨w.heap.size, 0, none⟩ = some (.int .i64 0) := rng_keeps hr2 (by omega) (by go_simp)
  have f2_0 : w2.frozen? ⟨w.heap.size, 0, none⟩ = false := rng_free hr2 (by omega) (by first | omega | (simp; done) | (simp; omega)) (by go_simp)
  have k2_1 : w2.cell? ⟨w.heap.size, 1, none⟩ = some (.int .i64 0) := rng_keeps hr2 (by omega) (by go_simp)
  have f2_1 : w2.frozen? ⟨w.heap.size, 1, none⟩ = false := rng_free hr2 (by omega) (by first | omega | (simp; done) | (simp; omega)) (by go_simp)
  go_wp2_with fail
  refine (below_dr g xs ad c 50 _ hd2).mono ?_
  rintro e w3 ⟨a, rfl, a0, a1, _, hd3, hb3, hr3⟩
  have a2 := a1 (by omega)
  clear a1
  have z3 := hb3.size
  have y3 : w.heap.size < w3.heap.size := by omega
  have k3_0 : w3.cell? ⟨w.heap.size, 0, none⟩ = some (.int .i64 0) := rng_keeps hr3 (by omega) (by go_simp)
  have f3_0 : w3.frozen? ⟨w.heap.size, 0, none⟩ = false := rng_free hr3 (by omega) (by first | omega | (simp; done) | (simp; omega)) (by go_simp)
  have k3_1 : w3.cell? ⟨w.heap.size, 1, none⟩ = some (.int .i64 0) := rng_keeps hr3 (by omega) (by go_simp)
  have f3_1 : w3.frozen? ⟨w.heap.size, 1, none⟩ = false := rng_free hr3 (by omega) (by first | omega | (simp; done) | (simp; omega)) (by go_simp)
  go_wp2_with fail
  refine bodyPost_ret (v := .agg #[.int .i64 s, .int .i64 a]) (by simp [results, Try.results48, go_sem, k3_0, k3_1]) rfl ⟨s, a, rfl, s0, s1, a0, a2, ?_, ?_⟩
  · exact hd3.keep fun b hb => ((Kp.refl _ _).setCell _ (show b ≠ w.heap.size from (by omega))).setCell _ (show b ≠ w.heap.size from (by omega))
  · refine ⟨(((((Below.refl g w).alloc (by omega) _).trans hb2).trans hb3).setCell (show g ≤ w.heap.size from (by omega)) _).setCell (show g ≤ w.heap.size from (by omega)) _, fun b hb hlt => ?_⟩
    exact ((((((Kp.refl b w).alloc _).trans (hr2 b hb)).trans (hr3 b hb)).setCell _ (show b ≠ w.heap.size from (by omega))).setCell _ (show b ≠ w.heap.size from (by omega))) hlt

set_option maxHeartbeats 1000000 in
theorem DrawTape_any (xs : List Int) (ad : Option Addr) (c : Nat) (w : World) (hm : xs.length ≤ 1048576) (hr : RdC w ad (xs.map (Value.int .u8))) (hb : ∀ x ∈ xs, 0 ≤ x ∧ x ≤ 255) :
    Calls Try.prog 14 #[.slice ad xs.length c] w fun e w' => ∃ s a : Int, e = .returned (.agg #[.int .i64 s, .int .i64 a]) ∧ 0 ≤ s ∧ s ≤ 4294967295 ∧ 0 ≤ a ∧ a < 50 ∧ Below w.heap.size w w' := by
  go_enter Try.func14, Try.ntmps14
  go_wp2_with fail
  refine (l01New_any xs ad c _ hm (hr.below (by (repeat (first | with_reducible exact Below.refl _ _ | (with_reducible refine bel_next ?_ ?_ (by assumption)) | (with_reducible refine Below.alloc ?_ ?_ _) | (with_reducible refine Below.drew ?_) | (with_reducible refine below_drewN ?_ _) | (with_reducible refine Below.setCell ?_ ?_ _))) <;> (first | omega | (simp; done) | (simp; omega)))) hb).mono ?_
  rintro e w1 ⟨g, rfl, hgl, hd1, hb1⟩
  simp at hgl
  have z1 := hb1.size; (try simp at z1); have y1_0 : w.heap.size < w1.heap.size := (by omega); have k1_0 := bel_keeps hb1 (b := w.heap.size) (o := 0) (v := .int .i64 0) (by go_simp); have k1_1 := bel_keeps hb1 (b := w.heap.size) (o := 1) (v := .int .i64 0) (by go_simp); have f1_0 := bel_free hb1 (b := w.heap.size) (o := 0) (by first | omega | (simp; done) | (simp; omega)) (by go_simp); have f1_1 := bel_free hb1 (b := w.heap.size) (o := 1) (by first | omega | (simp; done) | (simp; omega)) (by go_simp)
  have hg1 := hd1.gt
  go_wp2_with fail
  refine (tape_dr g xs ad c _ hd1).mono ?_
  rintro e w2 ⟨s, a, rfl, s0, s1, a0, a2, hd2, hb2, hr2⟩
  have z2 := hb2.size
  have k2_0 : w2.cell? ⟨w.heap.size, 0, none⟩ = some (.int .i64 0) := rng_keeps hr2 (by omega) (by go_simp)
  have f2_0 : w2.frozen? ⟨w.heap.size, 0, none⟩ = false := rng_free hr2 (by omega) (by first | omega | (simp; done) | (simp; omega)) (by go_simp)
  have k2_1 : w2.cell? ⟨w.heap.size, 1, none⟩ = some (.int .i64 0) := rng_keeps hr2 (by omega) (by go_simp)
  have f2_1 : w2.frozen? ⟨w.heap.size, 1, none⟩ = false := rng_free hr2 (by omega) (by first | omega | (simp; done) | (simp; omega)) (by go_simp)
  go_wp2_with fail
  refine bodyPost_ret (v := .agg #[.int .i64 s, .int .i64 a]) (by simp [results, Try.results14, go_sem, k2_0, k2_1]) rfl ⟨s, a, rfl, s0, s1, a0, a2, ?_⟩
  exact (by (repeat (first | with_reducible exact Below.refl _ _ | (with_reducible refine bel_next ?_ ?_ (by assumption)) | (with_reducible refine Below.alloc ?_ ?_ _) | (with_reducible refine Below.drew ?_) | (with_reducible refine below_drewN ?_ _) | (with_reducible refine Below.setCell ?_ ?_ _))) <;> (first | omega | (simp; done) | (simp; omega)))

theorem or1 (K : Nat) (h : K < 65536) : (K ||| 1) < 65536 ∧ (K ||| 1) % 2 = 1 := by
  exact ⟨Nat.or_lt_two_pow (n := 16) h (by omega), by simp⟩
theorem xor_par (z d : Nat) (h : d % 2 = 1) : (z + (z ^^^ d)) % 2 = 1 := by
  have := Nat.testBit_xor z d 0
  rw [Nat.testBit_zero, Nat.testBit_zero, Nat.testBit_zero] at this
  by_cases hz : z % 2 = 1 <;> by_cases hx : (z ^^^ d) % 2 = 1
  · rw [decide_eq_true hz, decide_eq_true h, decide_eq_true hx] at this; cases this
  · omega
  · omega
  · rw [decide_eq_false hz, decide_eq_true h, decide_eq_false hx] at this; cases this
theorem delta_facts {z K : Int} (z0 : 0 ≤ z) (z1 : z ≤ 65535) (k0 : 0 ≤ K) (k1 : K ≤ 65535) :
    0 ≤ bits .or .i64 K 1 ∧ bits .or .i64 K 1 ≤ 65535 ∧ bits .or .i64 K 1 % 2 = 1 ∧ 0 ≤ bits .xor .i64 z (bits .or .i64 K 1) ∧ bits .xor .i64 z (bits .or .i64 K 1) ≤ 65535 ∧ (z + bits .xor .i64 z (bits .or .i64 K 1)) % 2 = 1 := by
  obtain ⟨x, rfl⟩ := Int.eq_ofNat_of_zero_le z0
  obtain ⟨y, rfl⟩ := Int.eq_ofNat_of_zero_le k0
  have h1 := i64_or_nat y 1 (by omega) (by omega)
  have h2 := or1 y (by omega)
  rw [show ((1 : Nat) : Int) = 1 from rfl] at h1
  rw [h1, i64_xor_nat x (y ||| 1) (by omega) (by omega)]
  have h3 : x ^^^ (y ||| 1) < 65536 := Nat.xor_lt_two_pow (n := 16) (by omega) (by omega)
  have h4 := xor_par x (y ||| 1) h2.2
  omega

theorem mod_range {n k : Int} (hk : 0 < k) : 0 ≤ n % k ∧ n % k < k := ⟨Int.emod_nonneg _ (by omega), Int.emod_lt_of_pos _ hk⟩

set_option maxHeartbeats 4000000 in
theorem walk_FnLabels (w : World) (xs : List Int) (ad : Option Addr) (c : Nat) (hm : xs.length ≤ maxLen) (hr : RdC w ad (xs.map (Value.int .u8))) (hb : ∀ x ∈ xs, 0 ≤ x ∧ x ≤ 255) :
    Calls Try.prog 4 #[.slice ad xs.length c] w fun e w' => e = .returned (.bool true) ∧ Below w.heap.size w w' := by
  unfold maxLen at hm
  by_cases hsz : xs.length ≤ 1048576
  · go_enter Try.func4, Try.ntmps4
    go_wp2_with (first | (go_at_call 11; go_in) | fail)
    refine (DrawTape_any xs ad c w hsz hr hb).mono ?_
    rintro e w1 ⟨s, a, rfl, s0, s1, a0, a1, hb1⟩
    have z1 := hb1.size
    go_wp2_with fail
    refine (DrawPlaces_any xs ad c _ hsz (hr.below (by (repeat (first | with_reducible exact Below.refl _ _ | (with_reducible refine bel_next ?_ ?_ (by assumption)) | (with_reducible refine Below.alloc ?_ ?_ _) | (with_reducible refine Below.drew ?_) | (with_reducible refine below_drewN ?_ _) | (with_reducible refine Below.setCell ?_ ?_ _))) <;> (first | omega | (simp; done) | (simp; omega)))) hb).mono ?_
    rintro e w2 ⟨a', c', rfl, ⟨vs, hl, hv, hown⟩, hb2⟩
    obtain ⟨b, rfl, hcell⟩ := hown.at2 (by omega)
    have p0 := hcell 0 (by omega)
    have p1 := hcell 1 (by omega)
    obtain ⟨x0, x1⟩ := hv vs[0] (List.getElem_mem _)
    obtain ⟨y0, y1⟩ := hv vs[1] (List.getElem_mem _)
    generalize vs[0] = x at *
    generalize vs[1] = y at *
    have z2 := hb2.size; (try simp at z2); have y2_0 : w1.heap.size < w2.heap.size := (by omega); have k2_0 := bel_keeps hb2 (b := w1.heap.size) (o := 0) (v := .int .i64 s) (by go_simp); have k2_1 := bel_keeps hb2 (b := w1.heap.size) (o := 1) (v := .int .i64 a) (by go_simp)
    have hlb : b < w2.heap.size := lt_of_cell p0
    clear hl hv hcell hown hr hb
    have hlive : deltaLive s a = true := by
      have h1 : inB s 0 4294967295 = true := inB_iff.2 ⟨s0, s1⟩
      have h2 : inB a 0 1000000 = true := inB_iff.2 ⟨a0, by omega⟩
      have h3 : decide (a ≤ 900000) = true := by simp; omega
      simp [deltaLive, tapeOk, h1, h2, h3]
    have HL := Lib.hid hlive
    clear hlive
    go_wp2_with fail
    refine (iDeltaOf_yes s a _ HL.out).mono ?_
    rintro e w3 ⟨rfl, hb3⟩
    have z3 := hb3.size; (try simp at z3); have y3_0 : w1.heap.size < w3.heap.size := (by omega); have y3_1 : b < w3.heap.size := (by omega); have k3_0 := bel_keeps hb3 (b := w1.heap.size) (o := 0) (v := .int .i64 s) (by go_simp); have k3_1 := bel_keeps hb3 (b := w1.heap.size) (o := 1) (v := .int .i64 a) (by go_simp); have k3_2 := bel_keeps hb3 (b := b) (o := 0) (v := .int .i64 x) (by go_simp); have k3_3 := bel_keeps hb3 (b := b) (o := 1) (v := .int .i64 y) (by go_simp)
    have hK : 0 ≤ keyedF s 7 a / 256 % 65536 ∧ keyedF s 7 a / 256 % 65536 < 65536 := mod_range (by omega)
    have hZ : 0 ≤ x * 6 % 65536 ∧ x * 6 % 65536 < 65536 := mod_range (by omega)
    have HF := Lib.hid (And.intro hK (And.intro hZ (delta_facts hZ.1 (by omega) hK.1 (by omega))))
    clear hK hZ
    go_wp2_with fail
    have hdv : deltaVal s a = bits .or .i64 (keyedF s 7 a / 256 % 65536) 1 := rfl
    rw [hdv]
    clear hdv
    obtain ⟨HK, HZ, f0, f1, f2, f3, f4, f5⟩ := HF.out
    clear HF
    obtain ⟨HZ0, HZ1⟩ := HZ
    generalize bits .or .i64 (keyedF s 7 a / 256 % 65536) 1 = d at *
    generalize x * 6 % 65536 = z at *
    clear HK
    have i1 : inB z 0 65535 = true := inB_iff.2 ⟨HZ0, by omega⟩
    have i2 : inB d 0 65535 = true := inB_iff.2 ⟨f0, f1⟩
    have l0 : labelFor z d 0 = z := by have e : inB 0 0 1 = true := rfl; simp [labelFor, i1, i2, e]
    have l1 : labelFor z d 1 = bits .xor .i64 z d := by have e : inB 1 0 1 = true := rfl; simp [labelFor, i1, i2, e]
    have v0 : valueOf z d z = 0 := by simp [valueOf, i1, i2]
    have v1 : valueOf z d (bits .xor .i64 z d) = 1 := by
      simp only [valueOf, i1, i2, Bool.and_self, if_true]
      rw [if_neg (by omega)]
    generalize bits .xor .i64 z d = q at *
    have hq1 : (z == q) = false := by simp; omega
    have hq3 : (z != q) = true := by simp; omega
    have hq2 : ((z + q) % 2 == 1) = true := by simpa using f5
    have hd1 : (d % 2 == 1) = true := by simpa using f2
    have hh : inB (hashLabel z y) 0 65535 = true := by
      have i3 : inB y 0 1000000 = true := inB_iff.2 ⟨y0, by omega⟩
      have := mod_range (n := keyedF 77 y z) (show (0 : Int) < 65536 by omega)
      simp only [hashLabel, i1, i3, Bool.and_self, if_true]
      exact inB_iff.2 ⟨this.1, by omega⟩
    clear f2 f5
    go_wp2_with (first | (go_at_call 17; refine (iIsLabel_any _ _).mono ?_; rintro e w' ⟨rfl, rfl⟩) | (go_at_call 19; refine (iHashLabel_any _ _ _).mono ?_; rintro e w' ⟨rfl, rfl⟩) | (go_at_call 16; refine (iLabelFor_any _ _ _ _).mono ?_; rintro e w4 ⟨rfl, hb4⟩; have z4 := hb4.size; (try simp at z4); have y4_0 : w1.heap.size < w4.heap.size := (by omega); have y4_1 : w3.heap.size < w4.heap.size := (by omega); have y4_2 : b < w4.heap.size := (by omega); have k4_0 := bel_keeps hb4 (b := w1.heap.size) (o := 1) (v := .int .i64 a) (by go_simp); have k4_1 := bel_keeps hb4 (b := w3.heap.size) (o := 1) (v := .int .i64 (a + 1)) (by go_simp); have k4_2 := bel_keeps hb4 (b := b) (o := 1) (v := .int .i64 y) (by go_simp)) | (go_at_call 18; refine (iValueOf_any _ _ _ _).mono ?_; rintro e w4 ⟨rfl, hb4⟩; have z4 := hb4.size; (try simp at z4); have y4_0 : w1.heap.size < w4.heap.size := (by omega); have y4_1 : w3.heap.size < w4.heap.size := (by omega); have y4_2 : b < w4.heap.size := (by omega); have k4_0 := bel_keeps hb4 (b := w1.heap.size) (o := 1) (v := .int .i64 a) (by go_simp); have k4_1 := bel_keeps hb4 (b := w3.heap.size) (o := 1) (v := .int .i64 (a + 1)) (by go_simp); have k4_2 := bel_keeps hb4 (b := b) (o := 1) (v := .int .i64 y) (by go_simp)))
    go_ret
    go_light
    exact ⟨rfl, (by (repeat (first | with_reducible exact Below.refl _ _ | (with_reducible refine bel_next ?_ ?_ (by assumption)) | (with_reducible refine Below.alloc ?_ ?_ _) | (with_reducible refine Below.drew ?_) | (with_reducible refine below_drewN ?_ _) | (with_reducible refine Below.setCell ?_ ?_ _))) <;> (first | omega | (simp; done) | (simp; omega)))⟩
  · go_enter Try.func4, Try.ntmps4
    go_wp2_with (first | (go_at_call 11; go_in) | fail)
    go_ret
    exact ⟨rfl, Below.refl _ _⟩
end Go.Proofs.Ytnipfbgmafknfaa
