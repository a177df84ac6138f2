/- Drawn inputs. -/
import Derived.Test.YtfeffofoofmgcaaDrProg
import Derived.Test.YtfeffofoofmgcaaGrid
namespace Go.Proofs.Ytfeffofoofmgcaa
open Go.RowKit
set_option linter.unusedVariables false
set_option linter.unusedSimpArgs false

theorem el_ints : El 54 29 1 24 (.slice none 0 0) := by
  obtain ⟨i0, hi, hz0, hz1, hz2⟩ := info_parts info_ints
  exact ⟨⟨i0, Try.underlying54, hi, hz0, hz1, hz2⟩, rfl, by omega⟩
set_option maxHeartbeats 2000000 in
theorem l03List_dr (g : Nat) (xs : List Int) (ad : Option Addr) (c : Nat) (w : World) (hd : Dr w g xs ad c) :
    Calls Try.prog 118 #[.pointer (some ⟨g, 0, none⟩), .int .i64 16, .int .i64 4] w fun e w' => ∃ (gr cr : Nat) (vs : List Int), e = .returned (.slice (some ⟨gr, 0, none⟩) 4 cr) ∧ vs.length = 4 ∧ allB vs 0 15 = true ∧
      Own w' w.heap.size 3 1 (some ⟨gr, 0, none⟩) 4 cr (I64 vs) ∧ Dr w' g xs ad c ∧ Only g w w' := by
  have hgt := hd.gt
  go_enter Try.func118, Try.ntmps118
  go_wp2_with fail
  go_loopw [7, 8] (fun v i wr => ∃ (k gr cr : Nat) (vs : List Int), k ≤ 4 ∧ i = .int .i64 k ∧ v = .slice (some ⟨gr, 0, none⟩) k cr ∧ vs.length = k ∧ allB vs 0 15 = true ∧
      Own wr w.heap.size 3 1 (some ⟨gr, 0, none⟩) k cr (I64 vs) ∧ Dr wr g xs ad c ∧ Only g w wr) (fun _ i _ => 4 - (intOf i).toNat)
  case atStart => exact ⟨0, w.heap.size, 0, [], Nat.zero_le _, rfl, rfl, rfl, rfl, own_new w 3 1, hd.keep fun q hq => (by (repeat (first | with_reducible exact Kp.refl _ _ | (with_reducible refine Kp.rng ?_ (by assumption) ?_) | (with_reducible refine Kp.below ?_ (by assumption)) | (with_reducible refine Kp.grown ?_ (by assumption) ?_) | (with_reducible refine Kp.alloc ?_ _) | (with_reducible refine Kp.drew ?_) | (with_reducible refine Kp.drewN ?_ _) | (with_reducible refine Kp.setCell ?_ _ ?_))) <;> (first | omega | (simp; done) | (simp; omega))), ⟨(by (repeat (first | with_reducible exact Below.refl _ _ | (with_reducible refine bel_next ?_ ?_ (by assumption)) | (with_reducible refine Below.alloc ?_ ?_ _) | (with_reducible refine Below.drew ?_) | (with_reducible refine below_drewN ?_ _) | (with_reducible refine Below.setCell ?_ ?_ _))) <;> (first | omega | (simp; done) | (simp; omega))), fun q hq => Kp.of_lt fun hql => (by (repeat (first | with_reducible exact Kp.refl _ _ | (with_reducible refine Kp.rng ?_ (by assumption) ?_) | (with_reducible refine Kp.below ?_ (by assumption)) | (with_reducible refine Kp.grown ?_ (by assumption) ?_) | (with_reducible refine Kp.alloc ?_ _) | (with_reducible refine Kp.drew ?_) | (with_reducible refine Kp.drewN ?_ _) | (with_reducible refine Kp.setCell ?_ _ ?_))) <;> (first | omega | (simp; done) | (simp; omega)))⟩⟩
  case round =>
    obtain ⟨k, gr, cr, vs, hk, rfl, rfl, hl, hv, hown, hdr, ob0, or0⟩ := hrel
    have z0 := ob0.size
    have ge0 := hown.ge
    have hgt0 := hdr.gt
    have HL := Lib.hid hl
    have HV := Lib.hid hv
    clear hl hv
    by_cases hlt : (k : Int) < 4
    · go_wp2_with fail
      refine (below_dr g xs ad c 16 _ hdr).mono ?_
      rintro e w2 ⟨v, rfl, v0, v1, _, hd2, ob2, or2⟩
      have v1 := v1 (by omega)
      have z2 := ob2.size
      go_wp2_with (refine wpList_push _ rfl _ _ rfl w.heap.size gr k cr vs v w2.heap.size 1 (by rfl) (by rfl) (hown.later (by (repeat (first | with_reducible exact Kp.refl _ _ | (with_reducible refine Kp.rng ?_ (by assumption) ?_) | (with_reducible refine Kp.below ?_ (by assumption)) | (with_reducible refine Kp.grown ?_ (by assumption) ?_) | (with_reducible refine Kp.alloc ?_ _) | (with_reducible refine Kp.drew ?_) | (with_reducible refine Kp.drewN ?_ _) | (with_reducible refine Kp.setCell ?_ _ ?_))) <;> (first | omega | (simp; done) | (simp; omega)))) (by go_simp) (by omega) (by first | omega | (simp; done) | (simp; omega)) ?_; intro g3 c3 w3 ho3 hb3 hg3 hat3; (try simp at hat3); have z3 := hb3.size; (try simp at z3); have y3 := hg3.size; (try simp at y3); have ge3 := ho3.ge)
      go_roundw
      case rel => exact ⟨k + 1, g3, c3, vs ++ [v], by omega, by go_num, rfl, by simp [HL.out], (by have := HV.out; simp only [allB_iff] at this ⊢; intro x hx; rcases List.mem_append.1 hx with hx | hx; exact this x hx; simp at hx; omega), ho3, hd2.keep fun q hq => (by (repeat (first | with_reducible exact Kp.refl _ _ | (with_reducible refine Kp.rng ?_ (by assumption) ?_) | (with_reducible refine Kp.below ?_ (by assumption)) | (with_reducible refine Kp.grown ?_ (by assumption) ?_) | (with_reducible refine Kp.alloc ?_ _) | (with_reducible refine Kp.drew ?_) | (with_reducible refine Kp.drewN ?_ _) | (with_reducible refine Kp.setCell ?_ _ ?_))) <;> (first | omega | (simp; done) | (simp; omega))), ⟨(by (repeat (first | with_reducible exact Below.refl _ _ | (with_reducible refine bel_next ?_ ?_ (by assumption)) | (with_reducible refine Below.alloc ?_ ?_ _) | (with_reducible refine Below.drew ?_) | (with_reducible refine below_drewN ?_ _) | (with_reducible refine Below.setCell ?_ ?_ _))) <;> (first | omega | (simp; done) | (simp; omega))), fun q hq => Kp.of_lt fun hql => (by (repeat (first | with_reducible exact Kp.refl _ _ | (with_reducible refine Kp.rng ?_ (by assumption) ?_) | (with_reducible refine Kp.below ?_ (by assumption)) | (with_reducible refine Kp.grown ?_ (by assumption) ?_) | (with_reducible refine Kp.alloc ?_ _) | (with_reducible refine Kp.drew ?_) | (with_reducible refine Kp.drewN ?_ _) | (with_reducible refine Kp.setCell ?_ _ ?_))) <;> (first | omega | (simp; done) | (simp; omega)))⟩⟩
      case measure => simp [intOf]; omega
    · obtain rfl : k = 4 := by omega
      have H := Lib.hid (And.intro hown (And.intro hdr (show Only g w wr from ⟨ob0, or0⟩)))
      clear hown hdr ob0 or0
      go_wp2_with fail
      go_ret
      exact ⟨gr, cr, rfl, vs, HL.out, HV.out, H.out.1, H.out.2.1, H.out.2.2⟩
structure RowAt (w0 w : World) (ga : Nat) (r : Rw) : Prop where
  rd : RdC w r.ad (I64 r.xs)
  blk : ∃ b, r.ad = some ⟨b, 0, none⟩ ∧ w0.heap.size ≤ b ∧ b < w.heap.size ∧ b ≠ ga
  len : r.xs.length = 4
  ok : allB r.xs 0 15 = true
set_option maxHeartbeats 2000000 in
theorem l12Inputs_dr (g : Nat) (xs : List Int) (ad : Option Addr) (c : Nat) (w : World) (hd : Dr w g xs ad c) :
    Calls Try.prog 107 #[.pointer (some ⟨g, 0, none⟩)] w fun e w' => ∃ (ga ca : Nat) (rs : List Rw), e = .returned (.slice (some ⟨ga, 0, none⟩) 5 ca) ∧ rs.length = 5 ∧ inputsOk (rs.map Rw.xs) = true ∧
      RdR w' (some ⟨ga, 0, none⟩) rs ∧ ga < w'.heap.size ∧ Dr w' g xs ad c ∧ Only g w w' := by
  have hgt := hd.gt
  go_enter Try.func107, Try.ntmps107
  go_wp2_with fail
  go_loopw [3, 4] (fun v i wr => ∃ (k ga ca : Nat) (rs : List Rw), k ≤ 5 ∧ i = .int .i64 k ∧ v = .slice (some ⟨ga, 0, none⟩) k ca ∧ rs.length = k ∧ (∀ r ∈ rs, RowAt w wr ga r) ∧
      Own wr w.heap.size 29 1 (some ⟨ga, 0, none⟩) k ca (rs.map Rw.val) ∧ Dr wr g xs ad c ∧ Only g w wr) (fun _ i _ => 5 - (intOf i).toNat)
  case atStart => exact ⟨0, w.heap.size, 0, [], Nat.zero_le _, rfl, rfl, rfl, (by intro r hr; cases hr), own_new w 29 1, hd.keep fun q hq => (by (repeat (first | with_reducible exact Kp.refl _ _ | (with_reducible refine Kp.rng ?_ (by assumption) ?_) | (with_reducible refine Kp.below ?_ (by assumption)) | (with_reducible refine Kp.grown ?_ (by assumption) ?_) | (with_reducible refine Kp.alloc ?_ _) | (with_reducible refine Kp.drew ?_) | (with_reducible refine Kp.drewN ?_ _) | (with_reducible refine Kp.setCell ?_ _ ?_))) <;> (first | omega | (simp; done) | (simp; omega))), ⟨(by (repeat (first | with_reducible exact Below.refl _ _ | (with_reducible refine bel_next ?_ ?_ (by assumption)) | (with_reducible refine Below.alloc ?_ ?_ _) | (with_reducible refine Below.drew ?_) | (with_reducible refine below_drewN ?_ _) | (with_reducible refine Below.setCell ?_ ?_ _))) <;> (first | omega | (simp; done) | (simp; omega))), fun q hq => Kp.of_lt fun hql => (by (repeat (first | with_reducible exact Kp.refl _ _ | (with_reducible refine Kp.rng ?_ (by assumption) ?_) | (with_reducible refine Kp.below ?_ (by assumption)) | (with_reducible refine Kp.grown ?_ (by assumption) ?_) | (with_reducible refine Kp.alloc ?_ _) | (with_reducible refine Kp.drew ?_) | (with_reducible refine Kp.drewN ?_ _) | (with_reducible refine Kp.setCell ?_ _ ?_))) <;> (first | omega | (simp; done) | (simp; omega)))⟩⟩
  case round =>
    obtain ⟨k, ga, ca, rs, hk, rfl, rfl, hl, hv, hown, hdr, ob0, or0⟩ := hrel
    have z0 := ob0.size
    have ge0 := hown.ge
    have hgt0 := hdr.gt
    have HL := Lib.hid hl
    have HV := Lib.hid hv
    clear hl hv
    by_cases hlt : (k : Int) < 5
    · go_wp2_with fail
      refine (l03List_dr g xs ad c _ hdr).mono ?_
      rintro e w2 ⟨gr, cr, vs, rfl, hvl, hvo, ho2, hd2, ob2, or2⟩
      have z2 := ob2.size
      have ge2 := ho2.ge
      have HVL := Lib.hid hvl
      have HVO := Lib.hid hvo
      have HO2 := Lib.hid ho2
      clear hvl hvo ho2
      go_wp2_with (refine wpList_appm _ rfl el_ints _ _ rfl w.heap.size ga k ca (rs.map Rw.val) [.slice (some ⟨gr, 0, none⟩) 4 cr] (some ⟨w2.heap.size, 0, none⟩) 1 1 (by rfl) (by rfl) (hown.later (by (repeat (first | with_reducible exact Kp.refl _ _ | (with_reducible refine Kp.rng ?_ (by assumption) ?_) | (with_reducible refine Kp.below ?_ (by assumption)) | (with_reducible refine Kp.grown ?_ (by assumption) ?_) | (with_reducible refine Kp.alloc ?_ _) | (with_reducible refine Kp.drew ?_) | (with_reducible refine Kp.drewN ?_ _) | (with_reducible refine Kp.setCell ?_ _ ?_))) <;> (first | omega | (simp; done) | (simp; omega)))) rfl (.inr ⟨w2.heap.size, 0, rfl, fun j hj => by (have : j = 0 := (by simpa using hj)); subst this; go_simp⟩) (by intro u hu; simp at hu; subst hu; rfl) (by intro h; cases h) (by omega) (by omega) (by first | omega | (simp; done) | (simp; omega)) ?_; intro g3 c3 w3 ho3 hb3 hg3 hat3; (try simp at hat3); have z3 := hb3.size; (try simp at z3); have y3 := hg3.size; (try simp at y3); have ge3 := ho3.ge)
      have HROWS : Hid (∀ r ∈ rs ++ [⟨some ⟨gr, 0, none⟩, cr, vs⟩], RowAt w w3 g3 r) := by
        intro r hr
        rcases List.mem_append.1 hr with hr | hr
        · obtain ⟨h1, ⟨b, h2, h3, h4, h5⟩, h6, h7⟩ := HV.out r hr
          refine ⟨h1.keep fun b' off e => ?_, ⟨b, h2, h3, by omega, by omega⟩, h6, h7⟩
          rw [h2] at e
          obtain rfl : b = b' := by simpa using congrArg Addr.block (Option.some.inj e)
          exact (by (repeat (first | with_reducible exact Kp.refl _ _ | (with_reducible refine Kp.rng ?_ (by assumption) ?_) | (with_reducible refine Kp.below ?_ (by assumption)) | (with_reducible refine Kp.grown ?_ (by assumption) ?_) | (with_reducible refine Kp.alloc ?_ _) | (with_reducible refine Kp.drew ?_) | (with_reducible refine Kp.drewN ?_ _) | (with_reducible refine Kp.setCell ?_ _ ?_))) <;> (first | omega | (simp; done) | (simp; omega)))
        · simp at hr; subst hr
          exact ⟨(HO2.out.later (by (repeat (first | with_reducible exact Kp.refl _ _ | (with_reducible refine Kp.rng ?_ (by assumption) ?_) | (with_reducible refine Kp.below ?_ (by assumption)) | (with_reducible refine Kp.grown ?_ (by assumption) ?_) | (with_reducible refine Kp.alloc ?_ _) | (with_reducible refine Kp.drew ?_) | (with_reducible refine Kp.drewN ?_ _) | (with_reducible refine Kp.setCell ?_ _ ?_))) <;> (first | omega | (simp; done) | (simp; omega)))).rd, ⟨gr, rfl, by omega, by omega, by omega⟩, HVL.out, HVO.out⟩
      go_wp2_with fail
      go_roundw
      case rel => exact ⟨k + 1, g3, c3, rs ++ [⟨some ⟨gr, 0, none⟩, cr, vs⟩], by omega, by go_num, rfl, by simp [HL.out], HROWS.out, (by have := ho3; simpa [Rw.val, HVL.out] using this), hd2.keep fun q hq => (by (repeat (first | with_reducible exact Kp.refl _ _ | (with_reducible refine Kp.rng ?_ (by assumption) ?_) | (with_reducible refine Kp.below ?_ (by assumption)) | (with_reducible refine Kp.grown ?_ (by assumption) ?_) | (with_reducible refine Kp.alloc ?_ _) | (with_reducible refine Kp.drew ?_) | (with_reducible refine Kp.drewN ?_ _) | (with_reducible refine Kp.setCell ?_ _ ?_))) <;> (first | omega | (simp; done) | (simp; omega))), ⟨(by (repeat (first | with_reducible exact Below.refl _ _ | (with_reducible refine bel_next ?_ ?_ (by assumption)) | (with_reducible refine Below.alloc ?_ ?_ _) | (with_reducible refine Below.drew ?_) | (with_reducible refine below_drewN ?_ _) | (with_reducible refine Below.setCell ?_ ?_ _))) <;> (first | omega | (simp; done) | (simp; omega))), fun q hq => Kp.of_lt fun hql => (by (repeat (first | with_reducible exact Kp.refl _ _ | (with_reducible refine Kp.rng ?_ (by assumption) ?_) | (with_reducible refine Kp.below ?_ (by assumption)) | (with_reducible refine Kp.grown ?_ (by assumption) ?_) | (with_reducible refine Kp.alloc ?_ _) | (with_reducible refine Kp.drew ?_) | (with_reducible refine Kp.drewN ?_ _) | (with_reducible refine Kp.setCell ?_ _ ?_))) <;> (first | omega | (simp; done) | (simp; omega)))⟩⟩
      case measure => simp [intOf]; omega
    · obtain rfl : k = 5 := by omega
      have H := Lib.hid (And.intro hown (And.intro hdr (show Only g w wr from ⟨ob0, or0⟩)))
      clear hown hdr ob0 or0
      go_wp2_with fail
      go_ret
      refine ⟨ga, ⟨ca, rfl⟩, rs, HL.out, ?_, ⟨H.out.1.rd, fun r hr => (HV.out r hr).rd⟩, ge0.2, H.out.2.1, H.out.2.2⟩
      simp only [inputsOk, rowsOk, Bool.and_eq_true, List.all_eq_true, List.mem_map]
      refine ⟨?_, by simp [HL.out]⟩
      rintro _ ⟨r, hr, rfl⟩
      have := HV.out r hr
      simp [rowOk, this.len, this.ok]
set_option maxHeartbeats 1000000 in
theorem DrawRun_any (xs : List Int) (ad : Option Addr) (c : Nat) (w : World) (hm : xs.length ≤ 1048576) (hr : RdC w ad (xs.map (Value.int .u8))) (hb : ∀ x ∈ xs, 0 ≤ x ∧ x ≤ 255) :
    Calls Try.prog 73 #[.slice ad xs.length c] w fun e w' => ∃ (gp cp ga ca : Nat) (l : List St) (rs : List Rw), e = .returned (.tuple #[.slice (some ⟨gp, 0, none⟩) l.length cp, .slice (some ⟨ga, 0, none⟩) 5 ca]) ∧ DProg l ∧
      Own w' w.heap.size 38 6 (some ⟨gp, 0, none⟩) l.length cp (stCells l) ∧ rs.length = 5 ∧ inputsOk (rs.map Rw.xs) = true ∧ RdR w' (some ⟨ga, 0, none⟩) rs ∧ Below w.heap.size w w' := by
  go_enter Try.func73, Try.ntmps73
  go_wp2_with fail
  refine (l01New_any xs ad c w hm hr hb).mono ?_
  rintro e w1 ⟨g, rfl, hgl, hd1, hb1⟩
  have z1 := hb1.size
  have hg1 := hd1.gt
  go_wp2_with fail
  refine (l08Case_dr g xs ad c _ hd1).mono ?_
  rintro e w2 ⟨gp, cp, l, rfl, hp, ho, hd2, ob2, or2⟩
  have z2 := ob2.size
  have ge2 := ho.ge
  go_wp2_with fail
  refine (l12Inputs_dr g xs ad c _ hd2).mono ?_
  rintro e w3 ⟨ga, ca, rs, rfl, hl5, hin, hrd, _, hd3, ob3, or3⟩
  have z3 := ob3.size
  go_wp2_with fail
  go_ret2
  exact ⟨gp, cp, ga, ca, l, rs, rfl, hp, (ho.lo (by omega)).later (by (repeat (first | with_reducible exact Kp.refl _ _ | (with_reducible refine Kp.rng ?_ (by assumption) ?_) | (with_reducible refine Kp.below ?_ (by assumption)) | (with_reducible refine Kp.grown ?_ (by assumption) ?_) | (with_reducible refine Kp.alloc ?_ _) | (with_reducible refine Kp.drew ?_) | (with_reducible refine Kp.drewN ?_ _) | (with_reducible refine Kp.setCell ?_ _ ?_))) <;> (first | omega | (simp; done) | (simp; omega))), hl5, hin, hrd, (by (repeat (first | with_reducible exact Below.refl _ _ | (with_reducible refine bel_next ?_ ?_ (by assumption)) | (with_reducible refine Below.alloc ?_ ?_ _) | (with_reducible refine Below.drew ?_) | (with_reducible refine below_drewN ?_ _) | (with_reducible refine Below.setCell ?_ ?_ _))) <;> (first | omega | (simp; done) | (simp; omega)))⟩

end Go.Proofs.Ytfeffofoofmgcaa
