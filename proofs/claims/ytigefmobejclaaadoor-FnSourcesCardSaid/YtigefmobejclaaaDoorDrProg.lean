/- A drawn program. -/
import Derived.Test.YtigefmobejclaaaDoorDrStmt
import Derived.Test.YtigefmobejclaaaDoorUnroll
namespace Go.Proofs.YtigefmobejclaaaDoor
open Go.RowKit
set_option linter.unusedVariables false
set_option linter.unusedSimpArgs false

theorem Ur.append {b : Nat} {xs us : List St} (h : Ur b xs us) : ∀ {ys vs : List St}, Ur b ys vs → Ur b (xs ++ ys) (us ++ vs) := by
  induction h with
  | nil b => intro ys vs h; simpa using h
  | plain b s r u h1 h2 h3 h4 ih => intro ys vs h; exact .plain _ s _ _ h1 h2 h3 (ih h)
  | loop b l e body r v u h1 h2 h3 h4 h5 h6 ih5 ih6 =>
    intro ys vs h
    have := Ur.loop b l e body (r ++ ys) v (u ++ vs) h1 h2 h3 h4 h5 (ih6 h)
    simpa [List.append_assoc] using this
theorem Ur.one {b : Nat} {s : St} (h : plain1 s) : Ur b [s] [s] := .plain b s [] [] h.1 h.2.1 h.2.2 (.nil b)
theorem Ur.oneLoop {b : Nat} {n : Int} {body v : List St} (h0 : 1 ≤ n) (h8 : n ≤ 8) (h : Ur b body v) : Ur (b + 1) ([⟨12, 0, 0, 0, 0, n⟩] ++ body ++ [⟨13, 0, 0, 0, 0, 0⟩]) (repS n v) := by
  have := Ur.loop b ⟨12, 0, 0, 0, 0, n⟩ ⟨13, 0, 0, 0, 0, 0⟩ body [] v [] (by simp [stOk, inB]; omega) (by simp [stOk, inB]) rfl rfl h (.nil _)
  simpa using this
theorem RdC.six {w : World} {b : Nat} {s : St} (h0 : w.cell? ⟨b, 0, none⟩ = some (.int .i64 s.op)) (h1 : w.cell? ⟨b, 1, none⟩ = some (.int .i64 s.dst)) (h2 : w.cell? ⟨b, 2, none⟩ = some (.int .i64 s.a)) (h3 : w.cell? ⟨b, 3, none⟩ = some (.int .i64 s.b))
    (h4 : w.cell? ⟨b, 4, none⟩ = some (.int .i64 s.c)) (h5 : w.cell? ⟨b, 5, none⟩ = some (.int .i64 s.n)) : RdC w (some ⟨b, 0, none⟩) (stCells [s]) := by
  refine .inr ⟨b, 0, rfl, fun j hj => ?_⟩
  have : j < 6 := by simpa [stCells, St.cells] using hj
  match j, this with
  | 0, _ => exact h0
  | 1, _ => exact h1
  | 2, _ => exact h2
  | 3, _ => exact h3
  | 4, _ => exact h4
  | 5, _ => exact h5

set_option maxRecDepth 20000 in
set_option maxHeartbeats 8000000 in
theorem block_dr0 (g : Nat) (xs : List Int) (ad : Option Addr) (c : Nat) (n : Int) (w : World) (hd : Dr w g xs ad c) (hn0 : 0 ≤ n) (hn : n ≤ 2) :
    Calls Tryd.prog 57 #[.pointer (some ⟨g, 0, none⟩), .int .i64 n, .int .i64 2] w fun e w' => ∃ (gb cb : Nat) (blk : List St), e = .returned (.slice (some ⟨gb, 0, none⟩) blk.length cb) ∧ (∃ us, Ur 0 blk us) ∧ (blk.length : Int) ≤ n ∧
      Own w' w.heap.size 26 6 (some ⟨gb, 0, none⟩) blk.length cb (stCells blk) ∧ Dr w' g xs ad c ∧ Only g w w' := by
  have hgt := hd.gt
  go_enter Tryd.func57, Tryd.ntmps57
  go_wp2_with fail
  go_loopw [7, 8] (fun o i wr => ∃ (k gb cb : Nat) (blk us : List St), (k : Int) ≤ n ∧ i = .int .i64 k ∧ o = .slice (some ⟨gb, 0, none⟩) blk.length cb ∧ Ur 0 blk us ∧ blk.length ≤ k ∧
      Own wr w.heap.size 26 6 (some ⟨gb, 0, none⟩) blk.length cb (stCells blk) ∧ Dr wr g xs ad c ∧ Only g w wr) (fun _ i _ => n.toNat - (intOf i).toNat)
  case atStart =>
    refine ⟨0, w.heap.size, 0, [], [], by omega, rfl, rfl, .nil _, by simp, ?_, hd.keep fun q hq => (by (repeat (first | with_reducible exact Kp.refl _ _ | (with_reducible refine Kp.rng ?_ (by assumption) ?_) | (with_reducible refine Kp.below ?_ (by assumption)) | (with_reducible refine Kp.grown ?_ (by assumption) ?_) | (with_reducible refine Kp.alloc ?_ _) | (with_reducible refine Kp.drew ?_) | (with_reducible refine Kp.drewN ?_ _) | (with_reducible refine Kp.setCell ?_ _ ?_))) <;> (first | omega | (simp; done) | (simp; omega))), ⟨(by (repeat (first | with_reducible exact Below.refl _ _ | (with_reducible refine bel_next ?_ ?_ (by assumption)) | (with_reducible refine Below.alloc ?_ ?_ _) | (with_reducible refine Below.drew ?_) | (with_reducible refine below_drewN ?_ _) | (with_reducible refine Below.setCell ?_ ?_ _))) <;> (first | omega | (simp; done) | (simp; omega))), fun q hq => Kp.of_lt fun hql => (by (repeat (first | with_reducible exact Kp.refl _ _ | (with_reducible refine Kp.rng ?_ (by assumption) ?_) | (with_reducible refine Kp.below ?_ (by assumption)) | (with_reducible refine Kp.grown ?_ (by assumption) ?_) | (with_reducible refine Kp.alloc ?_ _) | (with_reducible refine Kp.drew ?_) | (with_reducible refine Kp.drewN ?_ _) | (with_reducible refine Kp.setCell ?_ _ ?_))) <;> (first | omega | (simp; done) | (simp; omega)))⟩⟩
    exact own_new w 26 6
  case round =>
    obtain ⟨k, gb, cb, blk, us, hk, rfl, rfl, hur, hbl, hown, hdr, ob0, or0⟩ := hrel
    have z0 := ob0.size
    have ge0 := hown.ge
    have HU := Lib.hid hur
    have HBL := Lib.hid hbl
    have hbl100 : blk.length ≤ 100 := by omega
    have hgt0 := hdr.gt
    clear hur hbl
    by_cases hlt : (k : Int) < n
    ·
      go_wp2_with fail
      refine (l08Stmt_dr g xs ad c _ ((hdr).keep fun q hq => (by (repeat (first | with_reducible exact Kp.refl _ _ | (with_reducible refine Kp.rng ?_ (by assumption) ?_) | (with_reducible refine Kp.below ?_ (by assumption)) | (with_reducible refine Kp.grown ?_ (by assumption) ?_) | (with_reducible refine Kp.alloc ?_ _) | (with_reducible refine Kp.drew ?_) | (with_reducible refine Kp.drewN ?_ _) | (with_reducible refine Kp.setCell ?_ _ ?_))) <;> (first | omega | (simp; done) | (simp; omega))))).mono ?_
      rintro e w1 ⟨s, rfl, hpl, hd1, ob1, or1⟩
      have z1 := ob1.size
      (try simp at z1)
      obtain ⟨op, dst, sa, sb, sc, sn⟩ := s
      unfold stV
      have HPL := Lib.hid hpl
      clear hpl
      go_wp2_with (refine wpList_appSt _ rfl _ _ rfl w.heap.size blk.length cb gb w1.heap.size 0 1 1 blk [⟨op, dst, sa, sb, sc, sn⟩] (by rfl) (by rfl) ((hown).later (by (repeat (first | with_reducible exact Kp.refl _ _ | (with_reducible refine Kp.rng ?_ (by assumption) ?_) | (with_reducible refine Kp.below ?_ (by assumption)) | (with_reducible refine Kp.grown ?_ (by assumption) ?_) | (with_reducible refine Kp.alloc ?_ _) | (with_reducible refine Kp.drew ?_) | (with_reducible refine Kp.drewN ?_ _) | (with_reducible refine Kp.setCell ?_ _ ?_))) <;> (first | omega | (simp; done) | (simp; omega)))) (RdC.six (by go_simp) (by go_simp) (by go_simp) (by go_simp) (by go_simp) (by go_simp)) rfl (by omega) (by first | omega | (simp; done) | (simp; omega)) ?_; intro gn2 cn2 w2 hn2 hb2 hg2 hat2; (try simp at hat2); have z2 := hb2.size; (try simp at z2); have y2 := hg2.size; (try simp at y2); have ge2 := hn2.ge)
      have HE : Hid (((blk ++ [⟨op, dst, sa, sb, sc, sn⟩]) : List St).length = blk.length + 1) := by show _ = _; simp <;> omega
      go_wp2_with fail
      go_roundw
      case rel => exact ⟨k + 1, gn2, cn2, (blk ++ [⟨op, dst, sa, sb, sc, sn⟩]), _, by omega, by go_num, by rw [HE.out], HU.out.append (Ur.one HPL.out), by (rw [HE.out]; have := HBL.out; omega), by rw [HE.out]; exact hn2, ((hd1).keep fun q hq => (by (repeat (first | with_reducible exact Kp.refl _ _ | (with_reducible refine Kp.rng ?_ (by assumption) ?_) | (with_reducible refine Kp.below ?_ (by assumption)) | (with_reducible refine Kp.grown ?_ (by assumption) ?_) | (with_reducible refine Kp.alloc ?_ _) | (with_reducible refine Kp.drew ?_) | (with_reducible refine Kp.drewN ?_ _) | (with_reducible refine Kp.setCell ?_ _ ?_))) <;> (first | omega | (simp; done) | (simp; omega)))), ⟨(by (repeat (first | with_reducible exact Below.refl _ _ | (with_reducible refine bel_next ?_ ?_ (by assumption)) | (with_reducible refine Below.alloc ?_ ?_ _) | (with_reducible refine Below.drew ?_) | (with_reducible refine below_drewN ?_ _) | (with_reducible refine Below.setCell ?_ ?_ _))) <;> (first | omega | (simp; done) | (simp; omega))), fun q hq => Kp.of_lt fun hql => (by (repeat (first | with_reducible exact Kp.refl _ _ | (with_reducible refine Kp.rng ?_ (by assumption) ?_) | (with_reducible refine Kp.below ?_ (by assumption)) | (with_reducible refine Kp.grown ?_ (by assumption) ?_) | (with_reducible refine Kp.alloc ?_ _) | (with_reducible refine Kp.drew ?_) | (with_reducible refine Kp.drewN ?_ _) | (with_reducible refine Kp.setCell ?_ _ ?_))) <;> (first | omega | (simp; done) | (simp; omega)))⟩⟩
      case measure => simp [intOf]; omega
    · go_wp2_with fail
      go_ret
      exact ⟨gb, cb, blk, rfl, ⟨us, HU.out⟩, (by have := HBL.out; omega), hown, hdr, ob0, or0⟩
set_option maxRecDepth 20000 in
set_option maxHeartbeats 8000000 in
theorem block_dr1 (g : Nat) (xs : List Int) (ad : Option Addr) (c : Nat) (n : Int) (w : World) (hd : Dr w g xs ad c) (hn0 : 0 ≤ n) (hn : n ≤ 2) :
    Calls Tryd.prog 57 #[.pointer (some ⟨g, 0, none⟩), .int .i64 n, .int .i64 1] w fun e w' => ∃ (gb cb : Nat) (blk : List St), e = .returned (.slice (some ⟨gb, 0, none⟩) blk.length cb) ∧ (∃ us, Ur 1 blk us) ∧ (blk.length : Int) ≤ 4 * n ∧
      Own w' w.heap.size 26 6 (some ⟨gb, 0, none⟩) blk.length cb (stCells blk) ∧ Dr w' g xs ad c ∧ Only g w w' := by
  have hgt := hd.gt
  go_enter Tryd.func57, Tryd.ntmps57
  go_wp2_with fail
  go_loopw [7, 8] (fun o i wr => ∃ (k gb cb : Nat) (blk us : List St), (k : Int) ≤ n ∧ i = .int .i64 k ∧ o = .slice (some ⟨gb, 0, none⟩) blk.length cb ∧ Ur 1 blk us ∧ blk.length ≤ 4 * k ∧
      Own wr w.heap.size 26 6 (some ⟨gb, 0, none⟩) blk.length cb (stCells blk) ∧ Dr wr g xs ad c ∧ Only g w wr) (fun _ i _ => n.toNat - (intOf i).toNat)
  case atStart =>
    refine ⟨0, w.heap.size, 0, [], [], by omega, rfl, rfl, .nil _, by simp, ?_, hd.keep fun q hq => (by (repeat (first | with_reducible exact Kp.refl _ _ | (with_reducible refine Kp.rng ?_ (by assumption) ?_) | (with_reducible refine Kp.below ?_ (by assumption)) | (with_reducible refine Kp.grown ?_ (by assumption) ?_) | (with_reducible refine Kp.alloc ?_ _) | (with_reducible refine Kp.drew ?_) | (with_reducible refine Kp.drewN ?_ _) | (with_reducible refine Kp.setCell ?_ _ ?_))) <;> (first | omega | (simp; done) | (simp; omega))), ⟨(by (repeat (first | with_reducible exact Below.refl _ _ | (with_reducible refine bel_next ?_ ?_ (by assumption)) | (with_reducible refine Below.alloc ?_ ?_ _) | (with_reducible refine Below.drew ?_) | (with_reducible refine below_drewN ?_ _) | (with_reducible refine Below.setCell ?_ ?_ _))) <;> (first | omega | (simp; done) | (simp; omega))), fun q hq => Kp.of_lt fun hql => (by (repeat (first | with_reducible exact Kp.refl _ _ | (with_reducible refine Kp.rng ?_ (by assumption) ?_) | (with_reducible refine Kp.below ?_ (by assumption)) | (with_reducible refine Kp.grown ?_ (by assumption) ?_) | (with_reducible refine Kp.alloc ?_ _) | (with_reducible refine Kp.drew ?_) | (with_reducible refine Kp.drewN ?_ _) | (with_reducible refine Kp.setCell ?_ _ ?_))) <;> (first | omega | (simp; done) | (simp; omega)))⟩⟩
    exact own_new w 26 6
  case round =>
    obtain ⟨k, gb, cb, blk, us, hk, rfl, rfl, hur, hbl, hown, hdr, ob0, or0⟩ := hrel
    have z0 := ob0.size
    have ge0 := hown.ge
    have HU := Lib.hid hur
    have HBL := Lib.hid hbl
    have hbl100 : blk.length ≤ 100 := by omega
    have hgt0 := hdr.gt
    clear hur hbl
    by_cases hlt : (k : Int) < n
    ·
      by_cases h12 : (blk.length : Int) < 12
      ·
        go_wp2_with fail
        refine (once_dr g xs ad c 8 _ ((hdr).keep fun q hq => (by (repeat (first | with_reducible exact Kp.refl _ _ | (with_reducible refine Kp.rng ?_ (by assumption) ?_) | (with_reducible refine Kp.below ?_ (by assumption)) | (with_reducible refine Kp.grown ?_ (by assumption) ?_) | (with_reducible refine Kp.alloc ?_ _) | (with_reducible refine Kp.drew ?_) | (with_reducible refine Kp.drewN ?_ _) | (with_reducible refine Kp.setCell ?_ _ ?_))) <;> (first | omega | (simp; done) | (simp; omega))))).mono ?_
        rintro e w1 ⟨b, rfl, hd1, ob1, or1⟩
        have z1 := ob1.size
        (try simp at z1)
        cases b
        ·
          go_wp2_with fail
          refine (l08Stmt_dr g xs ad c _ ((hd1).keep fun q hq => (by (repeat (first | with_reducible exact Kp.refl _ _ | (with_reducible refine Kp.rng ?_ (by assumption) ?_) | (with_reducible refine Kp.below ?_ (by assumption)) | (with_reducible refine Kp.grown ?_ (by assumption) ?_) | (with_reducible refine Kp.alloc ?_ _) | (with_reducible refine Kp.drew ?_) | (with_reducible refine Kp.drewN ?_ _) | (with_reducible refine Kp.setCell ?_ _ ?_))) <;> (first | omega | (simp; done) | (simp; omega))))).mono ?_
          rintro e w2 ⟨s, rfl, hpl, hd2, ob2, or2⟩
          have z2 := ob2.size
          (try simp at z2)
          obtain ⟨op, dst, sa, sb, sc, sn⟩ := s
          unfold stV
          have HPL := Lib.hid hpl
          clear hpl
          go_wp2_with (refine wpList_appSt _ rfl _ _ rfl w.heap.size blk.length cb gb w2.heap.size 0 1 1 blk [⟨op, dst, sa, sb, sc, sn⟩] (by rfl) (by rfl) ((hown).later (by (repeat (first | with_reducible exact Kp.refl _ _ | (with_reducible refine Kp.rng ?_ (by assumption) ?_) | (with_reducible refine Kp.below ?_ (by assumption)) | (with_reducible refine Kp.grown ?_ (by assumption) ?_) | (with_reducible refine Kp.alloc ?_ _) | (with_reducible refine Kp.drew ?_) | (with_reducible refine Kp.drewN ?_ _) | (with_reducible refine Kp.setCell ?_ _ ?_))) <;> (first | omega | (simp; done) | (simp; omega)))) (RdC.six (by go_simp) (by go_simp) (by go_simp) (by go_simp) (by go_simp) (by go_simp)) rfl (by omega) (by first | omega | (simp; done) | (simp; omega)) ?_; intro gn3 cn3 w3 hn3 hb3 hg3 hat3; (try simp at hat3); have z3 := hb3.size; (try simp at z3); have y3 := hg3.size; (try simp at y3); have ge3 := hn3.ge)
          have HE : Hid (((blk ++ [⟨op, dst, sa, sb, sc, sn⟩]) : List St).length = blk.length + 1) := by show _ = _; simp <;> omega
          go_wp2_with fail
          go_roundw
          case rel => exact ⟨k + 1, gn3, cn3, (blk ++ [⟨op, dst, sa, sb, sc, sn⟩]), _, by omega, by go_num, by rw [HE.out], HU.out.append (Ur.one HPL.out), by (rw [HE.out]; have := HBL.out; omega), by rw [HE.out]; exact hn3, ((hd2).keep fun q hq => (by (repeat (first | with_reducible exact Kp.refl _ _ | (with_reducible refine Kp.rng ?_ (by assumption) ?_) | (with_reducible refine Kp.below ?_ (by assumption)) | (with_reducible refine Kp.grown ?_ (by assumption) ?_) | (with_reducible refine Kp.alloc ?_ _) | (with_reducible refine Kp.drew ?_) | (with_reducible refine Kp.drewN ?_ _) | (with_reducible refine Kp.setCell ?_ _ ?_))) <;> (first | omega | (simp; done) | (simp; omega)))), ⟨(by (repeat (first | with_reducible exact Below.refl _ _ | (with_reducible refine bel_next ?_ ?_ (by assumption)) | (with_reducible refine Below.alloc ?_ ?_ _) | (with_reducible refine Below.drew ?_) | (with_reducible refine below_drewN ?_ _) | (with_reducible refine Below.setCell ?_ ?_ _))) <;> (first | omega | (simp; done) | (simp; omega))), fun q hq => Kp.of_lt fun hql => (by (repeat (first | with_reducible exact Kp.refl _ _ | (with_reducible refine Kp.rng ?_ (by assumption) ?_) | (with_reducible refine Kp.below ?_ (by assumption)) | (with_reducible refine Kp.grown ?_ (by assumption) ?_) | (with_reducible refine Kp.alloc ?_ _) | (with_reducible refine Kp.drew ?_) | (with_reducible refine Kp.drewN ?_ _) | (with_reducible refine Kp.setCell ?_ _ ?_))) <;> (first | omega | (simp; done) | (simp; omega)))⟩⟩
          case measure => simp [intOf]; omega
        ·
          go_wp2_with fail
          refine (below_dr g xs ad c 3 _ ((hd1).keep fun q hq => (by (repeat (first | with_reducible exact Kp.refl _ _ | (with_reducible refine Kp.rng ?_ (by assumption) ?_) | (with_reducible refine Kp.below ?_ (by assumption)) | (with_reducible refine Kp.grown ?_ (by assumption) ?_) | (with_reducible refine Kp.alloc ?_ _) | (with_reducible refine Kp.drew ?_) | (with_reducible refine Kp.drewN ?_ _) | (with_reducible refine Kp.setCell ?_ _ ?_))) <;> (first | omega | (simp; done) | (simp; omega))))).mono ?_
          rintro e w2 ⟨vn, rfl, vn0, vn1, _, hd2, ob2, or2⟩
          have vn1 := vn1 (by omega)
          have z2 := ob2.size
          (try simp at z2)
          go_wp2_with (refine wpList_appSt _ rfl _ _ rfl w.heap.size blk.length cb gb w2.heap.size 0 1 1 blk [⟨12, 0, 0, 0, 0, 1 + vn⟩] (by rfl) (by rfl) ((hown).later (by (repeat (first | with_reducible exact Kp.refl _ _ | (with_reducible refine Kp.rng ?_ (by assumption) ?_) | (with_reducible refine Kp.below ?_ (by assumption)) | (with_reducible refine Kp.grown ?_ (by assumption) ?_) | (with_reducible refine Kp.alloc ?_ _) | (with_reducible refine Kp.drew ?_) | (with_reducible refine Kp.drewN ?_ _) | (with_reducible refine Kp.setCell ?_ _ ?_))) <;> (first | omega | (simp; done) | (simp; omega)))) (RdC.six (by go_simp) (by go_simp) (by go_simp) (by go_simp) (by go_simp) (by go_simp)) rfl (by omega) (by first | omega | (simp; done) | (simp; omega)) ?_; intro gn3 cn3 w3 hn3 hb3 hg3 hat3; (try simp at hat3); have z3 := hb3.size; (try simp at z3); have y3 := hg3.size; (try simp at y3); have ge3 := hn3.ge)
          go_wp2_with fail
          refine (below_dr g xs ad c 2 _ ((hd2).keep fun q hq => (by (repeat (first | with_reducible exact Kp.refl _ _ | (with_reducible refine Kp.rng ?_ (by assumption) ?_) | (with_reducible refine Kp.below ?_ (by assumption)) | (with_reducible refine Kp.grown ?_ (by assumption) ?_) | (with_reducible refine Kp.alloc ?_ _) | (with_reducible refine Kp.drew ?_) | (with_reducible refine Kp.drewN ?_ _) | (with_reducible refine Kp.setCell ?_ _ ?_))) <;> (first | omega | (simp; done) | (simp; omega))))).mono ?_
          rintro e w4 ⟨vm, rfl, vm0, vm1, _, hd4, ob4, or4⟩
          have vm1 := vm1 (by omega)
          have z4 := ob4.size
          (try simp at z4)
          go_wp2_with fail
          refine (block_dr0 g xs ad c (1 + vm) _ ((hd4).keep fun q hq => (by (repeat (first | with_reducible exact Kp.refl _ _ | (with_reducible refine Kp.rng ?_ (by assumption) ?_) | (with_reducible refine Kp.below ?_ (by assumption)) | (with_reducible refine Kp.grown ?_ (by assumption) ?_) | (with_reducible refine Kp.alloc ?_ _) | (with_reducible refine Kp.drew ?_) | (with_reducible refine Kp.drewN ?_ _) | (with_reducible refine Kp.setCell ?_ _ ?_))) <;> (first | omega | (simp; done) | (simp; omega)))) (by omega) (by omega)).mono ?_
          rintro e w5 ⟨gi, ci, bi, rfl, ⟨ui, huri⟩, hbi, howni, hd5, ob5, or5⟩
          have z5 := ob5.size
          (try simp at z5)
          have gei := howni.ge
          (try simp at gei)
          have HUI := Lib.hid huri
          clear huri
          have HX : True := trivial
          go_wp2_with (first | (refine wpList_appSt _ rfl _ _ rfl w.heap.size (blk.length + 1) cn3 gn3 gi 0 bi.length ci (blk ++ [⟨12, 0, 0, 0, 0, 1 + vn⟩]) bi (by rfl) (by rfl) ((hn3).later (by (repeat (first | with_reducible exact Kp.refl _ _ | (with_reducible refine Kp.rng ?_ (by assumption) ?_) | (with_reducible refine Kp.below ?_ (by assumption)) | (with_reducible refine Kp.grown ?_ (by assumption) ?_) | (with_reducible refine Kp.alloc ?_ _) | (with_reducible refine Kp.drew ?_) | (with_reducible refine Kp.drewN ?_ _) | (with_reducible refine Kp.setCell ?_ _ ?_))) <;> (first | omega | (simp; done) | (simp; omega)))) (howni.later (by (repeat (first | with_reducible exact Kp.refl _ _ | (with_reducible refine Kp.rng ?_ (by assumption) ?_) | (with_reducible refine Kp.below ?_ (by assumption)) | (with_reducible refine Kp.grown ?_ (by assumption) ?_) | (with_reducible refine Kp.alloc ?_ _) | (with_reducible refine Kp.drew ?_) | (with_reducible refine Kp.drewN ?_ _) | (with_reducible refine Kp.setCell ?_ _ ?_))) <;> (first | omega | (simp; done) | (simp; omega)))).rd rfl (by omega) (by first | omega | (simp; done) | (simp; omega)) ?_; intro gn6 cn6 w6 hn6 hb6 hg6 hat6; (try simp at hat6); have z6 := hb6.size; (try simp at z6); have y6 := hg6.size; (try simp at y6); have ge6 := hn6.ge) | (refine wpList_appSt _ rfl _ _ rfl w.heap.size (blk.length + 1 + bi.length) cn6 gn6 w6.heap.size 0 1 1 ((blk ++ [⟨12, 0, 0, 0, 0, 1 + vn⟩]) ++ bi) [⟨13, 0, 0, 0, 0, 0⟩] (by rfl) (by rfl) ((hn6).later (by (repeat (first | with_reducible exact Kp.refl _ _ | (with_reducible refine Kp.rng ?_ (by assumption) ?_) | (with_reducible refine Kp.below ?_ (by assumption)) | (with_reducible refine Kp.grown ?_ (by assumption) ?_) | (with_reducible refine Kp.alloc ?_ _) | (with_reducible refine Kp.drew ?_) | (with_reducible refine Kp.drewN ?_ _) | (with_reducible refine Kp.setCell ?_ _ ?_))) <;> (first | omega | (simp; done) | (simp; omega)))) (RdC.six (by go_simp) (by go_simp) (by go_simp) (by go_simp) (by go_simp) (by go_simp)) rfl (by omega) (by first | omega | (simp; done) | (simp; omega)) ?_; intro gn7 cn7 w7 hn7 hb7 hg7 hat7; (try simp at hat7); have z7 := hb7.size; (try simp at z7); have y7 := hg7.size; (try simp at y7); have ge7 := hn7.ge))
          have HE : Hid (((((blk ++ [⟨12, 0, 0, 0, 0, 1 + vn⟩]) ++ bi) ++ [⟨13, 0, 0, 0, 0, 0⟩]) : List St).length = blk.length + 1 + bi.length + 1) := by show _ = _; simp <;> omega
          go_wp2_with fail
          go_roundw
          case rel => exact ⟨k + 1, gn7, cn7, (((blk ++ [⟨12, 0, 0, 0, 0, 1 + vn⟩]) ++ bi) ++ [⟨13, 0, 0, 0, 0, 0⟩]), _, by omega, by go_num, by rw [HE.out], (by have := HU.out.append (Ur.oneLoop (n := 1 + vn) (by omega) (by omega) HUI.out); simpa [List.append_assoc] using this), by (rw [HE.out]; have := HBL.out; omega), by rw [HE.out]; exact hn7, ((hd5).keep fun q hq => (by (repeat (first | with_reducible exact Kp.refl _ _ | (with_reducible refine Kp.rng ?_ (by assumption) ?_) | (with_reducible refine Kp.below ?_ (by assumption)) | (with_reducible refine Kp.grown ?_ (by assumption) ?_) | (with_reducible refine Kp.alloc ?_ _) | (with_reducible refine Kp.drew ?_) | (with_reducible refine Kp.drewN ?_ _) | (with_reducible refine Kp.setCell ?_ _ ?_))) <;> (first | omega | (simp; done) | (simp; omega)))), ⟨(by (repeat (first | with_reducible exact Below.refl _ _ | (with_reducible refine bel_next ?_ ?_ (by assumption)) | (with_reducible refine Below.alloc ?_ ?_ _) | (with_reducible refine Below.drew ?_) | (with_reducible refine below_drewN ?_ _) | (with_reducible refine Below.setCell ?_ ?_ _))) <;> (first | omega | (simp; done) | (simp; omega))), fun q hq => Kp.of_lt fun hql => (by (repeat (first | with_reducible exact Kp.refl _ _ | (with_reducible refine Kp.rng ?_ (by assumption) ?_) | (with_reducible refine Kp.below ?_ (by assumption)) | (with_reducible refine Kp.grown ?_ (by assumption) ?_) | (with_reducible refine Kp.alloc ?_ _) | (with_reducible refine Kp.drew ?_) | (with_reducible refine Kp.drewN ?_ _) | (with_reducible refine Kp.setCell ?_ _ ?_))) <;> (first | omega | (simp; done) | (simp; omega)))⟩⟩
          case measure => simp [intOf]; omega
      ·
        go_wp2_with fail
        refine (l08Stmt_dr g xs ad c _ ((hdr).keep fun q hq => (by (repeat (first | with_reducible exact Kp.refl _ _ | (with_reducible refine Kp.rng ?_ (by assumption) ?_) | (with_reducible refine Kp.below ?_ (by assumption)) | (with_reducible refine Kp.grown ?_ (by assumption) ?_) | (with_reducible refine Kp.alloc ?_ _) | (with_reducible refine Kp.drew ?_) | (with_reducible refine Kp.drewN ?_ _) | (with_reducible refine Kp.setCell ?_ _ ?_))) <;> (first | omega | (simp; done) | (simp; omega))))).mono ?_
        rintro e w9 ⟨s, rfl, hpl, hd9, ob9, or9⟩
        have z9 := ob9.size
        (try simp at z9)
        obtain ⟨op, dst, sa, sb, sc, sn⟩ := s
        unfold stV
        have HPL := Lib.hid hpl
        clear hpl
        go_wp2_with (refine wpList_appSt _ rfl _ _ rfl w.heap.size blk.length cb gb w9.heap.size 0 1 1 blk [⟨op, dst, sa, sb, sc, sn⟩] (by rfl) (by rfl) ((hown).later (by (repeat (first | with_reducible exact Kp.refl _ _ | (with_reducible refine Kp.rng ?_ (by assumption) ?_) | (with_reducible refine Kp.below ?_ (by assumption)) | (with_reducible refine Kp.grown ?_ (by assumption) ?_) | (with_reducible refine Kp.alloc ?_ _) | (with_reducible refine Kp.drew ?_) | (with_reducible refine Kp.drewN ?_ _) | (with_reducible refine Kp.setCell ?_ _ ?_))) <;> (first | omega | (simp; done) | (simp; omega)))) (RdC.six (by go_simp) (by go_simp) (by go_simp) (by go_simp) (by go_simp) (by go_simp)) rfl (by omega) (by first | omega | (simp; done) | (simp; omega)) ?_; intro gn10 cn10 w10 hn10 hb10 hg10 hat10; (try simp at hat10); have z10 := hb10.size; (try simp at z10); have y10 := hg10.size; (try simp at y10); have ge10 := hn10.ge)
        have HE : Hid (((blk ++ [⟨op, dst, sa, sb, sc, sn⟩]) : List St).length = blk.length + 1) := by show _ = _; simp <;> omega
        go_wp2_with fail
        go_roundw
        case rel => exact ⟨k + 1, gn10, cn10, (blk ++ [⟨op, dst, sa, sb, sc, sn⟩]), _, by omega, by go_num, by rw [HE.out], HU.out.append (Ur.one HPL.out), by (rw [HE.out]; have := HBL.out; omega), by rw [HE.out]; exact hn10, ((hd9).keep fun q hq => (by (repeat (first | with_reducible exact Kp.refl _ _ | (with_reducible refine Kp.rng ?_ (by assumption) ?_) | (with_reducible refine Kp.below ?_ (by assumption)) | (with_reducible refine Kp.grown ?_ (by assumption) ?_) | (with_reducible refine Kp.alloc ?_ _) | (with_reducible refine Kp.drew ?_) | (with_reducible refine Kp.drewN ?_ _) | (with_reducible refine Kp.setCell ?_ _ ?_))) <;> (first | omega | (simp; done) | (simp; omega)))), ⟨(by (repeat (first | with_reducible exact Below.refl _ _ | (with_reducible refine bel_next ?_ ?_ (by assumption)) | (with_reducible refine Below.alloc ?_ ?_ _) | (with_reducible refine Below.drew ?_) | (with_reducible refine below_drewN ?_ _) | (with_reducible refine Below.setCell ?_ ?_ _))) <;> (first | omega | (simp; done) | (simp; omega))), fun q hq => Kp.of_lt fun hql => (by (repeat (first | with_reducible exact Kp.refl _ _ | (with_reducible refine Kp.rng ?_ (by assumption) ?_) | (with_reducible refine Kp.below ?_ (by assumption)) | (with_reducible refine Kp.grown ?_ (by assumption) ?_) | (with_reducible refine Kp.alloc ?_ _) | (with_reducible refine Kp.drew ?_) | (with_reducible refine Kp.drewN ?_ _) | (with_reducible refine Kp.setCell ?_ _ ?_))) <;> (first | omega | (simp; done) | (simp; omega)))⟩⟩
        case measure => simp [intOf]; omega
    · go_wp2_with fail
      go_ret
      exact ⟨gb, cb, blk, rfl, ⟨us, HU.out⟩, (by have := HBL.out; omega), hown, hdr, ob0, or0⟩
set_option maxRecDepth 20000 in
set_option maxHeartbeats 8000000 in
theorem block_dr2 (g : Nat) (xs : List Int) (ad : Option Addr) (c : Nat) (n : Int) (w : World) (hd : Dr w g xs ad c) (hn0 : 0 ≤ n) (hn : n ≤ 8) :
    Calls Tryd.prog 57 #[.pointer (some ⟨g, 0, none⟩), .int .i64 n, .int .i64 0] w fun e w' => ∃ (gb cb : Nat) (blk : List St), e = .returned (.slice (some ⟨gb, 0, none⟩) blk.length cb) ∧ (∃ us, Ur 2 blk us) ∧ (blk.length : Int) ≤ 21 + n ∧
      Own w' w.heap.size 26 6 (some ⟨gb, 0, none⟩) blk.length cb (stCells blk) ∧ Dr w' g xs ad c ∧ Only g w w' := by
  have hgt := hd.gt
  go_enter Tryd.func57, Tryd.ntmps57
  go_wp2_with fail
  go_loopw [7, 8] (fun o i wr => ∃ (k gb cb : Nat) (blk us : List St), (k : Int) ≤ n ∧ i = .int .i64 k ∧ o = .slice (some ⟨gb, 0, none⟩) blk.length cb ∧ Ur 2 blk us ∧ blk.length ≤ 21 + k ∧
      Own wr w.heap.size 26 6 (some ⟨gb, 0, none⟩) blk.length cb (stCells blk) ∧ Dr wr g xs ad c ∧ Only g w wr) (fun _ i _ => n.toNat - (intOf i).toNat)
  case atStart =>
    refine ⟨0, w.heap.size, 0, [], [], by omega, rfl, rfl, .nil _, by simp, ?_, hd.keep fun q hq => (by (repeat (first | with_reducible exact Kp.refl _ _ | (with_reducible refine Kp.rng ?_ (by assumption) ?_) | (with_reducible refine Kp.below ?_ (by assumption)) | (with_reducible refine Kp.grown ?_ (by assumption) ?_) | (with_reducible refine Kp.alloc ?_ _) | (with_reducible refine Kp.drew ?_) | (with_reducible refine Kp.drewN ?_ _) | (with_reducible refine Kp.setCell ?_ _ ?_))) <;> (first | omega | (simp; done) | (simp; omega))), ⟨(by (repeat (first | with_reducible exact Below.refl _ _ | (with_reducible refine bel_next ?_ ?_ (by assumption)) | (with_reducible refine Below.alloc ?_ ?_ _) | (with_reducible refine Below.drew ?_) | (with_reducible refine below_drewN ?_ _) | (with_reducible refine Below.setCell ?_ ?_ _))) <;> (first | omega | (simp; done) | (simp; omega))), fun q hq => Kp.of_lt fun hql => (by (repeat (first | with_reducible exact Kp.refl _ _ | (with_reducible refine Kp.rng ?_ (by assumption) ?_) | (with_reducible refine Kp.below ?_ (by assumption)) | (with_reducible refine Kp.grown ?_ (by assumption) ?_) | (with_reducible refine Kp.alloc ?_ _) | (with_reducible refine Kp.drew ?_) | (with_reducible refine Kp.drewN ?_ _) | (with_reducible refine Kp.setCell ?_ _ ?_))) <;> (first | omega | (simp; done) | (simp; omega)))⟩⟩
    exact own_new w 26 6
  case round =>
    obtain ⟨k, gb, cb, blk, us, hk, rfl, rfl, hur, hbl, hown, hdr, ob0, or0⟩ := hrel
    have z0 := ob0.size
    have ge0 := hown.ge
    have HU := Lib.hid hur
    have HBL := Lib.hid hbl
    have hbl100 : blk.length ≤ 100 := by omega
    have hgt0 := hdr.gt
    clear hur hbl
    by_cases hlt : (k : Int) < n
    ·
      by_cases h12 : (blk.length : Int) < 12
      ·
        go_wp2_with fail
        refine (once_dr g xs ad c 8 _ ((hdr).keep fun q hq => (by (repeat (first | with_reducible exact Kp.refl _ _ | (with_reducible refine Kp.rng ?_ (by assumption) ?_) | (with_reducible refine Kp.below ?_ (by assumption)) | (with_reducible refine Kp.grown ?_ (by assumption) ?_) | (with_reducible refine Kp.alloc ?_ _) | (with_reducible refine Kp.drew ?_) | (with_reducible refine Kp.drewN ?_ _) | (with_reducible refine Kp.setCell ?_ _ ?_))) <;> (first | omega | (simp; done) | (simp; omega))))).mono ?_
        rintro e w1 ⟨b, rfl, hd1, ob1, or1⟩
        have z1 := ob1.size
        (try simp at z1)
        cases b
        ·
          go_wp2_with fail
          refine (l08Stmt_dr g xs ad c _ ((hd1).keep fun q hq => (by (repeat (first | with_reducible exact Kp.refl _ _ | (with_reducible refine Kp.rng ?_ (by assumption) ?_) | (with_reducible refine Kp.below ?_ (by assumption)) | (with_reducible refine Kp.grown ?_ (by assumption) ?_) | (with_reducible refine Kp.alloc ?_ _) | (with_reducible refine Kp.drew ?_) | (with_reducible refine Kp.drewN ?_ _) | (with_reducible refine Kp.setCell ?_ _ ?_))) <;> (first | omega | (simp; done) | (simp; omega))))).mono ?_
          rintro e w2 ⟨s, rfl, hpl, hd2, ob2, or2⟩
          have z2 := ob2.size
          (try simp at z2)
          obtain ⟨op, dst, sa, sb, sc, sn⟩ := s
          unfold stV
          have HPL := Lib.hid hpl
          clear hpl
          go_wp2_with (refine wpList_appSt _ rfl _ _ rfl w.heap.size blk.length cb gb w2.heap.size 0 1 1 blk [⟨op, dst, sa, sb, sc, sn⟩] (by rfl) (by rfl) ((hown).later (by (repeat (first | with_reducible exact Kp.refl _ _ | (with_reducible refine Kp.rng ?_ (by assumption) ?_) | (with_reducible refine Kp.below ?_ (by assumption)) | (with_reducible refine Kp.grown ?_ (by assumption) ?_) | (with_reducible refine Kp.alloc ?_ _) | (with_reducible refine Kp.drew ?_) | (with_reducible refine Kp.drewN ?_ _) | (with_reducible refine Kp.setCell ?_ _ ?_))) <;> (first | omega | (simp; done) | (simp; omega)))) (RdC.six (by go_simp) (by go_simp) (by go_simp) (by go_simp) (by go_simp) (by go_simp)) rfl (by omega) (by first | omega | (simp; done) | (simp; omega)) ?_; intro gn3 cn3 w3 hn3 hb3 hg3 hat3; (try simp at hat3); have z3 := hb3.size; (try simp at z3); have y3 := hg3.size; (try simp at y3); have ge3 := hn3.ge)
          have HE : Hid (((blk ++ [⟨op, dst, sa, sb, sc, sn⟩]) : List St).length = blk.length + 1) := by show _ = _; simp <;> omega
          go_wp2_with fail
          go_roundw
          case rel => exact ⟨k + 1, gn3, cn3, (blk ++ [⟨op, dst, sa, sb, sc, sn⟩]), _, by omega, by go_num, by rw [HE.out], HU.out.append (Ur.one HPL.out), by (rw [HE.out]; have := HBL.out; omega), by rw [HE.out]; exact hn3, ((hd2).keep fun q hq => (by (repeat (first | with_reducible exact Kp.refl _ _ | (with_reducible refine Kp.rng ?_ (by assumption) ?_) | (with_reducible refine Kp.below ?_ (by assumption)) | (with_reducible refine Kp.grown ?_ (by assumption) ?_) | (with_reducible refine Kp.alloc ?_ _) | (with_reducible refine Kp.drew ?_) | (with_reducible refine Kp.drewN ?_ _) | (with_reducible refine Kp.setCell ?_ _ ?_))) <;> (first | omega | (simp; done) | (simp; omega)))), ⟨(by (repeat (first | with_reducible exact Below.refl _ _ | (with_reducible refine bel_next ?_ ?_ (by assumption)) | (with_reducible refine Below.alloc ?_ ?_ _) | (with_reducible refine Below.drew ?_) | (with_reducible refine below_drewN ?_ _) | (with_reducible refine Below.setCell ?_ ?_ _))) <;> (first | omega | (simp; done) | (simp; omega))), fun q hq => Kp.of_lt fun hql => (by (repeat (first | with_reducible exact Kp.refl _ _ | (with_reducible refine Kp.rng ?_ (by assumption) ?_) | (with_reducible refine Kp.below ?_ (by assumption)) | (with_reducible refine Kp.grown ?_ (by assumption) ?_) | (with_reducible refine Kp.alloc ?_ _) | (with_reducible refine Kp.drew ?_) | (with_reducible refine Kp.drewN ?_ _) | (with_reducible refine Kp.setCell ?_ _ ?_))) <;> (first | omega | (simp; done) | (simp; omega)))⟩⟩
          case measure => simp [intOf]; omega
        ·
          go_wp2_with fail
          refine (below_dr g xs ad c 3 _ ((hd1).keep fun q hq => (by (repeat (first | with_reducible exact Kp.refl _ _ | (with_reducible refine Kp.rng ?_ (by assumption) ?_) | (with_reducible refine Kp.below ?_ (by assumption)) | (with_reducible refine Kp.grown ?_ (by assumption) ?_) | (with_reducible refine Kp.alloc ?_ _) | (with_reducible refine Kp.drew ?_) | (with_reducible refine Kp.drewN ?_ _) | (with_reducible refine Kp.setCell ?_ _ ?_))) <;> (first | omega | (simp; done) | (simp; omega))))).mono ?_
          rintro e w2 ⟨vn, rfl, vn0, vn1, _, hd2, ob2, or2⟩
          have vn1 := vn1 (by omega)
          have z2 := ob2.size
          (try simp at z2)
          go_wp2_with (refine wpList_appSt _ rfl _ _ rfl w.heap.size blk.length cb gb w2.heap.size 0 1 1 blk [⟨12, 0, 0, 0, 0, 1 + vn⟩] (by rfl) (by rfl) ((hown).later (by (repeat (first | with_reducible exact Kp.refl _ _ | (with_reducible refine Kp.rng ?_ (by assumption) ?_) | (with_reducible refine Kp.below ?_ (by assumption)) | (with_reducible refine Kp.grown ?_ (by assumption) ?_) | (with_reducible refine Kp.alloc ?_ _) | (with_reducible refine Kp.drew ?_) | (with_reducible refine Kp.drewN ?_ _) | (with_reducible refine Kp.setCell ?_ _ ?_))) <;> (first | omega | (simp; done) | (simp; omega)))) (RdC.six (by go_simp) (by go_simp) (by go_simp) (by go_simp) (by go_simp) (by go_simp)) rfl (by omega) (by first | omega | (simp; done) | (simp; omega)) ?_; intro gn3 cn3 w3 hn3 hb3 hg3 hat3; (try simp at hat3); have z3 := hb3.size; (try simp at z3); have y3 := hg3.size; (try simp at y3); have ge3 := hn3.ge)
          go_wp2_with fail
          refine (below_dr g xs ad c 2 _ ((hd2).keep fun q hq => (by (repeat (first | with_reducible exact Kp.refl _ _ | (with_reducible refine Kp.rng ?_ (by assumption) ?_) | (with_reducible refine Kp.below ?_ (by assumption)) | (with_reducible refine Kp.grown ?_ (by assumption) ?_) | (with_reducible refine Kp.alloc ?_ _) | (with_reducible refine Kp.drew ?_) | (with_reducible refine Kp.drewN ?_ _) | (with_reducible refine Kp.setCell ?_ _ ?_))) <;> (first | omega | (simp; done) | (simp; omega))))).mono ?_
          rintro e w4 ⟨vm, rfl, vm0, vm1, _, hd4, ob4, or4⟩
          have vm1 := vm1 (by omega)
          have z4 := ob4.size
          (try simp at z4)
          go_wp2_with fail
          refine (block_dr1 g xs ad c (1 + vm) _ ((hd4).keep fun q hq => (by (repeat (first | with_reducible exact Kp.refl _ _ | (with_reducible refine Kp.rng ?_ (by assumption) ?_) | (with_reducible refine Kp.below ?_ (by assumption)) | (with_reducible refine Kp.grown ?_ (by assumption) ?_) | (with_reducible refine Kp.alloc ?_ _) | (with_reducible refine Kp.drew ?_) | (with_reducible refine Kp.drewN ?_ _) | (with_reducible refine Kp.setCell ?_ _ ?_))) <;> (first | omega | (simp; done) | (simp; omega)))) (by omega) (by omega)).mono ?_
          rintro e w5 ⟨gi, ci, bi, rfl, ⟨ui, huri⟩, hbi, howni, hd5, ob5, or5⟩
          have z5 := ob5.size
          (try simp at z5)
          have gei := howni.ge
          (try simp at gei)
          have HUI := Lib.hid huri
          clear huri
          have HX : True := trivial
          go_wp2_with (first | (refine wpList_appSt _ rfl _ _ rfl w.heap.size (blk.length + 1) cn3 gn3 gi 0 bi.length ci (blk ++ [⟨12, 0, 0, 0, 0, 1 + vn⟩]) bi (by rfl) (by rfl) ((hn3).later (by (repeat (first | with_reducible exact Kp.refl _ _ | (with_reducible refine Kp.rng ?_ (by assumption) ?_) | (with_reducible refine Kp.below ?_ (by assumption)) | (with_reducible refine Kp.grown ?_ (by assumption) ?_) | (with_reducible refine Kp.alloc ?_ _) | (with_reducible refine Kp.drew ?_) | (with_reducible refine Kp.drewN ?_ _) | (with_reducible refine Kp.setCell ?_ _ ?_))) <;> (first | omega | (simp; done) | (simp; omega)))) (howni.later (by (repeat (first | with_reducible exact Kp.refl _ _ | (with_reducible refine Kp.rng ?_ (by assumption) ?_) | (with_reducible refine Kp.below ?_ (by assumption)) | (with_reducible refine Kp.grown ?_ (by assumption) ?_) | (with_reducible refine Kp.alloc ?_ _) | (with_reducible refine Kp.drew ?_) | (with_reducible refine Kp.drewN ?_ _) | (with_reducible refine Kp.setCell ?_ _ ?_))) <;> (first | omega | (simp; done) | (simp; omega)))).rd rfl (by omega) (by first | omega | (simp; done) | (simp; omega)) ?_; intro gn6 cn6 w6 hn6 hb6 hg6 hat6; (try simp at hat6); have z6 := hb6.size; (try simp at z6); have y6 := hg6.size; (try simp at y6); have ge6 := hn6.ge) | (refine wpList_appSt _ rfl _ _ rfl w.heap.size (blk.length + 1 + bi.length) cn6 gn6 w6.heap.size 0 1 1 ((blk ++ [⟨12, 0, 0, 0, 0, 1 + vn⟩]) ++ bi) [⟨13, 0, 0, 0, 0, 0⟩] (by rfl) (by rfl) ((hn6).later (by (repeat (first | with_reducible exact Kp.refl _ _ | (with_reducible refine Kp.rng ?_ (by assumption) ?_) | (with_reducible refine Kp.below ?_ (by assumption)) | (with_reducible refine Kp.grown ?_ (by assumption) ?_) | (with_reducible refine Kp.alloc ?_ _) | (with_reducible refine Kp.drew ?_) | (with_reducible refine Kp.drewN ?_ _) | (with_reducible refine Kp.setCell ?_ _ ?_))) <;> (first | omega | (simp; done) | (simp; omega)))) (RdC.six (by go_simp) (by go_simp) (by go_simp) (by go_simp) (by go_simp) (by go_simp)) rfl (by omega) (by first | omega | (simp; done) | (simp; omega)) ?_; intro gn7 cn7 w7 hn7 hb7 hg7 hat7; (try simp at hat7); have z7 := hb7.size; (try simp at z7); have y7 := hg7.size; (try simp at y7); have ge7 := hn7.ge))
          have HE : Hid (((((blk ++ [⟨12, 0, 0, 0, 0, 1 + vn⟩]) ++ bi) ++ [⟨13, 0, 0, 0, 0, 0⟩]) : List St).length = blk.length + 1 + bi.length + 1) := by show _ = _; simp <;> omega
          go_wp2_with fail
          go_roundw
          case rel => exact ⟨k + 1, gn7, cn7, (((blk ++ [⟨12, 0, 0, 0, 0, 1 + vn⟩]) ++ bi) ++ [⟨13, 0, 0, 0, 0, 0⟩]), _, by omega, by go_num, by rw [HE.out], (by have := HU.out.append (Ur.oneLoop (n := 1 + vn) (by omega) (by omega) HUI.out); simpa [List.append_assoc] using this), by (rw [HE.out]; have := HBL.out; omega), by rw [HE.out]; exact hn7, ((hd5).keep fun q hq => (by (repeat (first | with_reducible exact Kp.refl _ _ | (with_reducible refine Kp.rng ?_ (by assumption) ?_) | (with_reducible refine Kp.below ?_ (by assumption)) | (with_reducible refine Kp.grown ?_ (by assumption) ?_) | (with_reducible refine Kp.alloc ?_ _) | (with_reducible refine Kp.drew ?_) | (with_reducible refine Kp.drewN ?_ _) | (with_reducible refine Kp.setCell ?_ _ ?_))) <;> (first | omega | (simp; done) | (simp; omega)))), ⟨(by (repeat (first | with_reducible exact Below.refl _ _ | (with_reducible refine bel_next ?_ ?_ (by assumption)) | (with_reducible refine Below.alloc ?_ ?_ _) | (with_reducible refine Below.drew ?_) | (with_reducible refine below_drewN ?_ _) | (with_reducible refine Below.setCell ?_ ?_ _))) <;> (first | omega | (simp; done) | (simp; omega))), fun q hq => Kp.of_lt fun hql => (by (repeat (first | with_reducible exact Kp.refl _ _ | (with_reducible refine Kp.rng ?_ (by assumption) ?_) | (with_reducible refine Kp.below ?_ (by assumption)) | (with_reducible refine Kp.grown ?_ (by assumption) ?_) | (with_reducible refine Kp.alloc ?_ _) | (with_reducible refine Kp.drew ?_) | (with_reducible refine Kp.drewN ?_ _) | (with_reducible refine Kp.setCell ?_ _ ?_))) <;> (first | omega | (simp; done) | (simp; omega)))⟩⟩
          case measure => simp [intOf]; omega
      ·
        go_wp2_with fail
        refine (l08Stmt_dr g xs ad c _ ((hdr).keep fun q hq => (by (repeat (first | with_reducible exact Kp.refl _ _ | (with_reducible refine Kp.rng ?_ (by assumption) ?_) | (with_reducible refine Kp.below ?_ (by assumption)) | (with_reducible refine Kp.grown ?_ (by assumption) ?_) | (with_reducible refine Kp.alloc ?_ _) | (with_reducible refine Kp.drew ?_) | (with_reducible refine Kp.drewN ?_ _) | (with_reducible refine Kp.setCell ?_ _ ?_))) <;> (first | omega | (simp; done) | (simp; omega))))).mono ?_
        rintro e w9 ⟨s, rfl, hpl, hd9, ob9, or9⟩
        have z9 := ob9.size
        (try simp at z9)
        obtain ⟨op, dst, sa, sb, sc, sn⟩ := s
        unfold stV
        have HPL := Lib.hid hpl
        clear hpl
        go_wp2_with (refine wpList_appSt _ rfl _ _ rfl w.heap.size blk.length cb gb w9.heap.size 0 1 1 blk [⟨op, dst, sa, sb, sc, sn⟩] (by rfl) (by rfl) ((hown).later (by (repeat (first | with_reducible exact Kp.refl _ _ | (with_reducible refine Kp.rng ?_ (by assumption) ?_) | (with_reducible refine Kp.below ?_ (by assumption)) | (with_reducible refine Kp.grown ?_ (by assumption) ?_) | (with_reducible refine Kp.alloc ?_ _) | (with_reducible refine Kp.drew ?_) | (with_reducible refine Kp.drewN ?_ _) | (with_reducible refine Kp.setCell ?_ _ ?_))) <;> (first | omega | (simp; done) | (simp; omega)))) (RdC.six (by go_simp) (by go_simp) (by go_simp) (by go_simp) (by go_simp) (by go_simp)) rfl (by omega) (by first | omega | (simp; done) | (simp; omega)) ?_; intro gn10 cn10 w10 hn10 hb10 hg10 hat10; (try simp at hat10); have z10 := hb10.size; (try simp at z10); have y10 := hg10.size; (try simp at y10); have ge10 := hn10.ge)
        have HE : Hid (((blk ++ [⟨op, dst, sa, sb, sc, sn⟩]) : List St).length = blk.length + 1) := by show _ = _; simp <;> omega
        go_wp2_with fail
        go_roundw
        case rel => exact ⟨k + 1, gn10, cn10, (blk ++ [⟨op, dst, sa, sb, sc, sn⟩]), _, by omega, by go_num, by rw [HE.out], HU.out.append (Ur.one HPL.out), by (rw [HE.out]; have := HBL.out; omega), by rw [HE.out]; exact hn10, ((hd9).keep fun q hq => (by (repeat (first | with_reducible exact Kp.refl _ _ | (with_reducible refine Kp.rng ?_ (by assumption) ?_) | (with_reducible refine Kp.below ?_ (by assumption)) | (with_reducible refine Kp.grown ?_ (by assumption) ?_) | (with_reducible refine Kp.alloc ?_ _) | (with_reducible refine Kp.drew ?_) | (with_reducible refine Kp.drewN ?_ _) | (with_reducible refine Kp.setCell ?_ _ ?_))) <;> (first | omega | (simp; done) | (simp; omega)))), ⟨(by (repeat (first | with_reducible exact Below.refl _ _ | (with_reducible refine bel_next ?_ ?_ (by assumption)) | (with_reducible refine Below.alloc ?_ ?_ _) | (with_reducible refine Below.drew ?_) | (with_reducible refine below_drewN ?_ _) | (with_reducible refine Below.setCell ?_ ?_ _))) <;> (first | omega | (simp; done) | (simp; omega))), fun q hq => Kp.of_lt fun hql => (by (repeat (first | with_reducible exact Kp.refl _ _ | (with_reducible refine Kp.rng ?_ (by assumption) ?_) | (with_reducible refine Kp.below ?_ (by assumption)) | (with_reducible refine Kp.grown ?_ (by assumption) ?_) | (with_reducible refine Kp.alloc ?_ _) | (with_reducible refine Kp.drew ?_) | (with_reducible refine Kp.drewN ?_ _) | (with_reducible refine Kp.setCell ?_ _ ?_))) <;> (first | omega | (simp; done) | (simp; omega)))⟩⟩
        case measure => simp [intOf]; omega
    · go_wp2_with fail
      go_ret
      exact ⟨gb, cb, blk, rfl, ⟨us, HU.out⟩, (by have := HBL.out; omega), hown, hdr, ob0, or0⟩
/-- What a drawn program is. -/
structure DProg (l : List St) : Prop where
  ur : ∃ us, Ur 2 l us
  len : l.length ≤ 40
  two : ∃ r, l = ⟨2, 0, 0, 0, 0, 0⟩ :: ⟨2, 1, 1, 0, 0, 0⟩ :: r
  out : ∃ r a, l = r ++ [⟨11, 0, a, 0, 0, 0⟩] ∧ 0 ≤ a ∧ a ≤ 3
theorem dprog_of {blk us : List St} {a : Int} (hu : Ur 2 blk us) (hl : (blk.length : Int) ≤ 29) (h0 : 0 ≤ a) (h3 : a < 4) : DProg ([⟨2, 0, 0, 0, 0, 0⟩, ⟨2, 1, 1, 0, 0, 0⟩] ++ blk ++ [⟨11, 0, a, 0, 0, 0⟩]) := by
  have i0 : plain1 ⟨2, 0, 0, 0, 0, 0⟩ := by simp [plain1, stOk, inB]
  have i1 : plain1 ⟨2, 1, 1, 0, 0, 0⟩ := by simp [plain1, stOk, inB]
  have o1 : plain1 ⟨11, 0, a, 0, 0, 0⟩ := by simp [plain1, stOk, inB]; omega
  refine ⟨⟨_, (((Ur.one i0).append (Ur.one i1)).append hu).append (Ur.one o1)⟩, by simp; omega, ⟨blk ++ [⟨11, 0, a, 0, 0, 0⟩], by simp⟩, ⟨[⟨2, 0, 0, 0, 0, 0⟩, ⟨2, 1, 1, 0, 0, 0⟩] ++ blk, a, rfl, h0, by omega⟩⟩
set_option maxRecDepth 20000 in
set_option maxHeartbeats 8000000 in
theorem l08Case_dr (g : Nat) (xs : List Int) (ad : Option Addr) (c : Nat) (w : World) (hd : Dr w g xs ad c) :
    Calls Tryd.prog 42 #[.pointer (some ⟨g, 0, none⟩)] w fun e w' => ∃ (gp cp : Nat) (l : List St), e = .returned (.slice (some ⟨gp, 0, none⟩) l.length cp) ∧ DProg l ∧
      Own w' w.heap.size 26 6 (some ⟨gp, 0, none⟩) l.length cp (stCells l) ∧ Dr w' g xs ad c ∧ Only g w w' := by
  have hgt := hd.gt
  go_enter Tryd.func42, Tryd.ntmps42
  go_wp2_with fail
  obtain ⟨w1, hw1⟩ : ∃ W, W = w.alloc (.cells #[.int .i64 2, .int .i64 0, .int .i64 0, .int .i64 0, .int .i64 0, .int .i64 0, .int .i64 2, .int .i64 1, .int .i64 1, .int .i64 0, .int .i64 0, .int .i64 0] 26) := ⟨_, rfl⟩
  rw [← hw1]
  have hb1 : Below w.heap.size w w1 := by rw [hw1]; exact (Below.refl _ _).alloc (Nat.le_refl _) _
  have x1 : w.heap.size < w1.heap.size := by rw [hw1]; simp
  have hown : Own w1 w.heap.size 26 6 (some ⟨w.heap.size, 0, none⟩) 2 2 (stCells [⟨2, 0, 0, 0, 0, 0⟩, ⟨2, 1, 1, 0, 0, 0⟩]) := by rw [hw1]; exact World.ownsRow_lit w _ 2 (Nat.le_refl _) (by simp [maxLen]) rfl
  clear hw1
  refine (below_dr g xs ad c 9 _ (hd.keep fun q hq => (by (repeat (first | with_reducible exact Kp.refl _ _ | (with_reducible refine Kp.rng ?_ (by assumption) ?_) | (with_reducible refine Kp.below ?_ (by assumption)) | (with_reducible refine Kp.grown ?_ (by assumption) ?_) | (with_reducible refine Kp.alloc ?_ _) | (with_reducible refine Kp.drew ?_) | (with_reducible refine Kp.drewN ?_ _) | (with_reducible refine Kp.setCell ?_ _ ?_))) <;> (first | omega | (simp; done) | (simp; omega))))).mono ?_
  rintro e w2 ⟨vn, rfl, vn0, vn1, _, hd2, ob2, or2⟩
  have vn1 := vn1 (by omega)
  have z2 := ob2.size
  (try simp at z2)
  go_wp2_with fail
  refine (block_dr2 g xs ad c vn _ (hd2.keep fun q hq => (by (repeat (first | with_reducible exact Kp.refl _ _ | (with_reducible refine Kp.rng ?_ (by assumption) ?_) | (with_reducible refine Kp.below ?_ (by assumption)) | (with_reducible refine Kp.grown ?_ (by assumption) ?_) | (with_reducible refine Kp.alloc ?_ _) | (with_reducible refine Kp.drew ?_) | (with_reducible refine Kp.drewN ?_ _) | (with_reducible refine Kp.setCell ?_ _ ?_))) <;> (first | omega | (simp; done) | (simp; omega)))) (by omega) (by omega)).mono ?_
  rintro e w3 ⟨gi, ci, bi, rfl, ⟨ui, huri⟩, hbi, howni, hd3, ob3, or3⟩
  have z3 := ob3.size
  (try simp at z3)
  have gei := howni.ge
  (try simp at gei)
  have HUI := Lib.hid huri
  clear huri
  go_wp2_with (refine wpList_appSt _ rfl _ _ rfl w.heap.size 2 2 w.heap.size gi 0 bi.length ci [⟨2, 0, 0, 0, 0, 0⟩, ⟨2, 1, 1, 0, 0, 0⟩] bi (by rfl) (by rfl) (hown.later (by (repeat (first | with_reducible exact Kp.refl _ _ | (with_reducible refine Kp.rng ?_ (by assumption) ?_) | (with_reducible refine Kp.below ?_ (by assumption)) | (with_reducible refine Kp.grown ?_ (by assumption) ?_) | (with_reducible refine Kp.alloc ?_ _) | (with_reducible refine Kp.drew ?_) | (with_reducible refine Kp.drewN ?_ _) | (with_reducible refine Kp.setCell ?_ _ ?_))) <;> (first | omega | (simp; done) | (simp; omega)))) (howni.later (by (repeat (first | with_reducible exact Kp.refl _ _ | (with_reducible refine Kp.rng ?_ (by assumption) ?_) | (with_reducible refine Kp.below ?_ (by assumption)) | (with_reducible refine Kp.grown ?_ (by assumption) ?_) | (with_reducible refine Kp.alloc ?_ _) | (with_reducible refine Kp.drew ?_) | (with_reducible refine Kp.drewN ?_ _) | (with_reducible refine Kp.setCell ?_ _ ?_))) <;> (first | omega | (simp; done) | (simp; omega)))).rd rfl (by omega) (by first | omega | (simp; done) | (simp; omega)) ?_; intro gn4 cn4 w4 hn4 hb4 hg4 hat4; (try simp at hat4); have z4 := hb4.size; (try simp at z4); have y4 := hg4.size; (try simp at y4); have ge4 := hn4.ge)
  refine (below_dr g xs ad c 4 _ (hd3.keep fun q hq => (by (repeat (first | with_reducible exact Kp.refl _ _ | (with_reducible refine Kp.rng ?_ (by assumption) ?_) | (with_reducible refine Kp.below ?_ (by assumption)) | (with_reducible refine Kp.grown ?_ (by assumption) ?_) | (with_reducible refine Kp.alloc ?_ _) | (with_reducible refine Kp.drew ?_) | (with_reducible refine Kp.drewN ?_ _) | (with_reducible refine Kp.setCell ?_ _ ?_))) <;> (first | omega | (simp; done) | (simp; omega))))).mono ?_
  rintro e w5 ⟨va, rfl, va0, va1, _, hd5, ob5, or5⟩
  have va1 := va1 (by omega)
  have z5 := ob5.size
  (try simp at z5)
  go_wp2_with (refine wpList_appSt _ rfl _ _ rfl w.heap.size (2 + bi.length) cn4 gn4 w5.heap.size 0 1 1 ([⟨2, 0, 0, 0, 0, 0⟩, ⟨2, 1, 1, 0, 0, 0⟩] ++ bi) [⟨11, 0, va, 0, 0, 0⟩] (by rfl) (by rfl) (hn4.later (by (repeat (first | with_reducible exact Kp.refl _ _ | (with_reducible refine Kp.rng ?_ (by assumption) ?_) | (with_reducible refine Kp.below ?_ (by assumption)) | (with_reducible refine Kp.grown ?_ (by assumption) ?_) | (with_reducible refine Kp.alloc ?_ _) | (with_reducible refine Kp.drew ?_) | (with_reducible refine Kp.drewN ?_ _) | (with_reducible refine Kp.setCell ?_ _ ?_))) <;> (first | omega | (simp; done) | (simp; omega)))) (RdC.six (by go_simp) (by go_simp) (by go_simp) (by go_simp) (by go_simp) (by go_simp)) rfl (by omega) (by first | omega | (simp; done) | (simp; omega)) ?_; intro gn6 cn6 w6 hn6 hb6 hg6 hat6; (try simp at hat6); have z6 := hb6.size; (try simp at z6); have y6 := hg6.size; (try simp at y6); have ge6 := hn6.ge)
  have HE : Hid ((([⟨2, 0, 0, 0, 0, 0⟩, ⟨2, 1, 1, 0, 0, 0⟩] ++ bi ++ [⟨11, 0, va, 0, 0, 0⟩]) : List St).length = 2 + bi.length + 1) := by show _ = _; simp; omega
  go_wp2_with fail
  go_ret
  exact ⟨gn6, cn6, [⟨2, 0, 0, 0, 0, 0⟩, ⟨2, 1, 1, 0, 0, 0⟩] ++ bi ++ [⟨11, 0, va, 0, 0, 0⟩], by rw [HE.out]; rfl, dprog_of HUI.out (by omega) va0 va1, by rw [HE.out]; exact hn6, hd5.keep fun q hq => (by (repeat (first | with_reducible exact Kp.refl _ _ | (with_reducible refine Kp.rng ?_ (by assumption) ?_) | (with_reducible refine Kp.below ?_ (by assumption)) | (with_reducible refine Kp.grown ?_ (by assumption) ?_) | (with_reducible refine Kp.alloc ?_ _) | (with_reducible refine Kp.drew ?_) | (with_reducible refine Kp.drewN ?_ _) | (with_reducible refine Kp.setCell ?_ _ ?_))) <;> (first | omega | (simp; done) | (simp; omega))), ⟨(by (repeat (first | with_reducible exact Below.refl _ _ | (with_reducible refine bel_next ?_ ?_ (by assumption)) | (with_reducible refine Below.alloc ?_ ?_ _) | (with_reducible refine Below.drew ?_) | (with_reducible refine below_drewN ?_ _) | (with_reducible refine Below.setCell ?_ ?_ _))) <;> (first | omega | (simp; done) | (simp; omega))), fun q hq => Kp.of_lt fun hql => (by (repeat (first | with_reducible exact Kp.refl _ _ | (with_reducible refine Kp.rng ?_ (by assumption) ?_) | (with_reducible refine Kp.below ?_ (by assumption)) | (with_reducible refine Kp.grown ?_ (by assumption) ?_) | (with_reducible refine Kp.alloc ?_ _) | (with_reducible refine Kp.drew ?_) | (with_reducible refine Kp.drewN ?_ _) | (with_reducible refine Kp.setCell ?_ _ ?_))) <;> (first | omega | (simp; done) | (simp; omega)))⟩⟩
set_option maxHeartbeats 1000000 in
theorem DrawProgram_any (xs : List Int) (ad : Option Addr) (c : Nat) (w : World) (hm : xs.length ≤ 1048576) (hr : RdC w ad (xs.map (Value.int .u8))) (hb : ∀ x ∈ xs, 0 ≤ x ∧ x ≤ 255) :
    Calls Tryd.prog 24 #[.slice ad xs.length c] w fun e w' => ∃ (gp cp : Nat) (l : List St), e = .returned (.slice (some ⟨gp, 0, none⟩) l.length cp) ∧ DProg l ∧
      Own w' w.heap.size 26 6 (some ⟨gp, 0, none⟩) l.length cp (stCells l) ∧ Below w.heap.size w w' := by
  go_enter Tryd.func24, Tryd.ntmps24
  go_wp2_with fail
  refine (l01New_any xs ad c w hm hr hb).mono ?_
  rintro e w1 ⟨g, rfl, hgl, hd1, hb1⟩
  have z1 := hb1.size
  go_wp2_with fail
  refine (l08Case_dr g xs ad c _ hd1).mono ?_
  rintro e w2 ⟨gp, cp, l, rfl, hp, ho, hd2, ob2, or2⟩
  go_wp2_with fail
  go_ret
  exact ⟨gp, cp, l, rfl, hp, ho.lo (by omega), (by (repeat (first | with_reducible exact Below.refl _ _ | (with_reducible refine bel_next ?_ ?_ (by assumption)) | (with_reducible refine Below.alloc ?_ ?_ _) | (with_reducible refine Below.drew ?_) | (with_reducible refine below_drewN ?_ _) | (with_reducible refine Below.setCell ?_ ?_ _))) <;> (first | omega | (simp; done) | (simp; omega)))⟩

end Go.Proofs.YtigefmobejclaaaDoor
