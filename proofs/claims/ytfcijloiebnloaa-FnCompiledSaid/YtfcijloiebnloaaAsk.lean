/- May a builder work? -/
import Derived.Test.YtfcijloiebnloaaCircOk
import Derived.Test.YtfcijloiebnloaaGateList
import Derived.Test.YtfcijloiebnloaaScal
import Derived.StillTailTactics
import Derived.Deep.QuietTactic
import Derived.BigQuiet
import Derived.Deep.RegionHeld3
import Derived.Deep.RegionLaw
namespace Go.Proofs.Ytfcijloiebnloaa
open Go.RowKit
set_option linter.unusedVariables false
set_option linter.unusedSimpArgs false

def wordB (gs : List Gt) (xs : List Int) : Bool := allB xs 0 ((gs.length : Int) - 1) && decide (xs.length = 4)
def roomB (gs : List Gt) (os : List Int) : Bool := circOk gs os && decide (gs.length ≤ 5900)
def askB (gs : List Gt) (os xs ys : List Int) : Bool := roomB gs os && wordB gs xs && wordB gs ys
theorem wordB_elem {gs : List Gt} {xs : List Int} {k : Nat} (hk : k < xs.length) (h : inB xs[k] 0 ((gs.length : Int) - 1) = false) : wordB gs xs = false := by simp [wordB, allB_fail hk h]
theorem wordB_len {gs : List Gt} {xs : List Int} (h : ¬ xs.length = 4) : wordB gs xs = false := by simp [wordB, h]
theorem wordB_yes {gs : List Gt} {xs : List Int} (h : allB xs 0 ((gs.length : Int) - 1) = true) (h2 : xs.length = 4) : wordB gs xs = true := by simp [wordB, h, h2]

set_option maxRecDepth 20000 in
set_option maxHeartbeats 8000000 in
theorem isWordOf2_any (gs : List Gt) (os : List Int) (a1 a2 : Option Addr) (c1 c2 : Nat) (w : World) (hm : gs.length ≤ 1048576) (hm2 : os.length ≤ 1048576) (hr : RdC w a1 (gtCells gs)) (hr2 : RdC w a2 (I64 os)) (xs : List Int) (nx : Nat) (ax : Option Addr) (cx : Nat) (hlx : xs.length = nx) (hmx : nx ≤ 1048576) (hrx : RdC w ax (I64 xs)) (ys : List Int) (ny : Nat) (ay : Option Addr) (cy : Nat) (hly : ys.length = ny) (hmy : ny ≤ 1048576) (hry : RdC w ay (I64 ys)) (gw : Nat) (cw : Nat) (hw0 : w.cell? ⟨gw, 0, none⟩ = some (.slice ax nx cx)) (hw1 : w.cell? ⟨gw, 1, none⟩ = some (.slice ay ny cy)) :
    Calls Try.prog 57 #[.agg #[.slice a1 gs.length c1, .slice a2 os.length c2], .slice (some ⟨gw, 0, none⟩) 2 cw] w fun e w' => e = .returned (.bool (askB gs os xs ys)) ∧ Below w.heap.size w w' := by
  have HR := Lib.hid hr
  have HR2 := Lib.hid hr2
  have HRx := Lib.hid hrx
  have HLx := Lib.hid hlx
  have HRy := Lib.hid hry
  have HLy := Lib.hid hly
  have hgw := lt_of_cell hw0
  simp only at hgw
  clear hr hr2 hrx hlx hry hly
  go_enter Try.func57, Try.ntmps57
  go_wp2_with fail
  obtain ⟨W, hW⟩ : ∃ W, W = w.alloc (.cells #[.slice a1 gs.length c1, .slice a2 os.length c2] 29) := ⟨_, rfl⟩
  rw [← hW]
  have k0 : W.cell? ⟨w.heap.size, 0, none⟩ = some (.slice a1 gs.length c1) := by rw [hW]; go_simp
  have k1 : W.cell? ⟨w.heap.size, 1, none⟩ = some (.slice a2 os.length c2) := by rw [hW]; go_simp
  have kwx : W.cell? ⟨gw, 0, none⟩ = some (.slice ax nx cx) := by rw [hW]; exact bel_keeps ((Below.refl _ _).alloc (Nat.le_refl _) _) hw0
  have kwy : W.cell? ⟨gw, 1, none⟩ = some (.slice ay ny cy) := by rw [hW]; exact bel_keeps ((Below.refl _ _).alloc (Nat.le_refl _) _) hw1
  have HBW := Lib.hid (show Below w.heap.size w W by rw [hW]; exact (Below.refl _ _).alloc (Nat.le_refl _) _)
  clear hW hw0 hw1
  refine wp_loop_rounds 3 ?_
  rw [rounds_succ]
  go_wp2_with fail
  go_loopw [17] (fun i wr => ∃ k : Nat, k ≤ nx ∧ i = .int .i64 k ∧ allB (xs.take k) 0 ((gs.length : Int) - 1) = true ∧ Below W.heap.size W wr) (fun i _ => nx - (intOf i).toNat)
  case atStart => exact ⟨0, Nat.zero_le _, rfl, rfl, Below.refl _ _⟩
  case round =>
    obtain ⟨k, hk, rfl, hall, hbb⟩ := hrel
    have zz := hbb.size
    have q0 := bel_keeps hbb k0
    have q1 := bel_keeps hbb k1
    have HBB := Lib.hid hbb
    have HA := Lib.hid hall
    clear hall hbb
    by_cases hlt : k < nx
    · obtain ⟨b, off, rfl, hcell⟩ := (HRx.out.below (HBW.out.trans (HBB.out.mono (by have := HBW.out.size; omega)))).at k (by rw [HLx.out]; exact hlt)
      have hc := hcell k (by rw [HLx.out]; exact hlt)
      have hi2 : (k : Int) < (nx : Int) := by omega
      obtain ⟨y, hy⟩ : ∃ y, y = xs[k]'(by rw [HLx.out]; exact hlt) := ⟨_, rfl⟩
      rw [← hy] at hc
      have HY := Lib.hid hy
      clear hcell hy
      cases hb : inB y 0 ((gs.length : Int) - 1)
      · have HF := Lib.hid (wordB_elem (gs := gs) (xs := xs) (by rw [HLx.out]; exact hlt) (by rw [← HY.out]; exact hb))
        go_wp2_with (go_at_call 65; refine (within_any _ _ _ _).mono ?_; rintro e _ ⟨rfl, rfl⟩; simp only [hb])
        go_ret
        exact ⟨ret_bool (by simp [askB, HF.out]), HBW.out.trans (HBB.out.mono (by have := HBW.out.size; omega))⟩
      · have HN := Lib.hid (allB_snoc (xs := xs) (by rw [HLx.out]; exact hlt) HA.out (by rw [← HY.out]; exact hb))
        go_wp2_with (go_at_call 65; refine (within_any _ _ _ _).mono ?_; rintro e _ ⟨rfl, rfl⟩; simp only [hb])
        go_roundw
        case rel => exact ⟨k + 1, by omega, by go_num, HN.out, by have := HBB.out; exact (by (repeat (first | with_reducible exact Below.refl _ _ | (with_reducible refine bel_next ?_ ?_ (by assumption)) | (with_reducible refine Below.alloc ?_ ?_ _) | (with_reducible refine Below.drew ?_) | (with_reducible refine below_drewN ?_ _) | (with_reducible refine Below.setCell ?_ ?_ _))) <;> (first | omega | (simp; done) | (simp; omega)))⟩
        case measure => simp [intOf]; omega
    · have HAA := Lib.hid (allB_full (xs := xs) (k := k) (by rw [HLx.out]; omega) HA.out)
      have hge : ¬ (k : Int) < (nx : Int) := by omega
      have hbw2 := HBW.out.trans (HBB.out.mono (by have := HBW.out.size; omega))
      by_cases h4 : nx = 4
      case neg =>
        have HF := Lib.hid (wordB_len (gs := gs) (xs := xs) (by rw [HLx.out]; exact h4))
        have hn4 : ((nx : Int) != 4) = true := by simp; omega
        go_wp2_with fail
        go_ret
        exact ⟨ret_bool (by simp [askB, HF.out]), hbw2⟩
      have HYx := Lib.hid (wordB_yes (gs := gs) (xs := xs) HAA.out (by rw [HLx.out]; exact h4))
      have hn4 : ((nx : Int) != 4) = false := by simp; omega
      have r0 := q0; have r1 := q1
      go_wp2_with fail
      rw [rounds_succ]
      have kw1 := bel_keeps HBB.out kwy
      clear k0 k1 HBW
      
      have HBW := Lib.hid hbw2
      have k0 := r0; have k1 := r1
      clear r0 r1 q0 q1 HBB hbw2 HA HAA hlt hk hge hn4 zz
      go_wp2_with fail
      go_loopw [17] (fun i ws => ∃ k : Nat, k ≤ ny ∧ i = .int .i64 k ∧ allB (ys.take k) 0 ((gs.length : Int) - 1) = true ∧ Below wr.heap.size wr ws) (fun i _ => ny - (intOf i).toNat)
      case atStart => exact ⟨0, Nat.zero_le _, rfl, rfl, Below.refl _ _⟩
      case round =>
        obtain ⟨k, hk, rfl, hall, hbb⟩ := hrel
        have zz := hbb.size
        have q0 := bel_keeps hbb k0
        have q1 := bel_keeps hbb k1
        have HBB := Lib.hid hbb
        have HA := Lib.hid hall
        clear hall hbb
        by_cases hlt : k < ny
        · obtain ⟨b, off, rfl, hcell⟩ := (HRy.out.below (HBW.out.trans (HBB.out.mono (by have := HBW.out.size; omega)))).at k (by rw [HLy.out]; exact hlt)
          have hc := hcell k (by rw [HLy.out]; exact hlt)
          have hi2 : (k : Int) < (ny : Int) := by omega
          obtain ⟨y, hy⟩ : ∃ y, y = ys[k]'(by rw [HLy.out]; exact hlt) := ⟨_, rfl⟩
          rw [← hy] at hc
          have HY := Lib.hid hy
          clear hcell hy
          cases hb : inB y 0 ((gs.length : Int) - 1)
          · have HF := Lib.hid (wordB_elem (gs := gs) (xs := ys) (by rw [HLy.out]; exact hlt) (by rw [← HY.out]; exact hb))
            go_wp2_with (go_at_call 65; refine (within_any _ _ _ _).mono ?_; rintro e _ ⟨rfl, rfl⟩; simp only [hb])
            go_ret
            exact ⟨ret_bool (by simp [askB, HF.out]), HBW.out.trans (HBB.out.mono (by have := HBW.out.size; omega))⟩
          · have HN := Lib.hid (allB_snoc (xs := ys) (by rw [HLy.out]; exact hlt) HA.out (by rw [← HY.out]; exact hb))
            go_wp2_with (go_at_call 65; refine (within_any _ _ _ _).mono ?_; rintro e _ ⟨rfl, rfl⟩; simp only [hb])
            go_roundw
            case rel => exact ⟨k + 1, by omega, by go_num, HN.out, by have := HBB.out; exact (by (repeat (first | with_reducible exact Below.refl _ _ | (with_reducible refine bel_next ?_ ?_ (by assumption)) | (with_reducible refine Below.alloc ?_ ?_ _) | (with_reducible refine Below.drew ?_) | (with_reducible refine below_drewN ?_ _) | (with_reducible refine Below.setCell ?_ ?_ _))) <;> (first | omega | (simp; done) | (simp; omega)))⟩
            case measure => simp [intOf]; omega
        · have HAA := Lib.hid (allB_full (xs := ys) (k := k) (by rw [HLy.out]; omega) HA.out)
          have hge : ¬ (k : Int) < (ny : Int) := by omega
          have hbw2 := HBW.out.trans (HBB.out.mono (by have := HBW.out.size; omega))
          by_cases h4 : ny = 4
          case neg =>
            have HF := Lib.hid (wordB_len (gs := gs) (xs := ys) (by rw [HLy.out]; exact h4))
            have hn4 : ((ny : Int) != 4) = true := by simp; omega
            go_wp2_with fail
            go_ret
            exact ⟨ret_bool (by simp [askB, HF.out]), hbw2⟩
          have HYy := Lib.hid (wordB_yes (gs := gs) (xs := ys) HAA.out (by rw [HLy.out]; exact h4))
          have hn4 : ((ny : Int) != 4) = false := by simp; omega
          have r0 := q0; have r1 := q1
          go_wp2_with fail
          rw [rounds_succ]
          go_wp2_with fail
          refine (iCircuitOk_any gs os _ _ _ _ _ hm hm2 (HR.out.below hbw2) (HR2.out.below hbw2)).mono ?_
          rintro e w5 ⟨rfl, hb5⟩
          have s0 := bel_keeps hb5 r0
          have hb55 : Below w.heap.size w w5 := hbw2.trans (hb5.mono (by have := hbw2.size; omega))
          clear r0 r1 q0 q1 hb5 hbw2
          by_cases h59 : gs.length ≤ 5900
          all_goals
            cases hc : circOk gs os
            all_goals
              go_wp2_with fail
              go_ret
              exact ⟨ret_bool (by simp [askB, roomB, hc, HYx.out, HYy.out, h59] <;> omega), hb55⟩
set_option maxHeartbeats 4000000 in
theorem isWordOf0_any (gs : List Gt) (os : List Int) (a1 a2 : Option Addr) (c1 c2 : Nat) (w : World) (hm : gs.length ≤ 1048576) (hm2 : os.length ≤ 1048576) (hr : RdC w a1 (gtCells gs)) (hr2 : RdC w a2 (I64 os)) :
    Calls Try.prog 57 #[.agg #[.slice a1 gs.length c1, .slice a2 os.length c2], .slice none 0 0] w fun e w' => e = .returned (.bool (roomB gs os)) ∧ Below w.heap.size w w' := by
  have HR := Lib.hid hr
  have HR2 := Lib.hid hr2
  clear hr hr2
  go_enter Try.func57, Try.ntmps57
  go_wp2_with fail
  refine wp_loop_rounds 1 ?_
  rw [rounds_succ]
  go_wp2_with fail
  refine (iCircuitOk_any gs os _ _ _ _ _ hm hm2 (HR.out.below (by (repeat (first | with_reducible exact Below.refl _ _ | (with_reducible refine bel_next ?_ ?_ (by assumption)) | (with_reducible refine Below.alloc ?_ ?_ _) | (with_reducible refine Below.drew ?_) | (with_reducible refine below_drewN ?_ _) | (with_reducible refine Below.setCell ?_ ?_ _))) <;> (first | omega | (simp; done) | (simp; omega)))) (HR2.out.below (by (repeat (first | with_reducible exact Below.refl _ _ | (with_reducible refine bel_next ?_ ?_ (by assumption)) | (with_reducible refine Below.alloc ?_ ?_ _) | (with_reducible refine Below.drew ?_) | (with_reducible refine below_drewN ?_ _) | (with_reducible refine Below.setCell ?_ ?_ _))) <;> (first | omega | (simp; done) | (simp; omega))))).mono ?_
  rintro e w5 ⟨rfl, hb5⟩
  have s0 := bel_keeps hb5 (b := w.heap.size) (o := 0) (v := .slice a1 gs.length c1) (by first | (go_simp; done) | assumption)
  by_cases h59 : gs.length ≤ 5900
  all_goals
    cases hc : circOk gs os
    all_goals
      go_wp2_with fail
      go_ret
      exact ⟨ret_bool (by simp [roomB, hc, h59] <;> omega), (by (repeat (first | with_reducible exact Below.refl _ _ | (with_reducible refine bel_next ?_ ?_ (by assumption)) | (with_reducible refine Below.alloc ?_ ?_ _) | (with_reducible refine Below.drew ?_) | (with_reducible refine below_drewN ?_ _) | (with_reducible refine Below.setCell ?_ ?_ _))) <;> (first | omega | (simp; done) | (simp; omega)))⟩
end Go.Proofs.Ytfcijloiebnloaa
