/- The rounds of the builders. -/
import Derived.Test.YtfcijloiebnloaaBs
import Derived.StillTailTactics
import Derived.Deep.RegionHeld3
import Derived.Deep.RegionLaw
namespace Go.Proofs.Ytfcijloiebnloaa
open Go.RowKit
set_option linter.unusedVariables false
set_option linter.unusedSimpArgs false

set_option maxHeartbeats 2000000 in
theorem adder_any (gs : List Gt) (a b c : Int) (v : Value) (lo bx : Nat) (w : World) (hB : Bld w lo bx gs v) (hn : gs.length ≤ 950000) :
    Calls Try.prog 71 #[.pointer (some ⟨bx, 0, none⟩), .int .i64 a, .int .i64 b, .int .i64 c] w fun e w' => e = .returned (.tuple #[.int .i64 ((gs.length : Int) + 2), .int .i64 ((gs.length : Int) + 4)]) ∧ Bld w' lo bx (fullG gs a b c) v ∧ Fr bx w w' ∧ Below lo w w' := by
  have HB := Lib.hid hB
  clear hB
  go_enter Try.func71, Try.ntmps71
  go_wp2_with fail
  obtain ⟨G1, e1⟩ : ∃ G, G = gs ++ [⟨3, a, c⟩] := ⟨_, rfl⟩
  have l1 : (G1.length : Int) = gs.length + 1 := by rw [e1]; simp <;> omega
  have hcc := bgate_any gs 3 a c v lo bx _ HB.out (by omega)
  rw [← e1] at hcc
  refine hcc.mono ?_
  clear hcc
  rintro e w1 ⟨rfl, hB1, hF1, hL1⟩
  have E1 := Lib.hid e1
  have B1 := Lib.hid hB1
  have hln1 : G1.length ≤ 950010 := by omega
  clear e1 hB1
  go_wp2_with fail
  obtain ⟨G2, e2⟩ : ∃ G, G = G1 ++ [⟨3, b, c⟩] := ⟨_, rfl⟩
  have l2 : (G2.length : Int) = gs.length + 2 := by rw [e2]; simp <;> omega
  have hcc := bgate_any G1 3 b c v lo bx _ B1.out (by omega)
  rw [← e2, l1] at hcc
  refine hcc.mono ?_
  clear hcc
  rintro e w2 ⟨rfl, hB2, hF2, hL2⟩
  have E2 := Lib.hid e2
  have B2 := Lib.hid hB2
  have hln2 : G2.length ≤ 950010 := by omega
  clear e2 hB2
  go_wp2_with fail
  obtain ⟨G3, e3⟩ : ∃ G, G = G2 ++ [⟨3, a, ((gs.length : Int) + 1)⟩] := ⟨_, rfl⟩
  have l3 : (G3.length : Int) = gs.length + 3 := by rw [e3]; simp <;> omega
  have hcc := bgate_any G2 3 a ((gs.length : Int) + 1) v lo bx _ B2.out (by omega)
  rw [← e3, l2] at hcc
  refine hcc.mono ?_
  clear hcc
  rintro e w3 ⟨rfl, hB3, hF3, hL3⟩
  have E3 := Lib.hid e3
  have B3 := Lib.hid hB3
  have hln3 : G3.length ≤ 950010 := by omega
  clear e3 hB3
  go_wp2_with fail
  obtain ⟨G4, e4⟩ : ∃ G, G = G3 ++ [⟨4, gs.length, ((gs.length : Int) + 1)⟩] := ⟨_, rfl⟩
  have l4 : (G4.length : Int) = gs.length + 4 := by rw [e4]; simp <;> omega
  have hcc := bgate_any G3 4 gs.length ((gs.length : Int) + 1) v lo bx _ B3.out (by omega)
  rw [← e4, l3] at hcc
  refine hcc.mono ?_
  clear hcc
  rintro e w4 ⟨rfl, hB4, hF4, hL4⟩
  have E4 := Lib.hid e4
  have B4 := Lib.hid hB4
  have hln4 : G4.length ≤ 950010 := by omega
  clear e4 hB4
  go_wp2_with fail
  obtain ⟨G5, e5⟩ : ∃ G, G = G4 ++ [⟨3, ((gs.length : Int) + 3), c⟩] := ⟨_, rfl⟩
  have l5 : (G5.length : Int) = gs.length + 5 := by rw [e5]; simp <;> omega
  have hcc := bgate_any G4 3 ((gs.length : Int) + 3) c v lo bx _ B4.out (by omega)
  rw [← e5, l4] at hcc
  refine hcc.mono ?_
  clear hcc
  rintro e w5 ⟨rfl, hB5, hF5, hL5⟩
  have E5 := Lib.hid e5
  have B5 := Lib.hid hB5
  have hln5 : G5.length ≤ 950010 := by omega
  clear e5 hB5
  go_wp2_with fail
  go_ret2
  refine ⟨rfl, ?_, (((hF1.trans hF2).trans hF3).trans hF4).trans hF5, (((hL1.trans hL2).trans hL3).trans hL4).trans hL5⟩
  have e : fullG gs a b c = G5 := by rw [E5.out, E4.out, E3.out, E2.out, E1.out]; simp [fullG]
  rw [e]; exact B5.out
set_option maxRecDepth 20000 in
set_option maxHeartbeats 4000000 in
theorem nots_any (gs : List Gt)  (v : Value) (lo bx : Nat) (w : World) (hB : Bld w lo bx gs v) (hn : gs.length ≤ 900000) (xs : List Int) (ax : Option Addr) (cx : Nat) (hlx : xs.length = 4) (hrx : RdC w ax (I64 xs)) (hfx : FrA w bx ax) :
    Calls Try.prog 70 #[.pointer (some ⟨bx, 0, none⟩), .slice ax 4 cx] w fun e w' => ∃ g c', e = .returned (.slice (some ⟨g, 0, none⟩) 4 c') ∧ Bs w w' lo bx (notsP xs gs).1 v g 4 c' (notsP xs gs).2 := by
  have HB := Lib.hid hB
  have hBl := hB.le
  have HRx := Lib.hid hrx
  have HFx := Lib.hid hfx
  have HLx := Lib.hid hlx
  clear hB hrx hfx hlx
  obtain ⟨W, hW⟩ : ∃ W, W = w.alloc (.cells #[] 3) := ⟨_, rfl⟩
  have HS0 := Lib.hid (show Bs w W lo bx gs v w.heap.size 0 0 [] by rw [hW]; exact Bs.start HB.out)
  go_enter Try.func70, Try.ntmps70
  go_wp2_with fail
  rw [← hW]
  clear hW
  go_loopw [5, 11] (fun u i wr => ∃ (k ct gt : Nat) (G : List Gt) (T : List Int), k ≤ 4 ∧ i = .int .i64 k ∧ u = .slice (some ⟨gt, 0, none⟩) k ct ∧ rnds (fun h k => put1 h ⟨5, at0 xs k, 0⟩) gs k = (G, T) ∧ Bs w wr lo bx G v gt k ct T) (fun _ i _ => 4 - (intOf i).toNat)
  case atStart => exact ⟨0, 0, _, _, _, Nat.zero_le _, rfl, rfl, rfl, HS0.out⟩
  case round =>
    obtain ⟨k, ct, gt, G, T, hk, rfl, rfl, hsp, hbs⟩ := hrel
    have hGl := rnds_le (f := fun h k => put1 h ⟨5, at0 xs k, 0⟩) (m := 1) (by intro h k; simp [put1]) gs k
    rw [hsp] at hGl
    simp only at hGl
    have HSP := Lib.hid hsp
    have HBS := Lib.hid hbs
    have zr := hbs.l.size
    have gtl := hbs.ge
    clear hsp hbs
    by_cases hlt : k < 4
    · have hk' : (k : Int) < 4 := by omega
      have HST := Lib.hid (rnds_succ (fun h k => put1 h ⟨5, at0 xs k, 0⟩) gs k HSP.out)
      obtain ⟨blx, offx, rfl, hbx, hcx⟩ := HRx.out.elem k (by rw [HLx.out]; exact hlt)
      obtain ⟨vx, hvx⟩ : ∃ z, z = at0 xs (k : Int) := ⟨_, rfl⟩
      rw [← hvx] at hcx
      have HVx := Lib.hid hvx
      have HCx := Lib.hid hcx
      have hcx0 := HBS.out.cell (HFx.out _ _ rfl) HCx.out
      clear hvx hcx
      go_wp2_with fail
      refine (bgate_any G 5 vx 0 v lo bx _ (HBS.out).b (by first | omega | (simp; omega))).mono ?_
      rintro e w2 ⟨rfl, hB2, hF2, hL2⟩
      obtain ⟨G1, e1⟩ : ∃ X, X = G ++ [⟨5, vx, 0⟩] := ⟨_, rfl⟩
      rw [← e1] at hB2
      have l1 : G1.length = G.length + 1 := by rw [e1]; simp
      have E1 := Lib.hid e1
      have S1 := Lib.hid ((HBS.out).on hB2 hF2 hL2)
      have z1 : wr.heap.size ≤ w2.heap.size := hL2.size
      have L1 := Lib.hid l1
      have n1 : G1.length ≤ 900000 + 100 + 0 := by omega
      clear e1 hB2 hF2 hL2 l1
      go_wp2_with (refine wpList_push _ rfl (.tmp 15) (.tmp 19) rfl w.heap.size gt k ct T (G.length : Int) w2.heap.size 1 (by rfl) (by rfl) (S1.out.o.alloc _) (by go_simp) (by omega) (by simp; omega) ?_; intro g6 d6 w9 ho6 hb6 hg6 hat6)
      have HN : Hid (rnds (fun h k => put1 h ⟨5, at0 xs k, 0⟩) gs (k + 1) = (G1, T ++ [(G.length : Int)])) := by show _ = _; rw [HST.out, E1.out, HVx.out]; simp [put1]
      have HP := Lib.hid (S1.out.push _ ho6 hb6 hg6 hat6)
      clear ho6 hb6 hg6 hat6
      go_wp2_with fail
      go_roundw
      case rel => exact ⟨k + 1, d6, g6, _, _, by omega, by go_num, rfl, HN.out, HP.out⟩
      case measure => first | (simp [intOf]; done) | (simp [intOf]; omega)
    · obtain rfl : k = 4 := by omega
      go_wp2_with fail
      go_ret
      exact ⟨gt, ct, rfl, by have h := HSP.out; have hp : (notsP xs gs) = (G, T) := h; rw [hp]; exact HBS.out⟩
end Go.Proofs.Ytfcijloiebnloaa
