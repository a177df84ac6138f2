/- Sums of words. -/
import Derived.Test.YtfcijloiebnloaaBldA
import Derived.Test.YtfcijloiebnloaaCopyC
import Derived.StillTailTactics
import Derived.Deep.RegionHeld3
import Derived.Deep.RegionLaw
namespace Go.Proofs.Ytfcijloiebnloaa
open Go.RowKit
set_option linter.unusedVariables false
set_option linter.unusedSimpArgs false

set_option maxRecDepth 20000 in
set_option maxHeartbeats 8000000 in
theorem bsum0 (gs : List Gt) (first : Int) (v : Value) (lo bx : Nat) (w : World) (hB : Bld w lo bx gs v) (hn : gs.length ≤ 900000) (xs : List Int) (ax : Option Addr) (cx : Nat) (hlx : xs.length = 4) (hrx : RdC w ax (I64 xs)) (hfx : FrA w bx ax) (ys : List Int) (ay : Option Addr) (cy : Nat) (hly : ys.length = 4) (hry : RdC w ay (I64 ys)) (hfy : FrA w bx ay) (hcx : 4 ≤ cx) :
    Calls Try.prog 68 #[.pointer (some ⟨bx, 0, none⟩), .slice ax 4 cx, .slice ay 4 cy, .int .i64 first, .int .i64 0] w fun e w' => ∃ g c', e = .returned (.slice (some ⟨g, 0, none⟩) 4 c') ∧ Bs w w' lo bx (sumP (xs.drop 0) (ys.drop 0) first 3 gs).1 v g 4 c' (xs.take 0 ++ (sumP (xs.drop 0) (ys.drop 0) first 3 gs).2) := by
  have HB := Lib.hid hB
  have hBl := hB.le
  have HRx := Lib.hid hrx
  have HFx := Lib.hid hfx
  have HLx := Lib.hid hlx
  have HRy := Lib.hid hry
  have HFy := Lib.hid hfy
  have HLy := Lib.hid hly
  clear hB hrx hfx hlx hry hfy hly
  have HLT : Hid ((xs.take 0).length = 0) := by show _ = _; rw [List.length_take, HLx.out]; rfl
  go_enter Try.func68, Try.ntmps68
  go_wp2_with fail
  have hcc := ints_any (xs.take 0) ax cx w (by rw [HLT.out]; omega) (HRx.out.take 0)
  rw [HLT.out] at hcc
  refine hcc.mono ?_
  clear hcc
  rintro e W ⟨gW, cW, rfl, hoW, hgW, hgW2, hbW⟩
  have HS0 := Lib.hid (Bs.mk_list HB.out hbW hoW)
  have zW := hbW.size
  clear hoW hbW
  go_wp2_with fail
  refine (bgate_any gs 2 first 0 v lo bx _ HS0.out.b (by omega)).mono ?_
  rintro e w1 ⟨rfl, hB1, hF1, hL1⟩
  have HS1 := Lib.hid (HS0.out.on hB1 hF1 hL1)
  have z1 : W.heap.size ≤ w1.heap.size := hL1.size
  obtain ⟨G0, hG0⟩ : ∃ G, G = gs ++ [⟨2, first, 0⟩] := ⟨_, rfl⟩
  rw [← hG0] at HS1
  have HG0 := Lib.hid hG0
  have lG0 : G0.length ≤ 900001 := by rw [hG0]; simp; omega
  clear hB1 hF1 hL1 hG0
  go_wp2_with fail
  go_loopw [11, 12, 13] (fun u c i wr => ∃ (j ct gt : Nat) (G : List Gt) (T : List Int) (cw : Int), 0 ≤ j ∧ j ≤ 3 ∧ i = .int .i64 (j : Int) ∧ u = .slice (some ⟨gt, 0, none⟩) (j) ct ∧ c = .int .i64 cw ∧ fullsP (xs.drop 0) (ys.drop 0) gs.length G0 (j - 0) = (G, cw, T) ∧ Bs w wr lo bx G v gt (j) ct (xs.take 0 ++ T)) (fun _ _ i _ => (3 - intOf i).toNat)
  case atStart => exact ⟨0, _, _, _, _, _, by omega, by omega, rfl, rfl, rfl, rfl, by rw [List.append_nil]; exact HS1.out⟩
  case round =>
    clear z1 zW
    obtain ⟨j, ct, gt, G, T, cw, hj0, hj1, rfl, rfl, rfl, hsp, hbs⟩ := hrel
    have hGl := fullsP_le (xs.drop 0) (ys.drop 0) gs.length G0 (j - 0)
    rw [hsp] at hGl
    simp only at hGl
    have HGL := Lib.hid hGl
    have hGl2 : G.length ≤ 900030 := by omega
    have HSP := Lib.hid hsp
    have HBS := Lib.hid hbs
    have zr := hbs.l.size
    have zr2 : w.heap.size ≤ wr.heap.size := hbs.l.size
    have gtl := hbs.ge
    clear hsp hbs hGl
    by_cases hlt : j < 3
    · have hk' : (j : Int) < 3 := by omega
      have hk4 : (j : Int) < 4 := by omega
      have HST := Lib.hid (fullsP_succ (xs.drop 0) (ys.drop 0) gs.length G0 (j - 0) HSP.out)
      obtain ⟨blx, offx, rfl, hbx, hcx⟩ := HRx.out.elem j (by rw [HLx.out]; omega)
      obtain ⟨vx, hvx⟩ : ∃ z, z = at0 xs (j : Int) := ⟨_, rfl⟩
      rw [← hvx] at hcx
      have HVx := Lib.hid (show at0 (xs.drop 0) ((j - 0 : Nat) : Int) = vx from (by rw [at0_drop0, show 0 + (j - 0) = j by omega]; exact hvx.symm))
      have HCx := Lib.hid hcx
      have hcx0 := HBS.out.cell (HFx.out _ _ rfl) HCx.out
      clear hvx hcx
      obtain ⟨bly, offy, rfl, hby, hcy⟩ := HRy.out.elem j (by rw [HLy.out]; omega)
      obtain ⟨vy, hvy⟩ : ∃ z, z = at0 ys (j : Int) := ⟨_, rfl⟩
      rw [← hvy] at hcy
      have HVy := Lib.hid (show at0 (ys.drop 0) ((j - 0 : Nat) : Int) = vy from (by rw [at0_drop0, show 0 + (j - 0) = j by omega]; exact hvy.symm))
      have HCy := Lib.hid hcy
      have hcy0 := HBS.out.cell (HFy.out _ _ rfl) HCy.out
      clear hvy hcy
      go_wp2_with fail
      go_region_held3 (fun w' => w'.cell? ⟨blx, offx + j, none⟩ = some (.int .i64 vx) ∧ w'.cell? ⟨bly, offy + j, none⟩ = some (.int .i64 vy)) (first | go_keep) ((go_at_call 71; refine (adder_any G vx vy cw v lo bx _ (HBS.out.drew).b (by omega)).mono ?_; rintro e w2 ⟨rfl, hB2, hF2, hL2⟩; have S1 := Lib.hid ((HBS.out.drew).on hB2 hF2 hL2); have z2 : wr.heap.size ≤ w2.heap.size := hL2.size; have hcx1 := S1.out.cell (HFx.out _ _ rfl) HCx.out; have hcy1 := S1.out.cell (HFy.out _ _ rfl) HCy.out; clear hB2 hF2 hL2))
      go_wp2_with (refine wpList_push _ rfl (.tmp 43) (.tmp 45) rfl w.heap.size gt (j) ct (xs.take 0 ++ T) ((G.length : Int) + 2) w2.heap.size 1 (by rfl) (by rfl) (S1.out.o.alloc _) (by go_simp) (by omega) (by simp; omega) ?_; intro g6 d6 w9 ho6 hb6 hg6 hat6)
      have HP := Lib.hid (S1.out.push _ ho6 hb6 hg6 hat6)
      clear ho6 hb6 hg6 hat6
      have HN : Hid (fullsP (xs.drop 0) (ys.drop 0) gs.length G0 (j + 1 - 0) = (fullG G vx vy cw, (G.length : Int) + 4, T ++ [(G.length : Int) + 2])) := by show _ = _; rw [show j + 1 - 0 = j - 0 + 1 by omega, HST.out, HVx.out, HVy.out]
      go_wp2_with fail
      go_roundw
      case rel => exact ⟨j + 1, d6, g6, _, _, _, by omega, by omega, by go_num, rfl, rfl, HN.out, by rw [← List.append_assoc]; exact HP.out⟩
      case measure => first | (simp [intOf]; done) | (simp [intOf]; omega)
    · obtain rfl : j = 3 := by omega
      have HP2 : Hid (sumP (xs.drop 0) (ys.drop 0) first 3 gs = (G ++ [⟨3, at0 (xs.drop 0) 3, at0 (ys.drop 0) 3⟩, ⟨3, (G.length : Int), cw⟩], T ++ [(G.length : Int) + 1])) := by show _ = _; unfold sumP; rw [← HG0.out, HSP.out]; rfl
      obtain ⟨blx, offx, rfl, hbx, hcx⟩ := HRx.out.elem 3 (by rw [HLx.out]; omega)
      obtain ⟨vx, hvx⟩ : ∃ z, z = at0 xs ((3 : Nat) : Int) := ⟨_, rfl⟩
      rw [← hvx] at hcx
      have HVx := Lib.hid (show at0 (xs.drop 0) ((3 : Nat) : Int) = vx from (by rw [List.drop_zero]; exact hvx.symm))
      have hcx0 := HBS.out.cell (HFx.out _ _ rfl) hcx
      clear hvx hcx
      obtain ⟨bly, offy, rfl, hby, hcy⟩ := HRy.out.elem 3 (by rw [HLy.out]; omega)
      obtain ⟨vy, hvy⟩ : ∃ z, z = at0 ys ((3 : Nat) : Int) := ⟨_, rfl⟩
      rw [← hvy] at hcy
      have HVy := Lib.hid (show at0 (ys.drop 0) ((3 : Nat) : Int) = vy from (by rw [List.drop_zero]; exact hvy.symm))
      have hcy0 := HBS.out.cell (HFy.out _ _ rfl) hcy
      clear hvy hcy
      go_wp2_with fail
      go_still_tail 7, (by kernel_rfl)
      change wpList _ _ _ _ _ (World.drew _)
      go_wp2_with fail
      refine (bgate_any G 3 vx vy v lo bx _ (HBS.out.drew).b (by omega)).mono ?_
      rintro e w2 ⟨rfl, hB2, hF2, hL2⟩
      have S1 := Lib.hid ((HBS.out.drew).on hB2 hF2 hL2)
      have z2 : wr.heap.size ≤ w2.heap.size := hL2.size
      obtain ⟨G1, hG1⟩ : ∃ X, X = G ++ [⟨3, vx, vy⟩] := ⟨_, rfl⟩
      rw [← hG1] at S1
      have HG1 := Lib.hid hG1
      have HL1 := Lib.hid (show G1.length = G.length + 1 by rw [hG1]; simp)
      have n1 : G1.length ≤ 900040 := by rw [hG1]; simp; omega
      clear hB2 hF2 hL2 hG1
      go_wp2_with fail
      refine (bgate_any G1 3 (G.length : Int) cw v lo bx _ S1.out.b (by omega)).mono ?_
      rintro e w3 ⟨rfl, hB3, hF3, hL3⟩
      have S2 := Lib.hid (S1.out.on hB3 hF3 hL3)
      have z3 : w2.heap.size ≤ w3.heap.size := hL3.size
      clear hB3 hF3 hL3
      rw [show (G1.length : Int) = (G.length : Int) + 1 by have := HL1.out; omega]
      go_wp2_with (refine wpList_push _ rfl (.tmp 56) (.tmp 61) rfl w.heap.size gt 3 ct (xs.take 0 ++ T) ((G.length : Int) + 1) w3.heap.size 1 (by rfl) (by rfl) (S2.out.o.alloc _) (by go_simp) (by omega) (by simp; omega) ?_; intro g6 d6 w9 ho6 hb6 hg6 hat6)
      have HP := Lib.hid (S2.out.push _ ho6 hb6 hg6 hat6)
      clear ho6 hb6 hg6 hat6
      go_wp2_with fail
      go_ret
      refine ⟨g6, d6, rfl, ?_⟩
      rw [HP2.out]
      have e2 : G ++ [⟨3, at0 (xs.drop 0) 3, at0 (ys.drop 0) 3⟩, ⟨3, (G.length : Int), cw⟩] = G1 ++ [⟨3, (G.length : Int), cw⟩] := by
        rw [HG1.out, ← HVx.out, ← HVy.out]; simp
      simp only
      rw [e2]
      rw [← List.append_assoc]; exact HP.out
set_option maxRecDepth 20000 in
set_option maxHeartbeats 8000000 in
theorem bsum1 (gs : List Gt) (first : Int) (v : Value) (lo bx : Nat) (w : World) (hB : Bld w lo bx gs v) (hn : gs.length ≤ 900000) (xs : List Int) (ax : Option Addr) (cx : Nat) (hlx : xs.length = 4) (hrx : RdC w ax (I64 xs)) (hfx : FrA w bx ax) (ys : List Int) (ay : Option Addr) (cy : Nat) (hly : ys.length = 4) (hry : RdC w ay (I64 ys)) (hfy : FrA w bx ay) (hcx : 4 ≤ cx) :
    Calls Try.prog 68 #[.pointer (some ⟨bx, 0, none⟩), .slice ax 4 cx, .slice ay 4 cy, .int .i64 first, .int .i64 1] w fun e w' => ∃ g c', e = .returned (.slice (some ⟨g, 0, none⟩) 4 c') ∧ Bs w w' lo bx (sumP (xs.drop 1) (ys.drop 1) first 2 gs).1 v g 4 c' (xs.take 1 ++ (sumP (xs.drop 1) (ys.drop 1) first 2 gs).2) := by
  have HB := Lib.hid hB
  have hBl := hB.le
  have HRx := Lib.hid hrx
  have HFx := Lib.hid hfx
  have HLx := Lib.hid hlx
  have HRy := Lib.hid hry
  have HFy := Lib.hid hfy
  have HLy := Lib.hid hly
  clear hB hrx hfx hlx hry hfy hly
  have HLT : Hid ((xs.take 1).length = 1) := by show _ = _; rw [List.length_take, HLx.out]; rfl
  go_enter Try.func68, Try.ntmps68
  go_wp2_with fail
  have hcc := ints_any (xs.take 1) ax cx w (by rw [HLT.out]; omega) (HRx.out.take 1)
  rw [HLT.out] at hcc
  refine hcc.mono ?_
  clear hcc
  rintro e W ⟨gW, cW, rfl, hoW, hgW, hgW2, hbW⟩
  have HS0 := Lib.hid (Bs.mk_list HB.out hbW hoW)
  have zW := hbW.size
  clear hoW hbW
  go_wp2_with fail
  refine (bgate_any gs 2 first 0 v lo bx _ HS0.out.b (by omega)).mono ?_
  rintro e w1 ⟨rfl, hB1, hF1, hL1⟩
  have HS1 := Lib.hid (HS0.out.on hB1 hF1 hL1)
  have z1 : W.heap.size ≤ w1.heap.size := hL1.size
  obtain ⟨G0, hG0⟩ : ∃ G, G = gs ++ [⟨2, first, 0⟩] := ⟨_, rfl⟩
  rw [← hG0] at HS1
  have HG0 := Lib.hid hG0
  have lG0 : G0.length ≤ 900001 := by rw [hG0]; simp; omega
  clear hB1 hF1 hL1 hG0
  go_wp2_with fail
  go_loopw [11, 12, 13] (fun u c i wr => ∃ (j ct gt : Nat) (G : List Gt) (T : List Int) (cw : Int), 1 ≤ j ∧ j ≤ 3 ∧ i = .int .i64 (j : Int) ∧ u = .slice (some ⟨gt, 0, none⟩) (j) ct ∧ c = .int .i64 cw ∧ fullsP (xs.drop 1) (ys.drop 1) gs.length G0 (j - 1) = (G, cw, T) ∧ Bs w wr lo bx G v gt (j) ct (xs.take 1 ++ T)) (fun _ _ i _ => (3 - intOf i).toNat)
  case atStart => exact ⟨1, _, _, _, _, _, by omega, by omega, rfl, rfl, rfl, rfl, by rw [List.append_nil]; exact HS1.out⟩
  case round =>
    clear z1 zW
    obtain ⟨j, ct, gt, G, T, cw, hj0, hj1, rfl, rfl, rfl, hsp, hbs⟩ := hrel
    have hGl := fullsP_le (xs.drop 1) (ys.drop 1) gs.length G0 (j - 1)
    rw [hsp] at hGl
    simp only at hGl
    have HGL := Lib.hid hGl
    have hGl2 : G.length ≤ 900030 := by omega
    have HSP := Lib.hid hsp
    have HBS := Lib.hid hbs
    have zr := hbs.l.size
    have zr2 : w.heap.size ≤ wr.heap.size := hbs.l.size
    have gtl := hbs.ge
    clear hsp hbs hGl
    by_cases hlt : j < 3
    · have hk' : (j : Int) < 3 := by omega
      have hk4 : (j : Int) < 4 := by omega
      have HST := Lib.hid (fullsP_succ (xs.drop 1) (ys.drop 1) gs.length G0 (j - 1) HSP.out)
      obtain ⟨blx, offx, rfl, hbx, hcx⟩ := HRx.out.elem j (by rw [HLx.out]; omega)
      obtain ⟨vx, hvx⟩ : ∃ z, z = at0 xs (j : Int) := ⟨_, rfl⟩
      rw [← hvx] at hcx
      have HVx := Lib.hid (show at0 (xs.drop 1) ((j - 1 : Nat) : Int) = vx from (by rw [at0_drop0, show 1 + (j - 1) = j by omega]; exact hvx.symm))
      have HCx := Lib.hid hcx
      have hcx0 := HBS.out.cell (HFx.out _ _ rfl) HCx.out
      clear hvx hcx
      obtain ⟨bly, offy, rfl, hby, hcy⟩ := HRy.out.elem j (by rw [HLy.out]; omega)
      obtain ⟨vy, hvy⟩ : ∃ z, z = at0 ys (j : Int) := ⟨_, rfl⟩
      rw [← hvy] at hcy
      have HVy := Lib.hid (show at0 (ys.drop 1) ((j - 1 : Nat) : Int) = vy from (by rw [at0_drop0, show 1 + (j - 1) = j by omega]; exact hvy.symm))
      have HCy := Lib.hid hcy
      have hcy0 := HBS.out.cell (HFy.out _ _ rfl) HCy.out
      clear hvy hcy
      go_wp2_with fail
      go_region_held3 (fun w' => w'.cell? ⟨blx, offx + j, none⟩ = some (.int .i64 vx) ∧ w'.cell? ⟨bly, offy + j, none⟩ = some (.int .i64 vy)) (first | go_keep) ((go_at_call 71; refine (adder_any G vx vy cw v lo bx _ (HBS.out.drew).b (by omega)).mono ?_; rintro e w2 ⟨rfl, hB2, hF2, hL2⟩; have S1 := Lib.hid ((HBS.out.drew).on hB2 hF2 hL2); have z2 : wr.heap.size ≤ w2.heap.size := hL2.size; have hcx1 := S1.out.cell (HFx.out _ _ rfl) HCx.out; have hcy1 := S1.out.cell (HFy.out _ _ rfl) HCy.out; clear hB2 hF2 hL2))
      go_wp2_with (refine wpList_push _ rfl (.tmp 43) (.tmp 45) rfl w.heap.size gt (j) ct (xs.take 1 ++ T) ((G.length : Int) + 2) w2.heap.size 1 (by rfl) (by rfl) (S1.out.o.alloc _) (by go_simp) (by omega) (by simp; omega) ?_; intro g6 d6 w9 ho6 hb6 hg6 hat6)
      have HP := Lib.hid (S1.out.push _ ho6 hb6 hg6 hat6)
      clear ho6 hb6 hg6 hat6
      have HN : Hid (fullsP (xs.drop 1) (ys.drop 1) gs.length G0 (j + 1 - 1) = (fullG G vx vy cw, (G.length : Int) + 4, T ++ [(G.length : Int) + 2])) := by show _ = _; rw [show j + 1 - 1 = j - 1 + 1 by omega, HST.out, HVx.out, HVy.out]
      go_wp2_with fail
      go_roundw
      case rel => exact ⟨j + 1, d6, g6, _, _, _, by omega, by omega, by go_num, rfl, rfl, HN.out, by rw [← List.append_assoc]; exact HP.out⟩
      case measure => first | (simp [intOf]; done) | (simp [intOf]; omega)
    · obtain rfl : j = 3 := by omega
      have HP2 : Hid (sumP (xs.drop 1) (ys.drop 1) first 2 gs = (G ++ [⟨3, at0 (xs.drop 1) 2, at0 (ys.drop 1) 2⟩, ⟨3, (G.length : Int), cw⟩], T ++ [(G.length : Int) + 1])) := by show _ = _; unfold sumP; rw [← HG0.out, HSP.out]; rfl
      obtain ⟨blx, offx, rfl, hbx, hcx⟩ := HRx.out.elem 3 (by rw [HLx.out]; omega)
      obtain ⟨vx, hvx⟩ : ∃ z, z = at0 xs ((3 : Nat) : Int) := ⟨_, rfl⟩
      rw [← hvx] at hcx
      have HVx := Lib.hid (show at0 (xs.drop 1) ((2 : Nat) : Int) = vx from (at0_drop0 _ _ _).trans hvx.symm)
      have hcx0 := HBS.out.cell (HFx.out _ _ rfl) hcx
      clear hvx hcx
      obtain ⟨bly, offy, rfl, hby, hcy⟩ := HRy.out.elem 3 (by rw [HLy.out]; omega)
      obtain ⟨vy, hvy⟩ : ∃ z, z = at0 ys ((3 : Nat) : Int) := ⟨_, rfl⟩
      rw [← hvy] at hcy
      have HVy := Lib.hid (show at0 (ys.drop 1) ((2 : Nat) : Int) = vy from (at0_drop0 _ _ _).trans hvy.symm)
      have hcy0 := HBS.out.cell (HFy.out _ _ rfl) hcy
      clear hvy hcy
      go_wp2_with fail
      go_still_tail 7, (by kernel_rfl)
      change wpList _ _ _ _ _ (World.drew _)
      go_wp2_with fail
      refine (bgate_any G 3 vx vy v lo bx _ (HBS.out.drew).b (by omega)).mono ?_
      rintro e w2 ⟨rfl, hB2, hF2, hL2⟩
      have S1 := Lib.hid ((HBS.out.drew).on hB2 hF2 hL2)
      have z2 : wr.heap.size ≤ w2.heap.size := hL2.size
      obtain ⟨G1, hG1⟩ : ∃ X, X = G ++ [⟨3, vx, vy⟩] := ⟨_, rfl⟩
      rw [← hG1] at S1
      have HG1 := Lib.hid hG1
      have HL1 := Lib.hid (show G1.length = G.length + 1 by rw [hG1]; simp)
      have n1 : G1.length ≤ 900040 := by rw [hG1]; simp; omega
      clear hB2 hF2 hL2 hG1
      go_wp2_with fail
      refine (bgate_any G1 3 (G.length : Int) cw v lo bx _ S1.out.b (by omega)).mono ?_
      rintro e w3 ⟨rfl, hB3, hF3, hL3⟩
      have S2 := Lib.hid (S1.out.on hB3 hF3 hL3)
      have z3 : w2.heap.size ≤ w3.heap.size := hL3.size
      clear hB3 hF3 hL3
      rw [show (G1.length : Int) = (G.length : Int) + 1 by have := HL1.out; omega]
      go_wp2_with (refine wpList_push _ rfl (.tmp 56) (.tmp 61) rfl w.heap.size gt 3 ct (xs.take 1 ++ T) ((G.length : Int) + 1) w3.heap.size 1 (by rfl) (by rfl) (S2.out.o.alloc _) (by go_simp) (by omega) (by simp; omega) ?_; intro g6 d6 w9 ho6 hb6 hg6 hat6)
      have HP := Lib.hid (S2.out.push _ ho6 hb6 hg6 hat6)
      clear ho6 hb6 hg6 hat6
      go_wp2_with fail
      go_ret
      refine ⟨g6, d6, rfl, ?_⟩
      rw [HP2.out]
      have e2 : G ++ [⟨3, at0 (xs.drop 1) 2, at0 (ys.drop 1) 2⟩, ⟨3, (G.length : Int), cw⟩] = G1 ++ [⟨3, (G.length : Int), cw⟩] := by
        rw [HG1.out, ← HVx.out, ← HVy.out]; simp
      simp only
      rw [e2]
      rw [← List.append_assoc]; exact HP.out
set_option maxRecDepth 20000 in
set_option maxHeartbeats 8000000 in
theorem bsum2 (gs : List Gt) (first : Int) (v : Value) (lo bx : Nat) (w : World) (hB : Bld w lo bx gs v) (hn : gs.length ≤ 900000) (xs : List Int) (ax : Option Addr) (cx : Nat) (hlx : xs.length = 4) (hrx : RdC w ax (I64 xs)) (hfx : FrA w bx ax) (ys : List Int) (ay : Option Addr) (cy : Nat) (hly : ys.length = 4) (hry : RdC w ay (I64 ys)) (hfy : FrA w bx ay) (hcx : 4 ≤ cx) :
    Calls Try.prog 68 #[.pointer (some ⟨bx, 0, none⟩), .slice ax 4 cx, .slice ay 4 cy, .int .i64 first, .int .i64 2] w fun e w' => ∃ g c', e = .returned (.slice (some ⟨g, 0, none⟩) 4 c') ∧ Bs w w' lo bx (sumP (xs.drop 2) (ys.drop 2) first 1 gs).1 v g 4 c' (xs.take 2 ++ (sumP (xs.drop 2) (ys.drop 2) first 1 gs).2) := by
  have HB := Lib.hid hB
  have hBl := hB.le
  have HRx := Lib.hid hrx
  have HFx := Lib.hid hfx
  have HLx := Lib.hid hlx
  have HRy := Lib.hid hry
  have HFy := Lib.hid hfy
  have HLy := Lib.hid hly
  clear hB hrx hfx hlx hry hfy hly
  have HLT : Hid ((xs.take 2).length = 2) := by show _ = _; rw [List.length_take, HLx.out]; rfl
  go_enter Try.func68, Try.ntmps68
  go_wp2_with fail
  have hcc := ints_any (xs.take 2) ax cx w (by rw [HLT.out]; omega) (HRx.out.take 2)
  rw [HLT.out] at hcc
  refine hcc.mono ?_
  clear hcc
  rintro e W ⟨gW, cW, rfl, hoW, hgW, hgW2, hbW⟩
  have HS0 := Lib.hid (Bs.mk_list HB.out hbW hoW)
  have zW := hbW.size
  clear hoW hbW
  go_wp2_with fail
  refine (bgate_any gs 2 first 0 v lo bx _ HS0.out.b (by omega)).mono ?_
  rintro e w1 ⟨rfl, hB1, hF1, hL1⟩
  have HS1 := Lib.hid (HS0.out.on hB1 hF1 hL1)
  have z1 : W.heap.size ≤ w1.heap.size := hL1.size
  obtain ⟨G0, hG0⟩ : ∃ G, G = gs ++ [⟨2, first, 0⟩] := ⟨_, rfl⟩
  rw [← hG0] at HS1
  have HG0 := Lib.hid hG0
  have lG0 : G0.length ≤ 900001 := by rw [hG0]; simp; omega
  clear hB1 hF1 hL1 hG0
  go_wp2_with fail
  go_loopw [11, 12, 13] (fun u c i wr => ∃ (j ct gt : Nat) (G : List Gt) (T : List Int) (cw : Int), 2 ≤ j ∧ j ≤ 3 ∧ i = .int .i64 (j : Int) ∧ u = .slice (some ⟨gt, 0, none⟩) (j) ct ∧ c = .int .i64 cw ∧ fullsP (xs.drop 2) (ys.drop 2) gs.length G0 (j - 2) = (G, cw, T) ∧ Bs w wr lo bx G v gt (j) ct (xs.take 2 ++ T)) (fun _ _ i _ => (3 - intOf i).toNat)
  case atStart => exact ⟨2, _, _, _, _, _, by omega, by omega, rfl, rfl, rfl, rfl, by rw [List.append_nil]; exact HS1.out⟩
  case round =>
    clear z1 zW
    obtain ⟨j, ct, gt, G, T, cw, hj0, hj1, rfl, rfl, rfl, hsp, hbs⟩ := hrel
    have hGl := fullsP_le (xs.drop 2) (ys.drop 2) gs.length G0 (j - 2)
    rw [hsp] at hGl
    simp only at hGl
    have HGL := Lib.hid hGl
    have hGl2 : G.length ≤ 900030 := by omega
    have HSP := Lib.hid hsp
    have HBS := Lib.hid hbs
    have zr := hbs.l.size
    have zr2 : w.heap.size ≤ wr.heap.size := hbs.l.size
    have gtl := hbs.ge
    clear hsp hbs hGl
    by_cases hlt : j < 3
    · have hk' : (j : Int) < 3 := by omega
      have hk4 : (j : Int) < 4 := by omega
      have HST := Lib.hid (fullsP_succ (xs.drop 2) (ys.drop 2) gs.length G0 (j - 2) HSP.out)
      obtain ⟨blx, offx, rfl, hbx, hcx⟩ := HRx.out.elem j (by rw [HLx.out]; omega)
      obtain ⟨vx, hvx⟩ : ∃ z, z = at0 xs (j : Int) := ⟨_, rfl⟩
      rw [← hvx] at hcx
      have HVx := Lib.hid (show at0 (xs.drop 2) ((j - 2 : Nat) : Int) = vx from (by rw [at0_drop0, show 2 + (j - 2) = j by omega]; exact hvx.symm))
      have HCx := Lib.hid hcx
      have hcx0 := HBS.out.cell (HFx.out _ _ rfl) HCx.out
      clear hvx hcx
      obtain ⟨bly, offy, rfl, hby, hcy⟩ := HRy.out.elem j (by rw [HLy.out]; omega)
      obtain ⟨vy, hvy⟩ : ∃ z, z = at0 ys (j : Int) := ⟨_, rfl⟩
      rw [← hvy] at hcy
      have HVy := Lib.hid (show at0 (ys.drop 2) ((j - 2 : Nat) : Int) = vy from (by rw [at0_drop0, show 2 + (j - 2) = j by omega]; exact hvy.symm))
      have HCy := Lib.hid hcy
      have hcy0 := HBS.out.cell (HFy.out _ _ rfl) HCy.out
      clear hvy hcy
      go_wp2_with fail
      go_region_held3 (fun w' => w'.cell? ⟨blx, offx + j, none⟩ = some (.int .i64 vx) ∧ w'.cell? ⟨bly, offy + j, none⟩ = some (.int .i64 vy)) (first | go_keep) ((go_at_call 71; refine (adder_any G vx vy cw v lo bx _ (HBS.out.drew).b (by omega)).mono ?_; rintro e w2 ⟨rfl, hB2, hF2, hL2⟩; have S1 := Lib.hid ((HBS.out.drew).on hB2 hF2 hL2); have z2 : wr.heap.size ≤ w2.heap.size := hL2.size; have hcx1 := S1.out.cell (HFx.out _ _ rfl) HCx.out; have hcy1 := S1.out.cell (HFy.out _ _ rfl) HCy.out; clear hB2 hF2 hL2))
      go_wp2_with (refine wpList_push _ rfl (.tmp 43) (.tmp 45) rfl w.heap.size gt (j) ct (xs.take 2 ++ T) ((G.length : Int) + 2) w2.heap.size 1 (by rfl) (by rfl) (S1.out.o.alloc _) (by go_simp) (by omega) (by simp; omega) ?_; intro g6 d6 w9 ho6 hb6 hg6 hat6)
      have HP := Lib.hid (S1.out.push _ ho6 hb6 hg6 hat6)
      clear ho6 hb6 hg6 hat6
      have HN : Hid (fullsP (xs.drop 2) (ys.drop 2) gs.length G0 (j + 1 - 2) = (fullG G vx vy cw, (G.length : Int) + 4, T ++ [(G.length : Int) + 2])) := by show _ = _; rw [show j + 1 - 2 = j - 2 + 1 by omega, HST.out, HVx.out, HVy.out]
      go_wp2_with fail
      go_roundw
      case rel => exact ⟨j + 1, d6, g6, _, _, _, by omega, by omega, by go_num, rfl, rfl, HN.out, by rw [← List.append_assoc]; exact HP.out⟩
      case measure => first | (simp [intOf]; done) | (simp [intOf]; omega)
    · obtain rfl : j = 3 := by omega
      have HP2 : Hid (sumP (xs.drop 2) (ys.drop 2) first 1 gs = (G ++ [⟨3, at0 (xs.drop 2) 1, at0 (ys.drop 2) 1⟩, ⟨3, (G.length : Int), cw⟩], T ++ [(G.length : Int) + 1])) := by show _ = _; unfold sumP; rw [← HG0.out, HSP.out]; rfl
      obtain ⟨blx, offx, rfl, hbx, hcx⟩ := HRx.out.elem 3 (by rw [HLx.out]; omega)
      obtain ⟨vx, hvx⟩ : ∃ z, z = at0 xs ((3 : Nat) : Int) := ⟨_, rfl⟩
      rw [← hvx] at hcx
      have HVx := Lib.hid (show at0 (xs.drop 2) ((1 : Nat) : Int) = vx from (at0_drop0 _ _ _).trans hvx.symm)
      have hcx0 := HBS.out.cell (HFx.out _ _ rfl) hcx
      clear hvx hcx
      obtain ⟨bly, offy, rfl, hby, hcy⟩ := HRy.out.elem 3 (by rw [HLy.out]; omega)
      obtain ⟨vy, hvy⟩ : ∃ z, z = at0 ys ((3 : Nat) : Int) := ⟨_, rfl⟩
      rw [← hvy] at hcy
      have HVy := Lib.hid (show at0 (ys.drop 2) ((1 : Nat) : Int) = vy from (at0_drop0 _ _ _).trans hvy.symm)
      have hcy0 := HBS.out.cell (HFy.out _ _ rfl) hcy
      clear hvy hcy
      go_wp2_with fail
      go_still_tail 7, (by kernel_rfl)
      change wpList _ _ _ _ _ (World.drew _)
      go_wp2_with fail
      refine (bgate_any G 3 vx vy v lo bx _ (HBS.out.drew).b (by omega)).mono ?_
      rintro e w2 ⟨rfl, hB2, hF2, hL2⟩
      have S1 := Lib.hid ((HBS.out.drew).on hB2 hF2 hL2)
      have z2 : wr.heap.size ≤ w2.heap.size := hL2.size
      obtain ⟨G1, hG1⟩ : ∃ X, X = G ++ [⟨3, vx, vy⟩] := ⟨_, rfl⟩
      rw [← hG1] at S1
      have HG1 := Lib.hid hG1
      have HL1 := Lib.hid (show G1.length = G.length + 1 by rw [hG1]; simp)
      have n1 : G1.length ≤ 900040 := by rw [hG1]; simp; omega
      clear hB2 hF2 hL2 hG1
      go_wp2_with fail
      refine (bgate_any G1 3 (G.length : Int) cw v lo bx _ S1.out.b (by omega)).mono ?_
      rintro e w3 ⟨rfl, hB3, hF3, hL3⟩
      have S2 := Lib.hid (S1.out.on hB3 hF3 hL3)
      have z3 : w2.heap.size ≤ w3.heap.size := hL3.size
      clear hB3 hF3 hL3
      rw [show (G1.length : Int) = (G.length : Int) + 1 by have := HL1.out; omega]
      go_wp2_with (refine wpList_push _ rfl (.tmp 56) (.tmp 61) rfl w.heap.size gt 3 ct (xs.take 2 ++ T) ((G.length : Int) + 1) w3.heap.size 1 (by rfl) (by rfl) (S2.out.o.alloc _) (by go_simp) (by omega) (by simp; omega) ?_; intro g6 d6 w9 ho6 hb6 hg6 hat6)
      have HP := Lib.hid (S2.out.push _ ho6 hb6 hg6 hat6)
      clear ho6 hb6 hg6 hat6
      go_wp2_with fail
      go_ret
      refine ⟨g6, d6, rfl, ?_⟩
      rw [HP2.out]
      have e2 : G ++ [⟨3, at0 (xs.drop 2) 1, at0 (ys.drop 2) 1⟩, ⟨3, (G.length : Int), cw⟩] = G1 ++ [⟨3, (G.length : Int), cw⟩] := by
        rw [HG1.out, ← HVx.out, ← HVy.out]; simp
      simp only
      rw [e2]
      rw [← List.append_assoc]; exact HP.out
set_option maxRecDepth 20000 in
set_option maxHeartbeats 8000000 in
theorem bsum3 (gs : List Gt) (first : Int) (v : Value) (lo bx : Nat) (w : World) (hB : Bld w lo bx gs v) (hn : gs.length ≤ 900000) (xs : List Int) (ax : Option Addr) (cx : Nat) (hlx : xs.length = 4) (hrx : RdC w ax (I64 xs)) (hfx : FrA w bx ax) (ys : List Int) (ay : Option Addr) (cy : Nat) (hly : ys.length = 4) (hry : RdC w ay (I64 ys)) (hfy : FrA w bx ay) (hcx : 4 ≤ cx) :
    Calls Try.prog 68 #[.pointer (some ⟨bx, 0, none⟩), .slice ax 4 cx, .slice ay 4 cy, .int .i64 first, .int .i64 3] w fun e w' => ∃ g c', e = .returned (.slice (some ⟨g, 0, none⟩) 4 c') ∧ Bs w w' lo bx (sumP (xs.drop 3) (ys.drop 3) first 0 gs).1 v g 4 c' (xs.take 3 ++ (sumP (xs.drop 3) (ys.drop 3) first 0 gs).2) := by
  have HB := Lib.hid hB
  have hBl := hB.le
  have HRx := Lib.hid hrx
  have HFx := Lib.hid hfx
  have HLx := Lib.hid hlx
  have HRy := Lib.hid hry
  have HFy := Lib.hid hfy
  have HLy := Lib.hid hly
  clear hB hrx hfx hlx hry hfy hly
  have HLT : Hid ((xs.take 3).length = 3) := by show _ = _; rw [List.length_take, HLx.out]; rfl
  go_enter Try.func68, Try.ntmps68
  go_wp2_with fail
  have hcc := ints_any (xs.take 3) ax cx w (by rw [HLT.out]; omega) (HRx.out.take 3)
  rw [HLT.out] at hcc
  refine hcc.mono ?_
  clear hcc
  rintro e W ⟨gW, cW, rfl, hoW, hgW, hgW2, hbW⟩
  have HS0 := Lib.hid (Bs.mk_list HB.out hbW hoW)
  have zW := hbW.size
  clear hoW hbW
  go_wp2_with fail
  refine (bgate_any gs 2 first 0 v lo bx _ HS0.out.b (by omega)).mono ?_
  rintro e w1 ⟨rfl, hB1, hF1, hL1⟩
  have HS1 := Lib.hid (HS0.out.on hB1 hF1 hL1)
  have z1 : W.heap.size ≤ w1.heap.size := hL1.size
  obtain ⟨G0, hG0⟩ : ∃ G, G = gs ++ [⟨2, first, 0⟩] := ⟨_, rfl⟩
  rw [← hG0] at HS1
  have HG0 := Lib.hid hG0
  have lG0 : G0.length ≤ 900001 := by rw [hG0]; simp; omega
  clear hB1 hF1 hL1 hG0
  go_wp2_with fail
  go_loopw [11, 12, 13] (fun u c i wr => ∃ (j ct gt : Nat) (G : List Gt) (T : List Int) (cw : Int), 3 ≤ j ∧ j ≤ 3 ∧ i = .int .i64 (j : Int) ∧ u = .slice (some ⟨gt, 0, none⟩) (j) ct ∧ c = .int .i64 cw ∧ fullsP (xs.drop 3) (ys.drop 3) gs.length G0 (j - 3) = (G, cw, T) ∧ Bs w wr lo bx G v gt (j) ct (xs.take 3 ++ T)) (fun _ _ i _ => (3 - intOf i).toNat)
  case atStart => exact ⟨3, _, _, _, _, _, by omega, by omega, rfl, rfl, rfl, rfl, by rw [List.append_nil]; exact HS1.out⟩
  case round =>
    clear z1 zW
    obtain ⟨j, ct, gt, G, T, cw, hj0, hj1, rfl, rfl, rfl, hsp, hbs⟩ := hrel
    have hGl := fullsP_le (xs.drop 3) (ys.drop 3) gs.length G0 (j - 3)
    rw [hsp] at hGl
    simp only at hGl
    have HGL := Lib.hid hGl
    have hGl2 : G.length ≤ 900030 := by omega
    have HSP := Lib.hid hsp
    have HBS := Lib.hid hbs
    have zr := hbs.l.size
    have zr2 : w.heap.size ≤ wr.heap.size := hbs.l.size
    have gtl := hbs.ge
    clear hsp hbs hGl
    by_cases hlt : j < 3
    · omega
    · obtain rfl : j = 3 := by omega
      have HP2 : Hid (sumP (xs.drop 3) (ys.drop 3) first 0 gs = (G ++ [⟨3, at0 (xs.drop 3) 0, at0 (ys.drop 3) 0⟩, ⟨3, (G.length : Int), cw⟩], T ++ [(G.length : Int) + 1])) := by show _ = _; unfold sumP; rw [← HG0.out, HSP.out]; rfl
      obtain ⟨blx, offx, rfl, hbx, hcx⟩ := HRx.out.elem 3 (by rw [HLx.out]; omega)
      obtain ⟨vx, hvx⟩ : ∃ z, z = at0 xs ((3 : Nat) : Int) := ⟨_, rfl⟩
      rw [← hvx] at hcx
      have HVx := Lib.hid (show at0 (xs.drop 3) ((0 : Nat) : Int) = vx from (at0_drop0 _ _ _).trans hvx.symm)
      have hcx0 := HBS.out.cell (HFx.out _ _ rfl) hcx
      clear hvx hcx
      obtain ⟨bly, offy, rfl, hby, hcy⟩ := HRy.out.elem 3 (by rw [HLy.out]; omega)
      obtain ⟨vy, hvy⟩ : ∃ z, z = at0 ys ((3 : Nat) : Int) := ⟨_, rfl⟩
      rw [← hvy] at hcy
      have HVy := Lib.hid (show at0 (ys.drop 3) ((0 : Nat) : Int) = vy from (at0_drop0 _ _ _).trans hvy.symm)
      have hcy0 := HBS.out.cell (HFy.out _ _ rfl) hcy
      clear hvy hcy
      go_wp2_with fail
      go_still_tail 7, (by kernel_rfl)
      change wpList _ _ _ _ _ (World.drew _)
      go_wp2_with fail
      refine (bgate_any G 3 vx vy v lo bx _ (HBS.out.drew).b (by omega)).mono ?_
      rintro e w2 ⟨rfl, hB2, hF2, hL2⟩
      have S1 := Lib.hid ((HBS.out.drew).on hB2 hF2 hL2)
      have z2 : wr.heap.size ≤ w2.heap.size := hL2.size
      obtain ⟨G1, hG1⟩ : ∃ X, X = G ++ [⟨3, vx, vy⟩] := ⟨_, rfl⟩
      rw [← hG1] at S1
      have HG1 := Lib.hid hG1
      have HL1 := Lib.hid (show G1.length = G.length + 1 by rw [hG1]; simp)
      have n1 : G1.length ≤ 900040 := by rw [hG1]; simp; omega
      clear hB2 hF2 hL2 hG1
      go_wp2_with fail
      refine (bgate_any G1 3 (G.length : Int) cw v lo bx _ S1.out.b (by omega)).mono ?_
      rintro e w3 ⟨rfl, hB3, hF3, hL3⟩
      have S2 := Lib.hid (S1.out.on hB3 hF3 hL3)
      have z3 : w2.heap.size ≤ w3.heap.size := hL3.size
      clear hB3 hF3 hL3
      rw [show (G1.length : Int) = (G.length : Int) + 1 by have := HL1.out; omega]
      go_wp2_with (refine wpList_push _ rfl (.tmp 56) (.tmp 61) rfl w.heap.size gt 3 ct (xs.take 3 ++ T) ((G.length : Int) + 1) w3.heap.size 1 (by rfl) (by rfl) (S2.out.o.alloc _) (by go_simp) (by omega) (by simp; omega) ?_; intro g6 d6 w9 ho6 hb6 hg6 hat6)
      have HP := Lib.hid (S2.out.push _ ho6 hb6 hg6 hat6)
      clear ho6 hb6 hg6 hat6
      go_wp2_with fail
      go_ret
      refine ⟨g6, d6, rfl, ?_⟩
      rw [HP2.out]
      have e2 : G ++ [⟨3, at0 (xs.drop 3) 0, at0 (ys.drop 3) 0⟩, ⟨3, (G.length : Int), cw⟩] = G1 ++ [⟨3, (G.length : Int), cw⟩] := by
        rw [HG1.out, ← HVx.out, ← HVy.out]; simp
      simp only
      rw [e2]
      rw [← List.append_assoc]; exact HP.out
end Go.Proofs.Ytfcijloiebnloaa
