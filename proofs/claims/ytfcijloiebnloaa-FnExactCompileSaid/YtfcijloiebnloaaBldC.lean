/- Less, equal. -/
import Derived.Test.YtfcijloiebnloaaBldA
import Derived.StillTailTactics
import Derived.Deep.RegionHeld3
import Derived.Deep.RegionLaw
namespace Go.Proofs.Ytfcijloiebnloaa
open Go.RowKit
set_option linter.unusedVariables false
set_option linter.unusedSimpArgs false

set_option maxRecDepth 20000 in
set_option maxHeartbeats 8000000 in
theorem l14Less_any (gs : List Gt) (v : Value) (lo bx : Nat) (w : World) (hB : Bld w lo bx gs v) (hn : gs.length ≤ 900000) (xs : List Int) (ax : Option Addr) (cx : Nat) (hlx : xs.length = 4) (hrx : RdC w ax (I64 xs)) (hfx : FrA w bx ax) (ys : List Int) (ay : Option Addr) (cy : Nat) (hly : ys.length = 4) (hry : RdC w ay (I64 ys)) (hfy : FrA w bx ay) :
    Calls Try.prog 69 #[.pointer (some ⟨bx, 0, none⟩), .slice ax 4 cx, .slice ay 4 cy] w fun e w' => e = .returned (.int .i64 (lessP xs ys gs).2) ∧ Bld w' lo bx (lessP xs ys gs).1 v ∧ Fr bx w w' ∧ Below lo w w' := by
  have HB := Lib.hid hB
  have HRx := Lib.hid hrx
  have HFx := Lib.hid hfx
  have HLx := Lib.hid hlx
  have HRy := Lib.hid hry
  have HFy := Lib.hid hfy
  have HLy := Lib.hid hly
  clear hB hrx hfx hlx hry hfy hly
  go_enter Try.func69, Try.ntmps69
  go_wp2_with fail
  refine (l14Nots_any gs v lo bx _ HB.out hn ys ay cy HLy.out HRy.out HFy.out).mono ?_
  rintro e wn ⟨gx, cnx, rfl, hnb⟩
  have hnl := rnds_le (f := fun h k => put1 h ⟨5, at0 ys k, 0⟩) (m := 1) (by intro h k; simp [put1]) gs 4
  obtain ⟨gn, NX, hnp⟩ : ∃ a b, notsP ys gs = (a, b) := ⟨_, _, rfl⟩
  have hnl2 : NX.length = 4 := by have := rnds_len (fun h k => put1 h ⟨5, at0 ys k, 0⟩) gs 4; have e : rnds (fun h k => put1 h ⟨5, at0 ys k, 0⟩) gs 4 = (gn, NX) := hnp; rw [e] at this; exact this
  have hgn : gn.length ≤ 900010 := by have e : rnds (fun h k => put1 h ⟨5, at0 ys k, 0⟩) gs 4 = (gn, NX) := hnp; rw [e] at hnl; simp only at hnl; omega
  rw [hnp] at hnb
  have HNP := Lib.hid hnp
  have HNB := Lib.hid hnb
  have HNL := Lib.hid hnl2
  clear hnp hnb hnl hnl2
  go_wp2_with fail
  refine (l14Put_any gn 2 1 0 v lo bx _ HNB.out.b (by omega)).mono ?_
  rintro e w1 ⟨rfl, hB1, hF1, hL1⟩
  have HS1 := Lib.hid (HNB.out.on hB1 hF1 hL1)
  obtain ⟨G0, hG0⟩ : ∃ G, G = gn ++ [⟨2, 1, 0⟩] := ⟨_, rfl⟩
  rw [← hG0] at HS1
  have HG0 := Lib.hid hG0
  have lG0 : G0.length ≤ 900011 := by rw [hG0]; simp; omega
  clear hB1 hF1 hL1 hG0
  go_wp2_with fail
  go_loopw [8, 9] (fun c i wr => ∃ (k : Nat) (G : List Gt) (T : List Int) (cw : Int), k ≤ 4 ∧ i = .int .i64 (k : Int) ∧ c = .int .i64 cw ∧ fullsP xs NX gn.length G0 k = (G, cw, T) ∧ Bs w wr lo bx G v gx 4 cnx NX) (fun _ i _ => (4 - intOf i).toNat)
  case atStart => exact ⟨0, _, _, _, by omega, rfl, rfl, rfl, HS1.out⟩
  case round =>
    obtain ⟨k, G, T, cw, hk, rfl, rfl, hsp, hbs⟩ := hrel
    have hGl := fullsP_le xs NX gn.length G0 k
    rw [hsp] at hGl
    simp only at hGl
    have hGl2 : G.length ≤ 900040 := by omega
    have HSP := Lib.hid hsp
    have HBS := Lib.hid hbs
    clear hsp hbs hGl
    by_cases hlt : k < 4
    · have hk' : (k : Int) < 4 := by omega
      have HST := Lib.hid (fullsP_succ xs NX gn.length G0 k HSP.out)
      obtain ⟨blx, offx, rfl, hbx, hcx⟩ := HRx.out.elem k (by rw [HLx.out]; exact hlt)
      obtain ⟨vx, hvx⟩ : ∃ z, z = at0 xs (k : Int) := ⟨_, rfl⟩
      rw [← hvx] at hcx
      have HVx := Lib.hid hvx
      have HCx := Lib.hid hcx
      have hcx0 := HBS.out.cell (HFx.out _ _ rfl) HCx.out
      obtain ⟨hn0, hn1⟩ := HBS.out.o.intE k (by rw [HNL.out]; exact hlt)
      obtain ⟨vn, hvn⟩ : ∃ z, z = at0 NX (k : Int) := ⟨_, rfl⟩
      rw [← hvn] at hn0
      have HVn := Lib.hid hvn
      clear hvx hcx hvn hn1
      go_wp2_with fail
      go_region_held3 (fun w' => w'.cell? ⟨blx, offx + k, none⟩ = some (.int .i64 vx) ∧ w'.cell? ⟨gx, k, none⟩ = some (.int .i64 vn)) (first | go_keep) ((go_at_call 99; refine (l14Full_any G vx vn cw v lo bx _ (HBS.out.drew).b (by omega)).mono ?_; rintro e w2 ⟨rfl, hB2, hF2, hL2⟩; have S1 := Lib.hid ((HBS.out.drew).on hB2 hF2 hL2); have hcx1 := S1.out.cell (HFx.out _ _ rfl) HCx.out; have hcn1 := (S1.out.o.intE k (by rw [HNL.out]; exact hlt)).1; rw [← HVn.out] at hcn1; clear hB2 hF2 hL2))
      have HN : Hid (fullsP xs NX gn.length G0 (k + 1) = (fullG G vx vn cw, (G.length : Int) + 4, T ++ [(G.length : Int) + 2])) := by show _ = _; rw [HST.out, HVx.out, HVn.out]
      go_wp2_with fail
      go_roundw
      case rel => exact ⟨k + 1, _, _, _, by omega, by go_num, rfl, HN.out, S1.out⟩
      case measure => first | (simp [intOf]; done) | (simp [intOf]; omega)
    · obtain rfl : k = 4 := by omega
      go_wp2_with fail
      refine (l14Put_any G 5 cw 0 v lo bx _ HBS.out.b (by omega)).mono ?_
      rintro e w3 ⟨rfl, hB3, hF3, hL3⟩
      have S3 := Lib.hid (HBS.out.on hB3 hF3 hL3)
      clear hB3 hF3 hL3
      have HP : Hid (lessP xs ys gs = (G ++ [⟨5, cw, 0⟩], (G.length : Int))) := by
        show _ = _
        unfold lessP
        rw [HNP.out]
        simp only
        rw [← HG0.out, HSP.out]
      go_wp2_with fail
      go_ret
      refine ⟨ret_int (by rw [HP.out]), by rw [HP.out]; exact S3.out.b, S3.out.r, S3.out.l⟩
set_option maxRecDepth 20000 in
set_option maxHeartbeats 8000000 in
theorem l14Equal_any (gs : List Gt) (v : Value) (lo bx : Nat) (w : World) (hB : Bld w lo bx gs v) (hn : gs.length ≤ 900000) (xs : List Int) (ax : Option Addr) (cx : Nat) (hlx : xs.length = 4) (hrx : RdC w ax (I64 xs)) (hfx : FrA w bx ax) (ys : List Int) (ay : Option Addr) (cy : Nat) (hly : ys.length = 4) (hry : RdC w ay (I64 ys)) (hfy : FrA w bx ay) :
    Calls Try.prog 66 #[.pointer (some ⟨bx, 0, none⟩), .slice ax 4 cx, .slice ay 4 cy] w fun e w' => e = .returned (.int .i64 (equalP xs ys gs).2) ∧ Bld w' lo bx (equalP xs ys gs).1 v ∧ Fr bx w w' ∧ Below lo w w' := by
  have HB := Lib.hid hB
  have hBl := hB.le
  have HRx := Lib.hid hrx
  have HFx := Lib.hid hfx
  have HLx := Lib.hid hlx
  have HRy := Lib.hid hry
  have HFy := Lib.hid hfy
  have HLy := Lib.hid hly
  clear hB hrx hfx hlx hry hfy hly
  obtain ⟨W, hW⟩ : ∃ W, W = w.alloc (.cells #[] 3) := ⟨_, rfl⟩
  have HS0 := Lib.hid (show Bs w W lo bx gs v w.heap.size 0 0 [] by rw [hW]; exact Bs.start HB.out)
  go_enter Try.func66, Try.ntmps66
  go_wp2_with fail
  rw [← hW]
  clear hW
  go_loopw [7, 8] (fun u i wr => ∃ (k ct gt : Nat) (G : List Gt) (T : List Int), k ≤ 4 ∧ i = .int .i64 k ∧ u = .slice (some ⟨gt, 0, none⟩) k ct ∧ rnds (fun h k => (h ++ [⟨3, at0 xs k, at0 ys k⟩, ⟨5, h.length, 0⟩], (h.length : Int) + 1)) gs k = (G, T) ∧ Bs w wr lo bx G v gt k ct T) (fun _ i _ => 4 - (intOf i).toNat)
  case atStart => exact ⟨0, 0, _, _, _, Nat.zero_le _, rfl, rfl, rfl, HS0.out⟩
  case round =>
    obtain ⟨k, ct, gt, G, T, hk, rfl, rfl, hsp, hbs⟩ := hrel
    have hGl := rnds_le (f := fun h k => (h ++ [⟨3, at0 xs k, at0 ys k⟩, ⟨5, h.length, 0⟩], (h.length : Int) + 1)) (m := 2) (by intro h k; simp [put1]) gs k
    rw [hsp] at hGl
    simp only at hGl
    have HSP := Lib.hid hsp
    have HBS := Lib.hid hbs
    have zr := hbs.l.size
    have gtl := hbs.ge
    clear hsp hbs
    by_cases hlt : k < 4
    · have hk' : (k : Int) < 4 := by omega
      have HST := Lib.hid (rnds_succ (fun h k => (h ++ [⟨3, at0 xs k, at0 ys k⟩, ⟨5, h.length, 0⟩], (h.length : Int) + 1)) gs k HSP.out)
      obtain ⟨blx, offx, rfl, hbx, hcx⟩ := HRx.out.elem k (by rw [HLx.out]; exact hlt)
      obtain ⟨vx, hvx⟩ : ∃ z, z = at0 xs (k : Int) := ⟨_, rfl⟩
      rw [← hvx] at hcx
      have HVx := Lib.hid hvx
      have HCx := Lib.hid hcx
      have hcx0 := HBS.out.cell (HFx.out _ _ rfl) HCx.out
      clear hvx hcx
      obtain ⟨bly, offy, rfl, hby, hcy⟩ := HRy.out.elem k (by rw [HLy.out]; exact hlt)
      obtain ⟨vy, hvy⟩ : ∃ z, z = at0 ys (k : Int) := ⟨_, rfl⟩
      rw [← hvy] at hcy
      have HVy := Lib.hid hvy
      have HCy := Lib.hid hcy
      have hcy0 := HBS.out.cell (HFy.out _ _ rfl) HCy.out
      clear hvy hcy
      go_wp2_with fail
      go_still_tail 9, (by kernel_rfl)
      change wpList _ _ _ _ _ (World.drew _)
      go_wp2_with fail
      refine (l14Put_any G 3 vx vy v lo bx _ (HBS.out.drew).b (by first | omega | (simp; omega))).mono ?_
      rintro e w2 ⟨rfl, hB2, hF2, hL2⟩
      obtain ⟨G1, e1⟩ : ∃ X, X = G ++ [⟨3, vx, vy⟩] := ⟨_, rfl⟩
      rw [← e1] at hB2
      have l1 : G1.length = G.length + 1 := by rw [e1]; simp
      have E1 := Lib.hid e1
      have S1 := Lib.hid ((HBS.out.drew).on hB2 hF2 hL2)
      have z1 : wr.heap.size ≤ w2.heap.size := hL2.size
      have L1 := Lib.hid l1
      have n1 : G1.length ≤ 900000 + 100 + 0 := by omega
      clear e1 hB2 hF2 hL2 l1
      have hcx1 := S1.out.cell (HFx.out _ _ rfl) HCx.out
      have hcy1 := S1.out.cell (HFy.out _ _ rfl) HCy.out
      go_wp2_with fail
      refine (l14Put_any G1 5 (G.length : Int) 0 v lo bx _ (S1.out).b (by first | omega | (simp; omega))).mono ?_
      rintro e w3 ⟨rfl, hB3, hF3, hL3⟩
      rw [show (G1.length : Int) = (G.length : Int) + 1 by have := L1.out; omega]
      obtain ⟨G2, e2⟩ : ∃ X, X = G1 ++ [⟨5, (G.length : Int), 0⟩] := ⟨_, rfl⟩
      rw [← e2] at hB3
      have l2 : G2.length = G1.length + 1 := by rw [e2]; simp
      have E2 := Lib.hid e2
      have S2 := Lib.hid ((S1.out).on hB3 hF3 hL3)
      have z2 : w2.heap.size ≤ w3.heap.size := hL3.size
      have L2 := Lib.hid l2
      have n2 : G2.length ≤ 900000 + 100 + 1 := by omega
      clear e2 hB3 hF3 hL3 l2
      go_wp2_with (refine wpList_push _ rfl (.tmp 27) (.tmp 31) rfl w.heap.size gt k ct T ((G.length : Int) + 1) w3.heap.size 1 (by rfl) (by rfl) (S2.out.o.alloc _) (by go_simp) (by omega) (by simp; omega) ?_; intro g6 d6 w9 ho6 hb6 hg6 hat6)
      have HN : Hid (rnds (fun h k => (h ++ [⟨3, at0 xs k, at0 ys k⟩, ⟨5, h.length, 0⟩], (h.length : Int) + 1)) gs (k + 1) = (G2, T ++ [((G.length : Int) + 1)])) := by show _ = _; rw [HST.out, E2.out, E1.out, HVx.out, HVy.out]; simp [put1]
      have HP := Lib.hid (S2.out.push _ ho6 hb6 hg6 hat6)
      clear ho6 hb6 hg6 hat6
      go_wp2_with fail
      go_roundw
      case rel => exact ⟨k + 1, d6, g6, _, _, by omega, by go_num, rfl, HN.out, HP.out⟩
      case measure => first | (simp [intOf]; done) | (simp [intOf]; omega)
    · obtain rfl : k = 4 := by omega
      have hTl : T.length = 4 := by have := rnds_len (fun h k => (h ++ [⟨3, at0 xs k, at0 ys k⟩, ⟨5, h.length, 0⟩], (h.length : Int) + 1)) gs 4; rw [HSP.out] at this; exact this
      have HTL := Lib.hid hTl
      have hGl8 : G.length ≤ 900008 := by omega
      obtain ⟨hc0, hf0⟩ := HBS.out.o.intE 0 (by omega)
      obtain ⟨q0, hq0⟩ : ∃ z, z = at0 T ((0 : Nat) : Int) := ⟨_, rfl⟩
      rw [← hq0] at hc0
      have HQ0 := Lib.hid hq0
      clear hTl hf0 hq0 hGl
      go_wp2_with fail
      go_loopw [10, 11] (fun c i w2 => ∃ (j : Nat) (G2 : List Gt) (cw : Int), 1 ≤ j ∧ j ≤ 4 ∧ i = .int .i64 (j : Int) ∧ c = .int .i64 cw ∧ andsP T G (j - 1) = (G2, cw) ∧ Bs w w2 lo bx G2 v gt 4 ct T ∧ G2.length ≤ 900008 + j) (fun _ i _ => (4 - intOf i).toNat)
      case atStart => exact ⟨1, _, _, by omega, by omega, rfl, rfl, by show (G, at0 T ((0 : Nat) : Int)) = _; rw [← HQ0.out], HBS.out, by omega⟩
      case round =>
        obtain ⟨j, G2, cw, hj0, hj1, rfl, rfl, hap, hb2, hg2⟩ := hrel
        have HAP := Lib.hid hap
        have HB2 := Lib.hid hb2
        clear hap hb2
        by_cases hlt2 : j < 4
        · have hj' : (j : Int) < 4 := by omega
          obtain ⟨hcj, hfj⟩ := HB2.out.o.intE j (by rw [HTL.out]; exact hlt2)
          obtain ⟨qj, hqj⟩ : ∃ z, z = at0 T (j : Int) := ⟨_, rfl⟩
          rw [← hqj] at hcj
          have HQJ := Lib.hid hqj
          clear hqj hfj
          go_wp2_with fail
          refine (l14Put_any G2 4 cw qj v lo bx _ HB2.out.b (by omega)).mono ?_
          rintro e w5 ⟨rfl, hB5, hF5, hL5⟩
          have S5 := Lib.hid (HB2.out.on hB5 hF5 hL5)
          clear hB5 hF5 hL5
          have HN : Hid (andsP T G (j + 1 - 1) = (G2 ++ [⟨4, cw, qj⟩], (G2.length : Int))) := by
            show _ = _
            obtain ⟨i, rfl⟩ : ∃ i, j = i + 1 := ⟨j - 1, by omega⟩
            rw [show i + 1 + 1 - 1 = i + 1 by omega]
            have h := HAP.out
            rw [show i + 1 - 1 = i by omega] at h
            unfold andsP
            rw [h, HQJ.out]
          go_wp2_with fail
          go_roundw
          case rel => first | exact ⟨j + 1, _, _, by omega, by omega, by go_num, rfl, HN.out, S5.out, by simp; omega⟩ | ((repeat apply Exists.intro); exact ⟨⟨j + 1, _, _, by omega, by omega, by go_num, rfl, HN.out, S5.out, by simp; omega⟩, rfl⟩)
          case measure => first | (simp [intOf]; done) | (simp [intOf]; omega)
        · obtain rfl : j = 4 := by omega
          have HPP : Hid (equalP xs ys gs = (G2, cw)) := by
            show _ = _
            unfold equalP
            have h : eqsP xs ys gs = (G, T) := HSP.out
            rw [h]
            exact HAP.out
          go_wp2_with fail
          go_ret
          refine ⟨ret_int (by rw [HPP.out]), by rw [HPP.out]; exact HB2.out.b, HB2.out.r, HB2.out.l⟩
end Go.Proofs.Ytfcijloiebnloaa
