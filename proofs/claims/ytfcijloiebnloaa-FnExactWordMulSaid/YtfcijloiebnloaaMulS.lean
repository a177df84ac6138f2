/- The product of the reference. -/
import Derived.Test.YtfcijloiebnloaaMulF
import Derived.StillTailTactics
import Derived.Deep.RegionHeld3
import Derived.Deep.RegionLaw
namespace Go.Proofs.Ytfcijloiebnloaa
open Go.RowKit
set_option linter.unusedVariables false
set_option linter.unusedSimpArgs false

set_option maxRecDepth 20000 in
set_option maxHeartbeats 16000000 in
theorem l14Mul_any (gs : List Gt) (v : Value) (lo bx : Nat) (w : World) (hB : Bld w lo bx gs v) (hn : gs.length ≤ 800000) (xs : List Int) (ax : Option Addr) (cx : Nat) (hlx : xs.length = 4) (hrx : RdC w ax (I64 xs)) (hfx : FrA w bx ax) (ys : List Int) (ay : Option Addr) (cy : Nat) (hly : ys.length = 4) (hry : RdC w ay (I64 ys)) (hfy : FrA w bx ay) :
    Calls Try.prog 73 #[.pointer (some ⟨bx, 0, none⟩), .slice ax 4 cx, .slice ay 4 cy] w fun e w' => ∃ g c', e = .returned (.slice (some ⟨g, 0, none⟩) 4 c') ∧ Bs w w' lo bx (mulP xs ys gs).1 v g 4 c' (mulP xs ys gs).2 := by
  have HB := Lib.hid hB
  have hBl := hB.le
  obtain ⟨blx, offx, rfl, hbx, _⟩ := hrx.elem 0 (by omega)
  obtain ⟨bly, offy, rfl, hby, _⟩ := hry.elem 0 (by omega)
  have HRx0 := Lib.hid hrx
  have HRy0 := Lib.hid hry
  have HFx0 := Lib.hid hfx
  have HFy0 := Lib.hid hfy
  have HLx := Lib.hid hlx
  have HLy := Lib.hid hly
  have hy0 : w.cell? ⟨bly, offy, none⟩ = _ := hry.elemAt 0 (by omega)
  obtain ⟨vy0, hvy0⟩ : ∃ z, z = at0 ys ((0 : Nat) : Int) := ⟨_, rfl⟩
  rw [← hvy0] at hy0
  have HVy0 := Lib.hid hvy0
  have HCy0 := Lib.hid hy0
  clear hB hrx hfx hlx hry hfy hly hvy0 hy0
  obtain ⟨W, hW⟩ : ∃ W, W = w.alloc (.cells #[] 3) := ⟨_, rfl⟩
  have HS0 := Lib.hid (show Bs w W lo bx gs v w.heap.size 0 0 [] by rw [hW]; exact Bs.start HB.out)
  go_enter Try.func73, Try.ntmps73
  go_wp2_with fail
  rw [← hW]
  clear hW
  go_loopw [7, 8] (fun u i wr => ∃ (k ct gt : Nat) (G : List Gt) (T : List Int), k ≤ 4 ∧ i = .int .i64 k ∧ u = .slice (some ⟨gt, 0, none⟩) k ct ∧ rnds (fun h k => put1 h ⟨4, vy0, at0 xs k⟩) gs k = (G, T) ∧ Bs w wr lo bx G v gt k ct T) (fun _ i _ => 4 - (intOf i).toNat)
  case atStart => exact ⟨0, 0, _, _, _, Nat.zero_le _, rfl, rfl, rfl, HS0.out⟩
  case round =>
    obtain ⟨k, ct0, gt0, G0, T0, hk, rfl, rfl, hsp, hbs⟩ := hrel
    have hGl := rnds_le (f := fun h k => put1 h ⟨4, vy0, at0 xs k⟩) (m := 1) (by intro h k; simp [put1]) gs k
    rw [hsp] at hGl
    simp only at hGl
    have HSP0 := Lib.hid hsp
    have HBS0 := Lib.hid hbs
    have zr0 := hbs.l.size
    have gtl0 := hbs.ge
    clear hsp hbs
    by_cases hlt : k < 4
    · have hk' : (k : Int) < 4 := by omega
      have hk4 : (k : Int) < 4 := by omega
      have HST := Lib.hid (rnds_succ (fun h k => put1 h ⟨4, vy0, at0 xs k⟩) gs k HSP0.out)
      have hcx := HRx0.out.elemAt k (by rw [HLx.out]; omega)
      obtain ⟨vx, hvx⟩ : ∃ z, z = at0 xs (k : Int) := ⟨_, rfl⟩
      rw [← hvx] at hcx
      have HVx := Lib.hid hvx
      have HCx := Lib.hid hcx
      have hcx0 := HBS0.out.cell (HFx0.out _ _ rfl) HCx.out
      have hcy0 := HBS0.out.cell (HFy0.out _ _ rfl) HCy0.out
      clear hvx hcx
      obtain ⟨G9, e9⟩ : ∃ X, X = G0 ++ [⟨4, vy0, vx⟩] := ⟨_, rfl⟩
      have E9 := Lib.hid e9
      clear e9
      have HN : Hid (rnds (fun h k => put1 h ⟨4, vy0, at0 xs k⟩) gs (k + 1) = (G9, T0 ++ [(G0.length : Int)])) := by show _ = _; rw [HST.out, E9.out, HVx.out]; simp [put1]
      have HPUT : ∀ W, Bld W lo bx G0 v → Calls Try.prog 94 #[.pointer (some ⟨bx, 0, none⟩), .int .i64 4, .int .i64 vy0, .int .i64 vx] W fun e w' => e = .returned (.int .i64 (G0.length : Int)) ∧ Bld w' lo bx G9 v ∧ Fr bx W w' ∧ Below lo W w' := fun W h => by
        have := l14Put_any G0 4 vy0 vx v lo bx W h (by omega)
        rw [← E9.out] at this; exact this
      have HPT := Lib.hid HPUT
      clear HPUT
      go_wp2_with fail
      go_region_held3 (fun w' => w'.cell? ⟨blx, offx + k, none⟩ = some (.int .i64 vx) ∧ w'.cell? ⟨bly, offy, none⟩ = some (.int .i64 vy0)) (first | go_keep)
        (first | (go_at_call 94; refine (HPT.out _ (HBS0.out.drew).b).mono ?_; rintro e w2 ⟨rfl, hB2, hF2, hL2⟩; have S1 := Lib.hid ((HBS0.out.drew).on hB2 hF2 hL2); have z1 : wr.heap.size ≤ w2.heap.size := hL2.size; have hcx1 := S1.out.cell (HFx0.out _ _ rfl) HCx.out; have hcy1 := S1.out.cell (HFy0.out _ _ rfl) HCy0.out; clear hB2 hF2 hL2) | (refine step_push _ rfl (.tmp 18) (.tmp 28) rfl w.heap.size gt0 k ct0 T0 (G0.length : Int) w2.heap.size 1 (by rfl) (by rfl) (S1.out.o.alloc _) (by go_simp) (by omega) (by simp; omega) ?_; intro g6 d6 w8 ho6 hb6 hg6 hat6; have HP := Lib.hid (S1.out.push _ ho6 hb6 hg6 hat6); have hcx2 := HP.out.cell (HFx0.out _ _ rfl) HCx.out; have hcy2 := HP.out.cell (HFy0.out _ _ rfl) HCy0.out; clear ho6 hb6 hg6 hat6))
      all_goals go_wp2_with fail
      all_goals go_roundw
      all_goals first
        | (show _ < _; first | (simp [intOf]; done) | (simp [intOf]; omega))
        | exact ⟨k + 1, d6, g6, _, _, by omega, by go_num, rfl, HN.out, HP.out⟩
        | ((repeat apply Exists.intro); exact ⟨⟨k + 1, d6, g6, _, _, by omega, by go_num, rfl, HN.out, HP.out⟩, rfl⟩)
    · obtain rfl : k = 4 := by omega
      obtain ⟨wr0, hwr⟩ : ∃ X, X = wr := ⟨_, rfl⟩
      subst hwr
      have HM0 : Hid (mulR xs ys gs 0 = (G0, T0)) := by show _ = _; rw [← HSP0.out, HVy0.out]; rfl
      have hlT : T0.length = 4 := by have := rnds_len (fun h k => put1 h ⟨4, vy0, at0 xs k⟩) gs 4; rw [HSP0.out] at this; exact this
      have HLT0 := Lib.hid hlT
      have HSt0 := HBS0
      have hG0 : G0.length ≤ 800004 := by omega
      clear hlT HBS0 HSP0 HS0 hGl HB
      go_wp2_with fail
      refine wp_loop_rounds 4 ?_
      have HRx1 := Lib.hid (HSt0.out.r.rd HFx0.out HRx0.out)
      have HFx1 := Lib.hid (HSt0.out.r.fra HFx0.out)
      have HFy1 := Lib.hid (HSt0.out.r.fra HFy0.out)
      have hy := (HSt0.out.r.rd HFy0.out HRy0.out).elemAt 1 (by rw [HLy.out]; omega)
      obtain ⟨vy1, hvy⟩ : ∃ z, z = at0 ys ((1 : Nat) : Int) := ⟨_, rfl⟩
      rw [← hvy] at hy
      have HVy1 := Lib.hid hvy
      have HCy1 := Lib.hid hy
      clear hvy hy
      have hcap := own_cap' HSt0.out.o
      obtain ⟨W1, hW⟩ : ∃ X, X = wr0.alloc (.cells #[] 3) := ⟨_, rfl⟩
      have HS1 := Lib.hid (show Bs wr0 W1 lo bx G0 v wr0.heap.size 0 0 [] by rw [hW]; exact Bs.start HSt0.out.b)
      rw [rounds_succ]
      go_wp2_with fail
      rw [← hW]
      clear hW
      go_loopw [10, 11] (fun u i wr => ∃ (k ct gt : Nat) (G : List Gt) (T : List Int), k ≤ 3 ∧ i = .int .i64 k ∧ u = .slice (some ⟨gt, 0, none⟩) k ct ∧ rnds (fun h k => put1 h ⟨4, vy1, at0 xs k⟩) G0 k = (G, T) ∧ Bs wr0 wr lo bx G v gt k ct T) (fun _ i _ => 3 - (intOf i).toNat)
      case atStart => exact ⟨0, 0, _, _, _, Nat.zero_le _, rfl, rfl, rfl, HS1.out⟩
      case round =>
        obtain ⟨k, ct1, gt1, G1, T1, hk, rfl, rfl, hsp, hbs⟩ := hrel
        have hGl := rnds_le (f := fun h k => put1 h ⟨4, vy1, at0 xs k⟩) (m := 1) (by intro h k; simp [put1]) G0 k
        rw [hsp] at hGl
        simp only at hGl
        have HSP1 := Lib.hid hsp
        have HBS1 := Lib.hid hbs
        have zr1 := hbs.l.size
        have gtl1 := hbs.ge
        clear hsp hbs
        by_cases hlt : k < 3
        · have hk' : (k : Int) < 3 := by omega
          have hk4 : (k : Int) < 4 := by omega
          have HST := Lib.hid (rnds_succ (fun h k => put1 h ⟨4, vy1, at0 xs k⟩) G0 k HSP1.out)
          have hcx := HRx1.out.elemAt k (by rw [HLx.out]; omega)
          obtain ⟨vx, hvx⟩ : ∃ z, z = at0 xs (k : Int) := ⟨_, rfl⟩
          rw [← hvx] at hcx
          have HVx := Lib.hid hvx
          have HCx := Lib.hid hcx
          have hcx0 := HBS1.out.cell (HFx1.out _ _ rfl) HCx.out
          have hcy0 := HBS1.out.cell (HFy1.out _ _ rfl) HCy1.out
          clear hvx hcx
          obtain ⟨G9, e9⟩ : ∃ X, X = G1 ++ [⟨4, vy1, vx⟩] := ⟨_, rfl⟩
          have E9 := Lib.hid e9
          clear e9
          have HN : Hid (rnds (fun h k => put1 h ⟨4, vy1, at0 xs k⟩) G0 (k + 1) = (G9, T1 ++ [(G1.length : Int)])) := by show _ = _; rw [HST.out, E9.out, HVx.out]; simp [put1]
          have HPUT : ∀ W, Bld W lo bx G1 v → Calls Try.prog 94 #[.pointer (some ⟨bx, 0, none⟩), .int .i64 4, .int .i64 vy1, .int .i64 vx] W fun e w' => e = .returned (.int .i64 (G1.length : Int)) ∧ Bld w' lo bx G9 v ∧ Fr bx W w' ∧ Below lo W w' := fun W h => by
            have := l14Put_any G1 4 vy1 vx v lo bx W h (by omega)
            rw [← E9.out] at this; exact this
          have HPT := Lib.hid HPUT
          clear HPUT
          go_wp2_with fail
          go_region_held3 (fun w' => w'.cell? ⟨blx, offx + k, none⟩ = some (.int .i64 vx) ∧ w'.cell? ⟨bly, offy + 1, none⟩ = some (.int .i64 vy1)) (first | go_keep)
            (first | (go_at_call 94; refine (HPT.out _ (HBS1.out.drew).b).mono ?_; rintro e w2 ⟨rfl, hB2, hF2, hL2⟩; have S1 := Lib.hid ((HBS1.out.drew).on hB2 hF2 hL2); have z1 : wr.heap.size ≤ w2.heap.size := hL2.size; have hcx1 := S1.out.cell (HFx1.out _ _ rfl) HCx.out; have hcy1 := S1.out.cell (HFy1.out _ _ rfl) HCy1.out; clear hB2 hF2 hL2) | (refine step_push _ rfl (.tmp 41) (.tmp 52) rfl wr0.heap.size gt1 k ct1 T1 (G1.length : Int) w2.heap.size 1 (by rfl) (by rfl) (S1.out.o.alloc _) (by go_simp) (by omega) (by simp; omega) ?_; intro g6 d6 w8 ho6 hb6 hg6 hat6; have HP := Lib.hid (S1.out.push _ ho6 hb6 hg6 hat6); have hcx2 := HP.out.cell (HFx1.out _ _ rfl) HCx.out; have hcy2 := HP.out.cell (HFy1.out _ _ rfl) HCy1.out; clear ho6 hb6 hg6 hat6))
          all_goals go_wp2_with fail
          all_goals go_roundw
          all_goals first
            | (show _ < _; first | (simp [intOf]; done) | (simp [intOf]; omega))
            | exact ⟨k + 1, d6, g6, _, _, by omega, by go_num, rfl, HN.out, HP.out⟩
            | ((repeat apply Exists.intro); exact ⟨⟨k + 1, d6, g6, _, _, by omega, by go_num, rfl, HN.out, HP.out⟩, rfl⟩)
        · obtain rfl : k = 3 := by omega
          obtain ⟨wr1, hwr⟩ : ∃ X, X = wr := ⟨_, rfl⟩
          subst hwr
          have hpl : T1.length = 3 := by have := rnds_len (fun h k => put1 h ⟨4, vy1, at0 xs k⟩) G0 3; rw [HSP1.out] at this; exact this
          have HPL1 := Lib.hid hpl
          have hRow : rowP (at0 ys ((0 : Nat) + 1 : Nat)) xs 3 G0 = (G1, T1) := by rw [← HSP1.out, HVy1.out]; rfl
          have HR1 := Lib.hid hRow
          have hown := HSt0.out.o.later (HBS1.out.r.kp HSt0.out.f)
          have HD1 := Lib.hid (rd_drop hown.rd 1)
          have HTk1 := Lib.hid (hown.rd.take 1)
          have hfr := HBS1.out.r.frn HSt0.out.f
          have HFR1 := Lib.hid hfr
          have hG1 : G1.length ≤ G0.length + 3 := by have := rnds_le (f := fun h k => put1 h ⟨4, vy1, at0 xs k⟩) (m := 1) (by intro h k; simp [put1]) G0 3; rw [HSP1.out] at this; simp only at this; omega
          have HDL1 : Hid ((T0.drop 1).length = 3) := by show _ = _; rw [List.length_drop, HLT0.out]
          have HTL1 : Hid ((T0.take 1).length = 1) := by show _ = _; rw [List.length_take, HLT0.out]; rfl
          clear hpl hRow hown hfr
          go_wp2_with fail
          refine (l14Sum2 G1 0 v lo bx _ HBS1.out.b (by omega) (T0.drop 1) (some ⟨gt0, 1, none⟩) (ct0 - 1) HDL1.out HD1.out (fun b off e => by cases e; exact HFR1.out) T1 (some ⟨gt1, 0, none⟩) ct1 HPL1.out HBS1.out.o.rd (fun b off e => by cases e; exact HBS1.out.f)).mono ?_
          rintro e x1 ⟨gh1, ch1, rfl, hs⟩
          obtain ⟨GS1, TS1, hsum⟩ : ∃ a b, sumP (T0.drop 1) T1 0 2 G1 = (a, b) := ⟨_, _, rfl⟩
          rw [hsum] at hs
          have hlen := sumP_len (T0.drop 1) T1 0 2 G1
          rw [hsum] at hlen
          simp only at hlen
          have hSG : GS1.length ≤ G1.length + 20 := by omega
          have HSL1 := Lib.hid hlen.2
          have HM1 : Hid (mulR xs ys gs 1 = (GS1, T0.take 1 ++ TS1)) := by show _ = _; rw [mulR_succ xs ys gs 0 HM0.out HR1.out]; rw [show sumP (T0.drop (0 + 1)) T1 0 (2 - 0) G1 = (GS1, TS1) from hsum]
          have HX1 := Lib.hid hs
          have zx := hs.l.size
          clear hsum hlen hs
          have HTk := Lib.hid (HX1.out.r.rd (fun b off e => by cases e; exact HFR1.out) HTk1.out)
          have zg := HX1.out.ge
          have cA := HTL1.out
          have cB := HSL1.out
          go_wp2_with (first | (refine wpList_appm _ rfl el_int (.tmp 60) (.tmp 63) rfl x1.heap.size x1.heap.size 0 0 [] (I64 (T0.take 1)) (some ⟨gt0, 0, none⟩) 1 ct0 (by rfl) (by rfl) (own_last _ _ _ _ _ rfl (Nat.le_refl _)) (by rw [show (I64 (T0.take 1)).length = (T0.take 1).length from List.length_map .., cA]) (HTk.out.below ((Below.refl _ _).alloc (Nat.le_refl _) _)) (I64_one _) (by intro h; cases h) (by omega) (by omega) (by simp) ?_; intro g7 c7 y7 ho7 hb7 hg7 hat7) | (refine wpList_appm _ rfl el_int (.tmp 64) (.tmp 65) rfl x1.heap.size g7 (0 + 1) c7 _ (I64 TS1) (some ⟨gh1, 0, none⟩) 3 ch1 (by rfl) (by rfl) ho7 (by rw [show (I64 TS1).length = TS1.length from List.length_map .., cB]) (HX1.out.o.later (((Kp.refl _ _).alloc _).grown hg7 (by intro e; have := Option.some.inj e; omega))).rd (I64_one _) (by intro h; cases h) (by omega) (by omega) (by have := hb7.size; simp at this; omega) ?_; intro gm1 cm1 y1 ho8 hb8 hg8 hat8))
          have hbb : Below x1.heap.size x1 y1 := (((Below.refl _ _).alloc (Nat.le_refl _) _).trans hb7).trans hb8
          obtain ⟨Tm1, hTm⟩ : ∃ X, X = T0.take 1 ++ TS1 := ⟨_, rfl⟩
          have h4 : Own y1 x1.heap.size 3 1 (some ⟨gm1, 0, none⟩) 4 cm1 (I64 Tm1) := by rw [hTm, show I64 (T0.take 1 ++ TS1) = [] ++ I64 (T0.take 1) ++ I64 TS1 by simp [I64]]; exact ho8
          have HSt1 := Lib.hid (((HSt0.out.then HBS1.out).then HX1.out).then (Bs.mk_list HX1.out.b hbb h4))
          have HLT1 : Hid (Tm1.length = 4) := by show _ = _; rw [hTm, List.length_append, cA, cB]
          have hM := HM1.out
          rw [← hTm] at hM
          clear HM1
          have HM1 := Lib.hid hM
          clear hM hTm h4 hbb ho8 hb8 hg8 hat8 ho7 hb7 hg7 hat7 HTk cA cB HBS1 HX1 HTk1 HD1 HFR1 HSP1 hk hlt zg zx
          go_wp2_with fail
          have HRx2 := Lib.hid (HSt1.out.r.rd HFx0.out HRx0.out)
          have HFx2 := Lib.hid (HSt1.out.r.fra HFx0.out)
          have HFy2 := Lib.hid (HSt1.out.r.fra HFy0.out)
          have hy := (HSt1.out.r.rd HFy0.out HRy0.out).elemAt 2 (by rw [HLy.out]; omega)
          obtain ⟨vy2, hvy⟩ : ∃ z, z = at0 ys ((2 : Nat) : Int) := ⟨_, rfl⟩
          rw [← hvy] at hy
          have HVy2 := Lib.hid hvy
          have HCy2 := Lib.hid hy
          clear hvy hy
          have hcap := own_cap' HSt1.out.o
          obtain ⟨W2, hW⟩ : ∃ X, X = y1.alloc (.cells #[] 3) := ⟨_, rfl⟩
          have HS2 := Lib.hid (show Bs y1 W2 lo bx GS1 v y1.heap.size 0 0 [] by rw [hW]; exact Bs.start HSt1.out.b)
          rw [rounds_succ]
          go_wp2_with fail
          rw [← hW]
          clear hW
          go_loopw [10, 11] (fun u i wr => ∃ (k ct gt : Nat) (G : List Gt) (T : List Int), k ≤ 2 ∧ i = .int .i64 k ∧ u = .slice (some ⟨gt, 0, none⟩) k ct ∧ rnds (fun h k => put1 h ⟨4, vy2, at0 xs k⟩) GS1 k = (G, T) ∧ Bs y1 wr lo bx G v gt k ct T) (fun _ i _ => 2 - (intOf i).toNat)
          case atStart => exact ⟨0, 0, _, _, _, Nat.zero_le _, rfl, rfl, rfl, HS2.out⟩
          case round =>
            obtain ⟨k, ct2, gt2, G2, T2, hk, rfl, rfl, hsp, hbs⟩ := hrel
            have hGl := rnds_le (f := fun h k => put1 h ⟨4, vy2, at0 xs k⟩) (m := 1) (by intro h k; simp [put1]) GS1 k
            rw [hsp] at hGl
            simp only at hGl
            have HSP2 := Lib.hid hsp
            have HBS2 := Lib.hid hbs
            have zr2 := hbs.l.size
            have gtl2 := hbs.ge
            clear hsp hbs
            by_cases hlt : k < 2
            · have hk' : (k : Int) < 2 := by omega
              have hk4 : (k : Int) < 4 := by omega
              have HST := Lib.hid (rnds_succ (fun h k => put1 h ⟨4, vy2, at0 xs k⟩) GS1 k HSP2.out)
              have hcx := HRx2.out.elemAt k (by rw [HLx.out]; omega)
              obtain ⟨vx, hvx⟩ : ∃ z, z = at0 xs (k : Int) := ⟨_, rfl⟩
              rw [← hvx] at hcx
              have HVx := Lib.hid hvx
              have HCx := Lib.hid hcx
              have hcx0 := HBS2.out.cell (HFx2.out _ _ rfl) HCx.out
              have hcy0 := HBS2.out.cell (HFy2.out _ _ rfl) HCy2.out
              clear hvx hcx
              obtain ⟨G9, e9⟩ : ∃ X, X = G2 ++ [⟨4, vy2, vx⟩] := ⟨_, rfl⟩
              have E9 := Lib.hid e9
              clear e9
              have HN : Hid (rnds (fun h k => put1 h ⟨4, vy2, at0 xs k⟩) GS1 (k + 1) = (G9, T2 ++ [(G2.length : Int)])) := by show _ = _; rw [HST.out, E9.out, HVx.out]; simp [put1]
              have HPUT : ∀ W, Bld W lo bx G2 v → Calls Try.prog 94 #[.pointer (some ⟨bx, 0, none⟩), .int .i64 4, .int .i64 vy2, .int .i64 vx] W fun e w' => e = .returned (.int .i64 (G2.length : Int)) ∧ Bld w' lo bx G9 v ∧ Fr bx W w' ∧ Below lo W w' := fun W h => by
                have := l14Put_any G2 4 vy2 vx v lo bx W h (by omega)
                rw [← E9.out] at this; exact this
              have HPT := Lib.hid HPUT
              clear HPUT
              go_wp2_with fail
              go_region_held3 (fun w' => w'.cell? ⟨blx, offx + k, none⟩ = some (.int .i64 vx) ∧ w'.cell? ⟨bly, offy + 2, none⟩ = some (.int .i64 vy2)) (first | go_keep)
                (first | (go_at_call 94; refine (HPT.out _ (HBS2.out.drew).b).mono ?_; rintro e w2 ⟨rfl, hB2, hF2, hL2⟩; have S1 := Lib.hid ((HBS2.out.drew).on hB2 hF2 hL2); have z1 : wr.heap.size ≤ w2.heap.size := hL2.size; have hcx1 := S1.out.cell (HFx2.out _ _ rfl) HCx.out; have hcy1 := S1.out.cell (HFy2.out _ _ rfl) HCy2.out; clear hB2 hF2 hL2) | (refine step_push _ rfl (.tmp 41) (.tmp 52) rfl y1.heap.size gt2 k ct2 T2 (G2.length : Int) w2.heap.size 1 (by rfl) (by rfl) (S1.out.o.alloc _) (by go_simp) (by omega) (by simp; omega) ?_; intro g6 d6 w8 ho6 hb6 hg6 hat6; have HP := Lib.hid (S1.out.push _ ho6 hb6 hg6 hat6); have hcx2 := HP.out.cell (HFx2.out _ _ rfl) HCx.out; have hcy2 := HP.out.cell (HFy2.out _ _ rfl) HCy2.out; clear ho6 hb6 hg6 hat6))
              all_goals go_wp2_with fail
              all_goals go_roundw
              all_goals first
                | (show _ < _; first | (simp [intOf]; done) | (simp [intOf]; omega))
                | exact ⟨k + 1, d6, g6, _, _, by omega, by go_num, rfl, HN.out, HP.out⟩
                | ((repeat apply Exists.intro); exact ⟨⟨k + 1, d6, g6, _, _, by omega, by go_num, rfl, HN.out, HP.out⟩, rfl⟩)
            · obtain rfl : k = 2 := by omega
              obtain ⟨wr2, hwr⟩ : ∃ X, X = wr := ⟨_, rfl⟩
              subst hwr
              have hpl : T2.length = 2 := by have := rnds_len (fun h k => put1 h ⟨4, vy2, at0 xs k⟩) GS1 2; rw [HSP2.out] at this; exact this
              have HPL2 := Lib.hid hpl
              have hRow : rowP (at0 ys ((1 : Nat) + 1 : Nat)) xs 2 GS1 = (G2, T2) := by rw [← HSP2.out, HVy2.out]; rfl
              have HR2 := Lib.hid hRow
              have hown := HSt1.out.o.later (HBS2.out.r.kp HSt1.out.f)
              have HD2 := Lib.hid (rd_drop hown.rd 2)
              have HTk2 := Lib.hid (hown.rd.take 2)
              have hfr := HBS2.out.r.frn HSt1.out.f
              have HFR2 := Lib.hid hfr
              have hG2 : G2.length ≤ GS1.length + 2 := by have := rnds_le (f := fun h k => put1 h ⟨4, vy2, at0 xs k⟩) (m := 1) (by intro h k; simp [put1]) GS1 2; rw [HSP2.out] at this; simp only at this; omega
              have HDL2 : Hid ((Tm1.drop 2).length = 2) := by show _ = _; rw [List.length_drop, HLT1.out]
              have HTL2 : Hid ((Tm1.take 2).length = 2) := by show _ = _; rw [List.length_take, HLT1.out]; rfl
              clear hpl hRow hown hfr
              go_wp2_with fail
              refine (l14Sum1 G2 0 v lo bx _ HBS2.out.b (by omega) (Tm1.drop 2) (some ⟨gm1, 2, none⟩) (cm1 - 2) HDL2.out HD2.out (fun b off e => by cases e; exact HFR2.out) T2 (some ⟨gt2, 0, none⟩) ct2 HPL2.out HBS2.out.o.rd (fun b off e => by cases e; exact HBS2.out.f)).mono ?_
              rintro e x2 ⟨gh2, ch2, rfl, hs⟩
              obtain ⟨GS2, TS2, hsum⟩ : ∃ a b, sumP (Tm1.drop 2) T2 0 1 G2 = (a, b) := ⟨_, _, rfl⟩
              rw [hsum] at hs
              have hlen := sumP_len (Tm1.drop 2) T2 0 1 G2
              rw [hsum] at hlen
              simp only at hlen
              have hSG : GS2.length ≤ G2.length + 20 := by omega
              have HSL2 := Lib.hid hlen.2
              have HM2 : Hid (mulR xs ys gs 2 = (GS2, Tm1.take 2 ++ TS2)) := by show _ = _; rw [mulR_succ xs ys gs 1 HM1.out HR2.out]; rw [show sumP (Tm1.drop (1 + 1)) T2 0 (2 - 1) G2 = (GS2, TS2) from hsum]
              have HX2 := Lib.hid hs
              have zx := hs.l.size
              clear hsum hlen hs
              have HTk := Lib.hid (HX2.out.r.rd (fun b off e => by cases e; exact HFR2.out) HTk2.out)
              have zg := HX2.out.ge
              have cA := HTL2.out
              have cB := HSL2.out
              go_wp2_with (first | (refine wpList_appm _ rfl el_int (.tmp 60) (.tmp 63) rfl x2.heap.size x2.heap.size 0 0 [] (I64 (Tm1.take 2)) (some ⟨gm1, 0, none⟩) 2 cm1 (by rfl) (by rfl) (own_last _ _ _ _ _ rfl (Nat.le_refl _)) (by rw [show (I64 (Tm1.take 2)).length = (Tm1.take 2).length from List.length_map .., cA]) (HTk.out.below ((Below.refl _ _).alloc (Nat.le_refl _) _)) (I64_one _) (by intro h; cases h) (by omega) (by omega) (by simp) ?_; intro g7 c7 y7 ho7 hb7 hg7 hat7) | (refine wpList_appm _ rfl el_int (.tmp 64) (.tmp 65) rfl x2.heap.size g7 (0 + 2) c7 _ (I64 TS2) (some ⟨gh2, 0, none⟩) 2 ch2 (by rfl) (by rfl) ho7 (by rw [show (I64 TS2).length = TS2.length from List.length_map .., cB]) (HX2.out.o.later (((Kp.refl _ _).alloc _).grown hg7 (by intro e; have := Option.some.inj e; omega))).rd (I64_one _) (by intro h; cases h) (by omega) (by omega) (by have := hb7.size; simp at this; omega) ?_; intro gm2 cm2 y2 ho8 hb8 hg8 hat8))
              have hbb : Below x2.heap.size x2 y2 := (((Below.refl _ _).alloc (Nat.le_refl _) _).trans hb7).trans hb8
              obtain ⟨Tm2, hTm⟩ : ∃ X, X = Tm1.take 2 ++ TS2 := ⟨_, rfl⟩
              have h4 : Own y2 x2.heap.size 3 1 (some ⟨gm2, 0, none⟩) 4 cm2 (I64 Tm2) := by rw [hTm, show I64 (Tm1.take 2 ++ TS2) = [] ++ I64 (Tm1.take 2) ++ I64 TS2 by simp [I64]]; exact ho8
              have HSt2 := Lib.hid (((HSt1.out.then HBS2.out).then HX2.out).then (Bs.mk_list HX2.out.b hbb h4))
              have HLT2 : Hid (Tm2.length = 4) := by show _ = _; rw [hTm, List.length_append, cA, cB]
              have hM := HM2.out
              rw [← hTm] at hM
              clear HM2
              have HM2 := Lib.hid hM
              clear hM hTm h4 hbb ho8 hb8 hg8 hat8 ho7 hb7 hg7 hat7 HTk cA cB HBS2 HX2 HTk2 HD2 HFR2 HSP2 hk hlt zg zx
              go_wp2_with fail
              have HRx3 := Lib.hid (HSt2.out.r.rd HFx0.out HRx0.out)
              have HFx3 := Lib.hid (HSt2.out.r.fra HFx0.out)
              have HFy3 := Lib.hid (HSt2.out.r.fra HFy0.out)
              have hy := (HSt2.out.r.rd HFy0.out HRy0.out).elemAt 3 (by rw [HLy.out]; omega)
              obtain ⟨vy3, hvy⟩ : ∃ z, z = at0 ys ((3 : Nat) : Int) := ⟨_, rfl⟩
              rw [← hvy] at hy
              have HVy3 := Lib.hid hvy
              have HCy3 := Lib.hid hy
              clear hvy hy
              have hcap := own_cap' HSt2.out.o
              obtain ⟨W3, hW⟩ : ∃ X, X = y2.alloc (.cells #[] 3) := ⟨_, rfl⟩
              have HS3 := Lib.hid (show Bs y2 W3 lo bx GS2 v y2.heap.size 0 0 [] by rw [hW]; exact Bs.start HSt2.out.b)
              rw [rounds_succ]
              go_wp2_with fail
              rw [← hW]
              clear hW
              go_loopw [10, 11] (fun u i wr => ∃ (k ct gt : Nat) (G : List Gt) (T : List Int), k ≤ 1 ∧ i = .int .i64 k ∧ u = .slice (some ⟨gt, 0, none⟩) k ct ∧ rnds (fun h k => put1 h ⟨4, vy3, at0 xs k⟩) GS2 k = (G, T) ∧ Bs y2 wr lo bx G v gt k ct T) (fun _ i _ => 1 - (intOf i).toNat)
              case atStart => exact ⟨0, 0, _, _, _, Nat.zero_le _, rfl, rfl, rfl, HS3.out⟩
              case round =>
                obtain ⟨k, ct3, gt3, G3, T3, hk, rfl, rfl, hsp, hbs⟩ := hrel
                have hGl := rnds_le (f := fun h k => put1 h ⟨4, vy3, at0 xs k⟩) (m := 1) (by intro h k; simp [put1]) GS2 k
                rw [hsp] at hGl
                simp only at hGl
                have HSP3 := Lib.hid hsp
                have HBS3 := Lib.hid hbs
                have zr3 := hbs.l.size
                have gtl3 := hbs.ge
                clear hsp hbs
                by_cases hlt : k < 1
                · have hk' : (k : Int) < 1 := by omega
                  have hk4 : (k : Int) < 4 := by omega
                  have HST := Lib.hid (rnds_succ (fun h k => put1 h ⟨4, vy3, at0 xs k⟩) GS2 k HSP3.out)
                  have hcx := HRx3.out.elemAt k (by rw [HLx.out]; omega)
                  obtain ⟨vx, hvx⟩ : ∃ z, z = at0 xs (k : Int) := ⟨_, rfl⟩
                  rw [← hvx] at hcx
                  have HVx := Lib.hid hvx
                  have HCx := Lib.hid hcx
                  have hcx0 := HBS3.out.cell (HFx3.out _ _ rfl) HCx.out
                  have hcy0 := HBS3.out.cell (HFy3.out _ _ rfl) HCy3.out
                  clear hvx hcx
                  obtain ⟨G9, e9⟩ : ∃ X, X = G3 ++ [⟨4, vy3, vx⟩] := ⟨_, rfl⟩
                  have E9 := Lib.hid e9
                  clear e9
                  have HN : Hid (rnds (fun h k => put1 h ⟨4, vy3, at0 xs k⟩) GS2 (k + 1) = (G9, T3 ++ [(G3.length : Int)])) := by show _ = _; rw [HST.out, E9.out, HVx.out]; simp [put1]
                  have HPUT : ∀ W, Bld W lo bx G3 v → Calls Try.prog 94 #[.pointer (some ⟨bx, 0, none⟩), .int .i64 4, .int .i64 vy3, .int .i64 vx] W fun e w' => e = .returned (.int .i64 (G3.length : Int)) ∧ Bld w' lo bx G9 v ∧ Fr bx W w' ∧ Below lo W w' := fun W h => by
                    have := l14Put_any G3 4 vy3 vx v lo bx W h (by omega)
                    rw [← E9.out] at this; exact this
                  have HPT := Lib.hid HPUT
                  clear HPUT
                  go_wp2_with fail
                  go_region_held3 (fun w' => w'.cell? ⟨blx, offx + k, none⟩ = some (.int .i64 vx) ∧ w'.cell? ⟨bly, offy + 3, none⟩ = some (.int .i64 vy3)) (first | go_keep)
                    (first | (go_at_call 94; refine (HPT.out _ (HBS3.out.drew).b).mono ?_; rintro e w2 ⟨rfl, hB2, hF2, hL2⟩; have S1 := Lib.hid ((HBS3.out.drew).on hB2 hF2 hL2); have z1 : wr.heap.size ≤ w2.heap.size := hL2.size; have hcx1 := S1.out.cell (HFx3.out _ _ rfl) HCx.out; have hcy1 := S1.out.cell (HFy3.out _ _ rfl) HCy3.out; clear hB2 hF2 hL2) | (refine step_push _ rfl (.tmp 41) (.tmp 52) rfl y2.heap.size gt3 k ct3 T3 (G3.length : Int) w2.heap.size 1 (by rfl) (by rfl) (S1.out.o.alloc _) (by go_simp) (by omega) (by simp; omega) ?_; intro g6 d6 w8 ho6 hb6 hg6 hat6; have HP := Lib.hid (S1.out.push _ ho6 hb6 hg6 hat6); have hcx2 := HP.out.cell (HFx3.out _ _ rfl) HCx.out; have hcy2 := HP.out.cell (HFy3.out _ _ rfl) HCy3.out; clear ho6 hb6 hg6 hat6))
                  all_goals go_wp2_with fail
                  all_goals go_roundw
                  all_goals first
                    | (show _ < _; first | (simp [intOf]; done) | (simp [intOf]; omega))
                    | exact ⟨k + 1, d6, g6, _, _, by omega, by go_num, rfl, HN.out, HP.out⟩
                    | ((repeat apply Exists.intro); exact ⟨⟨k + 1, d6, g6, _, _, by omega, by go_num, rfl, HN.out, HP.out⟩, rfl⟩)
                · obtain rfl : k = 1 := by omega
                  obtain ⟨wr3, hwr⟩ : ∃ X, X = wr := ⟨_, rfl⟩
                  subst hwr
                  have hpl : T3.length = 1 := by have := rnds_len (fun h k => put1 h ⟨4, vy3, at0 xs k⟩) GS2 1; rw [HSP3.out] at this; exact this
                  have HPL3 := Lib.hid hpl
                  have hRow : rowP (at0 ys ((2 : Nat) + 1 : Nat)) xs 1 GS2 = (G3, T3) := by rw [← HSP3.out, HVy3.out]; rfl
                  have HR3 := Lib.hid hRow
                  have hown := HSt2.out.o.later (HBS3.out.r.kp HSt2.out.f)
                  have HD3 := Lib.hid (rd_drop hown.rd 3)
                  have HTk3 := Lib.hid (hown.rd.take 3)
                  have hfr := HBS3.out.r.frn HSt2.out.f
                  have HFR3 := Lib.hid hfr
                  have hG3 : G3.length ≤ GS2.length + 1 := by have := rnds_le (f := fun h k => put1 h ⟨4, vy3, at0 xs k⟩) (m := 1) (by intro h k; simp [put1]) GS2 1; rw [HSP3.out] at this; simp only at this; omega
                  have HDL3 : Hid ((Tm2.drop 3).length = 1) := by show _ = _; rw [List.length_drop, HLT2.out]
                  have HTL3 : Hid ((Tm2.take 3).length = 3) := by show _ = _; rw [List.length_take, HLT2.out]; rfl
                  clear hpl hRow hown hfr
                  go_wp2_with fail
                  refine (l14Sum0 G3 0 v lo bx _ HBS3.out.b (by omega) (Tm2.drop 3) (some ⟨gm2, 3, none⟩) (cm2 - 3) HDL3.out HD3.out (fun b off e => by cases e; exact HFR3.out) T3 (some ⟨gt3, 0, none⟩) ct3 HPL3.out HBS3.out.o.rd (fun b off e => by cases e; exact HBS3.out.f)).mono ?_
                  rintro e x3 ⟨gh3, ch3, rfl, hs⟩
                  obtain ⟨GS3, TS3, hsum⟩ : ∃ a b, sumP (Tm2.drop 3) T3 0 0 G3 = (a, b) := ⟨_, _, rfl⟩
                  rw [hsum] at hs
                  have hlen := sumP_len (Tm2.drop 3) T3 0 0 G3
                  rw [hsum] at hlen
                  simp only at hlen
                  have hSG : GS3.length ≤ G3.length + 20 := by omega
                  have HSL3 := Lib.hid hlen.2
                  have HM3 : Hid (mulR xs ys gs 3 = (GS3, Tm2.take 3 ++ TS3)) := by show _ = _; rw [mulR_succ xs ys gs 2 HM2.out HR3.out]; rw [show sumP (Tm2.drop (2 + 1)) T3 0 (2 - 2) G3 = (GS3, TS3) from hsum]
                  have HX3 := Lib.hid hs
                  have zx := hs.l.size
                  clear hsum hlen hs
                  have HTk := Lib.hid (HX3.out.r.rd (fun b off e => by cases e; exact HFR3.out) HTk3.out)
                  have zg := HX3.out.ge
                  have cA := HTL3.out
                  have cB := HSL3.out
                  go_wp2_with (first | (refine wpList_appm _ rfl el_int (.tmp 60) (.tmp 63) rfl x3.heap.size x3.heap.size 0 0 [] (I64 (Tm2.take 3)) (some ⟨gm2, 0, none⟩) 3 cm2 (by rfl) (by rfl) (own_last _ _ _ _ _ rfl (Nat.le_refl _)) (by rw [show (I64 (Tm2.take 3)).length = (Tm2.take 3).length from List.length_map .., cA]) (HTk.out.below ((Below.refl _ _).alloc (Nat.le_refl _) _)) (I64_one _) (by intro h; cases h) (by omega) (by omega) (by simp) ?_; intro g7 c7 y7 ho7 hb7 hg7 hat7) | (refine wpList_appm _ rfl el_int (.tmp 64) (.tmp 65) rfl x3.heap.size g7 (0 + 3) c7 _ (I64 TS3) (some ⟨gh3, 0, none⟩) 1 ch3 (by rfl) (by rfl) ho7 (by rw [show (I64 TS3).length = TS3.length from List.length_map .., cB]) (HX3.out.o.later (((Kp.refl _ _).alloc _).grown hg7 (by intro e; have := Option.some.inj e; omega))).rd (I64_one _) (by intro h; cases h) (by omega) (by omega) (by have := hb7.size; simp at this; omega) ?_; intro gm3 cm3 y3 ho8 hb8 hg8 hat8))
                  have hbb : Below x3.heap.size x3 y3 := (((Below.refl _ _).alloc (Nat.le_refl _) _).trans hb7).trans hb8
                  obtain ⟨Tm3, hTm⟩ : ∃ X, X = Tm2.take 3 ++ TS3 := ⟨_, rfl⟩
                  have h4 : Own y3 x3.heap.size 3 1 (some ⟨gm3, 0, none⟩) 4 cm3 (I64 Tm3) := by rw [hTm, show I64 (Tm2.take 3 ++ TS3) = [] ++ I64 (Tm2.take 3) ++ I64 TS3 by simp [I64]]; exact ho8
                  have HSt3 := Lib.hid (((HSt2.out.then HBS3.out).then HX3.out).then (Bs.mk_list HX3.out.b hbb h4))
                  have HLT3 : Hid (Tm3.length = 4) := by show _ = _; rw [hTm, List.length_append, cA, cB]
                  have hM := HM3.out
                  rw [← hTm] at hM
                  clear HM3
                  have HM3 := Lib.hid hM
                  clear hM hTm h4 hbb ho8 hb8 hg8 hat8 ho7 hb7 hg7 hat7 HTk cA cB HBS3 HX3 HTk3 HD3 HFR3 HSP3 hk hlt zg zx
                  go_wp2_with fail
                  rw [rounds_succ]
                  go_wp2_with fail
                  go_ret
                  have hp : mulP xs ys gs = (GS3, Tm3) := HM3.out
                  exact ⟨gm3, cm3, rfl, by rw [hp]; exact HSt3.out⟩
end Go.Proofs.Ytfcijloiebnloaa
