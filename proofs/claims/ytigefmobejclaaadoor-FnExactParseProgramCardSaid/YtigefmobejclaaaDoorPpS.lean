/- A text parsed: the walk of the reference's ParseProgram. -/
import Derived.Test.YtigefmobejclaaaDoorPp
import Derived.Deep.CutRange
namespace Go.Proofs.YtigefmobejclaaaDoor
open Go.RowKit
set_option linter.unusedVariables false
set_option linter.unusedSimpArgs false

set_option maxRecDepth 100000 in
set_option maxHeartbeats 8000000 in
theorem sParseProgram_any (l : Bs) (hs : l.length ≤ 1099511627) (w : World) :
    Calls Tryd.prog 19 #[.string (bA l)] w fun e w' => IsPP l w.heap.size e w' ∧ Below w.heap.size w w' := by
  have HN0 := Lib.hid (own_new w 26 6)
  by_cases hsz : l.length ≤ 20000
  case neg =>
    have t0 : decide ((l.length : Int) > 20000) = true := decide_eq_true (by omega)
    have t1 : decide ((20000 : Int) < (l.length : Int)) = true := decide_eq_true (by omega)
    have HPP := Lib.hid (show pp l = ([], -1) by unfold pp; rw [if_neg hsz])
    go_enter Tryd.func19, Tryd.ntmps19
    go_wp2_with fail
    go_ret2
    exact ⟨IsPP.mk HPP.out HN0.out, (by (repeat (first | with_reducible exact Below.refl _ _ | (with_reducible refine bel_next ?_ ?_ (by assumption)) | (with_reducible refine Below.alloc ?_ ?_ _) | (with_reducible refine Below.drew ?_) | (with_reducible refine below_drewN ?_ _) | (with_reducible refine Below.setCell ?_ ?_ _))) <;> (first | omega | (simp; done) | (simp; omega)))⟩
  have t0 : decide ((l.length : Int) > 20000) = false := decide_eq_false (by omega)
  have t1 : decide ((20000 : Int) < (l.length : Int)) = false := decide_eq_false (by omega)
  have HPP := Lib.hid (show pp l = ppL (spl 10 l) 0 [] by unfold pp; rw [if_pos hsz])
  have HST := Lib.hid (PPS.start l)
  generalize ppL (spl 10 l) 0 [] = res at HPP HST
  go_enter Tryd.func19, Tryd.ntmps19
  go_wp2_with fail
  go_loopw [4, 5, 6, 7] (fun v b m i wr => ∃ (k bb mm g cap : Nat) (acc : List St), k ≤ l.length + 1 ∧ i = .int .i64 (k : Int) ∧ b = .int .i64 (bb : Int) ∧ m = .int .i64 (mm : Int) ∧ v = .slice (some ⟨g, 0, none⟩) acc.length cap ∧ (acc.length ≤ k ∧ mm ≤ k ∧ bb ≤ k) ∧ PPS l res bb k mm acc ∧ Own wr w.heap.size 26 6 (some ⟨g, 0, none⟩) acc.length cap (stCells acc) ∧ Below w.heap.size w wr) (fun _ _ _ i _ => l.length + 1 - (intOf i).toNat)
  case atStart => exact ⟨0, 0, 0, w.heap.size, 0, [], Nat.zero_le _, rfl, rfl, rfl, rfl, ⟨Nat.le_refl _, Nat.le_refl _, Nat.le_refl _⟩, HST.out, HN0.out, (by (repeat (first | with_reducible exact Below.refl _ _ | (with_reducible refine bel_next ?_ ?_ (by assumption)) | (with_reducible refine Below.alloc ?_ ?_ _) | (with_reducible refine Below.drew ?_) | (with_reducible refine below_drewN ?_ _) | (with_reducible refine Below.setCell ?_ ?_ _))) <;> (first | omega | (simp; done) | (simp; omega)))⟩
  case round =>
    clear HST HN0
    obtain ⟨k, bb, mm, g, cap, acc, hk, rfl, rfl, rfl, rfl, ⟨hacc, hmm, hbbk⟩, hpps, hown, hbw⟩ := hrel
    have HOWN := Lib.hid hown
    have hgb := hown.blk _ rfl
    simp only at hgb
    have hzw := hbw.size
    have HBW := Lib.hid hbw
    have HPS := Lib.hid hpps
    clear hown hbw hpps
    by_cases hle : k ≤ l.length
    case neg =>
      have t4 : decide ((k : Int) ≤ (l.length : Int)) = false := decide_eq_false (by omega)
      have HRES := Lib.hid (HPS.out.2 hle)
      have haccm : acc.length ≤ maxLen := by unfold maxLen; omega
      have HPO := Lib.hid (sProgramOk_any acc _ cap wr haccm HOWN.out.rd)
      cases hok : progOk acc with
      | false =>
        have HR2 := Lib.hid (show pp l = ([], -1) by rw [HPP.out, HRES.out, ppL_no _ _ hok])
        rw [hok] at HPO
        clear hok
        go_wp2_with fail
        refine (HPO.out).mono ?_
        rintro e w3 ⟨rfl, hb3⟩
        have hbw := HBW.out
        have z3 := hb3.size
        go_wp2_with fail
        go_ret2
        exact ⟨IsPP.mk HR2.out ((own_new w3 26 6).lo (by omega)), (by (repeat (first | with_reducible exact Below.refl _ _ | (with_reducible refine bel_next ?_ ?_ (by assumption)) | (with_reducible refine Below.alloc ?_ ?_ _) | (with_reducible refine Below.drew ?_) | (with_reducible refine below_drewN ?_ _) | (with_reducible refine Below.setCell ?_ ?_ _))) <;> (first | omega | (simp; done) | (simp; omega)))⟩
      | true =>
        have HR2 := Lib.hid (show pp l = (acc, 0) by rw [HPP.out, HRES.out, ppL_end _ _ hok])
        rw [hok] at HPO
        clear hok
        go_wp2_with fail
        refine (HPO.out).mono ?_
        rintro e w3 ⟨rfl, hb3⟩
        have hbw := HBW.out
        have HO3 := Lib.hid (HOWN.out.keep (w' := w3) (fun a ha => (Kp.refl _ _).below hb3))
        go_wp2_with fail
        go_ret2
        exact ⟨IsPP.mk HR2.out HO3.out, (by (repeat (first | with_reducible exact Below.refl _ _ | (with_reducible refine bel_next ?_ ?_ (by assumption)) | (with_reducible refine Below.alloc ?_ ?_ _) | (with_reducible refine Below.drew ?_) | (with_reducible refine below_drewN ?_ _) | (with_reducible refine Below.setCell ?_ ?_ _))) <;> (first | omega | (simp; done) | (simp; omega)))⟩
    have t4 : decide ((k : Int) ≤ (l.length : Int)) = true := decide_eq_true (by omega)
    have hend : (∃ h : k < l.length, l[k] ≠ 10) ∨ (∀ h : k < l.length, l[k] = 10) := by
      by_cases h : k < l.length
      · by_cases h2 : l[k] = 10
        · exact .inr fun _ => h2
        · exact .inl ⟨h, h2⟩
      · exact .inr fun h' => absurd h' h
    rcases hend with ⟨hlt, hc⟩ | hc
    · have HN := Lib.hid (HPS.out.skip hlt hc)
      have t5 : decide ((k : Int) < (l.length : Int)) = true := decide_eq_true (by omega)
      obtain ⟨x, hx⟩ : ∃ x : Int, x = (l[k].toNat : Int) := ⟨_, rfl⟩
      have hgbt : ∀ (h : k < (bA l).size), (((bA l)[k]'h).toNat : Int) = x := fun h => by rw [hx]; rfl
      have hx10 : x ≠ 10 := fun e => hc (by apply UInt8.toNat_inj.1; rw [show (10 : UInt8).toNat = 10 from rfl]; omega)
      have t6 : (x != 10) = true := by simpa using hx10
      have t7 : (x == 10) = false := beq_eq_false_iff_ne.2 hx10
      clear hc hx hx10
      go_wp2_with fail
      go_roundw
      case rel => exact ⟨k + 1, bb, mm, g, cap, acc, by omega, by go_num, rfl, rfl, rfl, ⟨by omega, by omega, by omega⟩, HN.out, HOWN.out, HBW.out⟩
      case measure => first | (simp [intOf]; done) | (simp [intOf]; omega)
    have HLN := Lib.hid (HPS.out.line hle hc)
    obtain ⟨hbb, r, hres, hnext⟩ := HLN.out
    have hsub := ba_sub l bb k hbb hle
    have hyl : ((l.drop bb).take (k - bb)).length ≤ 20000 := by rw [List.length_take, List.length_drop]; omega
    have HRES := Lib.hid hres
    have HNX := Lib.hid hnext
    clear hres hnext HLN HPS
    generalize (l.drop bb).take (k - bb) = y at hsub hyl HRES
    go_upto_region 9 with fail
    go_cut [31] from 16 to 54 (fun v wx => v = .bool false ∧ wx = wr)
    case first =>
      by_cases hlt : k < l.length
      · have t5 : decide ((k : Int) < (l.length : Int)) = true := decide_eq_true (by omega)
        have hgbt : ∀ (h : k < (bA l).size), (((bA l)[k]'h).toNat : Int) = 10 := fun h => by
          have := hc hlt
          show ((l[k]).toNat : Int) = 10
          rw [this]; rfl
        go_wp2_with fail
        go_meet
        exact ⟨rfl, rfl⟩
      · have t5 : decide ((k : Int) < (l.length : Int)) = false := decide_eq_false (by omega)
        go_wp2_with fail
        go_meet
        exact ⟨rfl, rfl⟩
    case rest =>
      obtain ⟨rfl, rfl⟩ := hcut
      clear hc
      by_cases hy : y = []
      · have t5 : (y == []) = true := by rw [hy]; rfl
        have HR2 := Lib.hid (HNX.out (mm + 1) acc (by rw [HRES.out, ppL_skip _ _ _ hy]))
        clear hy HRES HNX
        go_wp2_with fail
        go_roundw
        case rel => exact ⟨k + 1, k + 1, mm + 1, g, cap, acc, by omega, by go_num, by go_num, by go_num, rfl, ⟨by omega, by omega, by omega⟩, HR2.out, HOWN.out, HBW.out⟩
        case measure => first | (simp [intOf]; done) | (simp [intOf]; omega)
      have t5 : (y == []) = false := beq_eq_false_iff_ne.2 hy
      have HPS := Lib.hid (sPst_any y (by omega) wc)
      have HOKY := Lib.hid (fun h => HNX.out (mm + 1) (acc ++ [(pst y).1]) (by rw [HRES.out, ppL_ok _ _ _ hy h]))
      have HBADY := Lib.hid (fun h => HRES.out.trans (ppL_bad (y := y) r mm acc hy h))
      clear hy HRES HNX
      generalize (pst y).1 = s at HPS HOKY
      generalize (pst y).2 = b at HPS HOKY HBADY
      obtain ⟨op, dst, sa, sb, sc, sn⟩ := s
      unfold stV at HPS
      simp only at HPS
      go_wp2_with fail
      refine (HPS.out).mono ?_
      rintro e w3 ⟨rfl, hb3⟩
      have z3 := hb3.size
      have hbw := HBW.out
      have HB3 := Lib.hid (show Below w.heap.size w w3 from (by (repeat (first | with_reducible exact Below.refl _ _ | (with_reducible refine bel_next ?_ ?_ (by assumption)) | (with_reducible refine Below.alloc ?_ ?_ _) | (with_reducible refine Below.drew ?_) | (with_reducible refine below_drewN ?_ _) | (with_reducible refine Below.setCell ?_ ?_ _))) <;> (first | omega | (simp; done) | (simp; omega))))
      have HO3 := Lib.hid (HOWN.out.keep (w' := w3) (fun a ha => (Kp.refl _ _).below hb3))
      cases b
      · have HR2 := Lib.hid (show pp l = ([], (mm : Int) + 1) by rw [HPP.out, HBADY.out rfl])
        go_wp2_with fail
        go_ret2
        have hz3 := HB3.out.size
        have hle3 : w.heap.size ≤ (w3.alloc (.cells #[.int .i64 op, .int .i64 dst, .int .i64 sa, .int .i64 sb, .int .i64 sc, .int .i64 sn] 26)).heap.size := by simp; omega
        have hsz3 : (w3.alloc (.cells #[.int .i64 op, .int .i64 dst, .int .i64 sa, .int .i64 sb, .int .i64 sc, .int .i64 sn] 26)).heap.size = w3.heap.size + 1 := by simp
        have HOZ := (own_new (w3.alloc (.cells #[.int .i64 op, .int .i64 dst, .int .i64 sa, .int .i64 sb, .int .i64 sc, .int .i64 sn] 26)) 26 6).lo hle3
        rw [hsz3] at HOZ
        clear hsz3
        exact ⟨IsPP.mk HR2.out HOZ, (by (repeat (first | with_reducible exact Below.refl _ _ | (with_reducible refine bel_next ?_ ?_ (by assumption)) | (with_reducible refine Below.alloc ?_ ?_ _) | (with_reducible refine Below.drew ?_) | (with_reducible refine below_drewN ?_ _) | (with_reducible refine Below.setCell ?_ ?_ _))) <;> (first | omega | (simp; done) | (simp; omega)))⟩
      · have HR2 := Lib.hid (HOKY.out rfl)
        clear HOKY HBADY hb3 hbw
        go_wp2_with (refine wpList_pushSt _ rfl _ _ rfl w.heap.size g _ cap acc ⟨op, dst, sa, sb, sc, sn⟩ _ 1 (by rfl) (by rfl) (HO3.out.keep (fun a ha => ((Kp.refl _ _).alloc _).alloc _)) (rd_st (w3.alloc (.cells #[.int .i64 op, .int .i64 dst, .int .i64 sa, .int .i64 sb, .int .i64 sc, .int .i64 sn] 26)) ⟨op, dst, sa, sb, sc, sn⟩ 26 (by first | rfl | (simp; done))) (by omega) (by first | omega | (simp; omega)) ?_; intro g7 c7 w7 ho7 hb7 hg7 hgg)
        have hbf : Below w.heap.size w w7 := by
          have hbx := HB3.out
          exact Below.grown (show Below w.heap.size w ((w3.alloc _).alloc _) from (by (repeat (first | with_reducible exact Below.refl _ _ | (with_reducible refine bel_next ?_ ?_ (by assumption)) | (with_reducible refine Below.alloc ?_ ?_ _) | (with_reducible refine Below.drew ?_) | (with_reducible refine below_drewN ?_ _) | (with_reducible refine Below.setCell ?_ ?_ _))) <;> (first | omega | (simp; done) | (simp; omega)))) hg7 (by first | omega | (simp; omega)) (fun q hq => by simp only [Option.some.injEq] at hq; omega)
        go_roundw
        case rel => exact ⟨k + 1, k + 1, mm + 1, g7, c7, acc ++ [⟨op, dst, sa, sb, sc, sn⟩], by omega, by go_num, by go_num, by go_num, by simp, ⟨by simp; omega, by omega, by omega⟩, HR2.out, by simpa using ho7, hbf⟩
        case measure => first | (simp [intOf]; done) | (simp [intOf]; omega)
end Go.Proofs.YtigefmobejclaaaDoor
