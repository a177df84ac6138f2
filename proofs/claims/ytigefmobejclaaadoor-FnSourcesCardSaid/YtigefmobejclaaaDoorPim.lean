/- One line parsed: the walk of the program's ParseStmt. -/
import Derived.Test.YtigefmobejclaaaDoorPimP
import Derived.Maps.OwnSet
import Derived.Maps.OwnOps
import Derived.Deep.CutRange
import Derived.Deep.CutBlock
import Derived.Deep.RegionHeld3
namespace Go.Proofs.YtigefmobejclaaaDoor
open Go.RowKit Go.Maps
set_option linter.unusedVariables false
set_option linter.unusedSimpArgs false

set_option maxRecDepth 100000 in
set_option maxHeartbeats 8000000 in
theorem iParseStmt_any (l : Bs) (hs : l.length ≤ 1048576) (w : World) (hw : Laid w) :
    Calls Tryd.prog 17 #[.string (bA l)] w fun e w' => IsPst l e ∧ Below w.heap.size w w' := by
  have HZ0 := Lib.hid (ZBox.new w)
  have HW := Lib.hid hw
  obtain ⟨m, hm⟩ := hw.most
  obtain ⟨ob, oo, oc, ho, hcw⟩ := hw.words.at
  have hlm := lt_of_cell hm
  have hlo := lt_of_cell ho
  simp only at hlm hlo
  have hlob : ob < w.heap.size := by have := lt_of_cell (hcw 0 (by omega)); simpa using this
  clear hw
  have HSP := Lib.hid (fun W hc => split_c (bA l) 32 m W (by rw [bA_size]; omega) hc)
  simp only [bA_data] at HSP
  have HPL := Lib.hid (spl_mem_len 32 l)
  obtain ⟨p0, ts, hpt⟩ : ∃ p0 ts, spl 32 l = p0 :: ts := by
    cases h : spl 32 l with
    | nil => exact absurd h (spl_ne 32 l)
    | cons a b => exact ⟨a, b, rfl⟩
  have HCAND := Lib.hid (fun s hs hf => cand_of hpt (s := s) hs hf)
  rw [hpt] at HSP HPL
  have htl : ts.length ≤ 1048576 := by have := spl_len 32 l; have h2 := List.count_le_length (a := (32 : UInt8)) (l := l); rw [hpt] at this; simp at this; omega
  clear hpt
  have hmm := @run_makeMap Tryd.prog
  go_enter Tryd.func17, Tryd.ntmps17
  go_wp2_with fail
  refine (HSP.out _ (by go_simp)).mono ?_
  rintro e w1 ⟨rfl, hw1⟩
  have HB1 := Lib.hid (show Below w.heap.size w w1 by
    rw [hw1]; exact ((Below.refl _ _).alloc (Nat.le_refl _) _).alloc (by simp) _)
  have HZ1 := Lib.hid (show ZBox w.heap.size w1 by rw [hw1]; exact HZ0.out.alloc _)
  have HRD1 : Hid (RdC w1 (some ⟨w.heap.size + 1, 0, none⟩) (strV (p0 :: ts))) := Lib.hid (by
    rw [hw1]; simpa using RdC.alloc (w.alloc (.cells #[.int .i64 0, .int .i64 0, .int .i64 0, .int .i64 0, .int .i64 0, .int .i64 0] 26)) (strV (p0 :: ts)).toArray 9)
  have hgw1 : w.heap.size + 1 < w1.heap.size := by rw [hw1]; simp
  have HPC := Lib.hid (show ∀ k (hk : k < (p0 :: ts).length), w1.cell? ⟨w.heap.size + 1, k, none⟩ = some (.string (bA (p0 :: ts)[k])) from fun k hk => by
    rcases HRD1.out with h | ⟨b, o, h1, h2⟩
    · simp [strV] at h
    · cases h1; have := h2 k (by rw [strV_length]; exact hk); simp only [Nat.zero_add] at this; rw [this, strV_get _ _ hk])
  have hgw0 : 0 < w1.heap.size := by omega
  have hgob : ob < w1.heap.size := by omega
  have e1 : (w.alloc (.cells #[.int .i64 0, .int .i64 0, .int .i64 0, .int .i64 0, .int .i64 0, .int .i64 0] 26)).heap.size = w.heap.size + 1 := by simp
  simp only [List.length_cons, e1]
  clear e1
  clear hw1 HZ0 HSP HRD1
  have ho1 := bel_keeps HB1.out (b := 0) (o := 0) (v := .slice (some ⟨ob, oo, none⟩) 14 oc) ho
  have HCW := Lib.hid (show ∀ k : Nat, k < 14 → w1.cell? ⟨ob, oo + k, none⟩ = some (.string (bA (wordB (k : Int)))) from fun k hk => bel_keeps HB1.out (hcw k hk))
  have k1 := HPC.out 0 (by simp)
  simp only [List.getElem_cons_zero] at k1
  clear hcw ho hm
  have HS1 := Lib.hid (ZBox.new w1).sb
  go_wp2_with fail
  go_loopw [20] (fun i wr => ∃ (k : Nat), k ≤ 14 ∧ i = .int .i64 (k : Int) ∧ SB w1.heap.size ⟨opK p0 k, 0, 0, 0, 0, 0⟩ wr ∧ Below w1.heap.size w1 wr) (fun i _ => 14 - (intOf i).toNat)
  case atStart => exact ⟨0, by omega, rfl, HS1.out, (by (repeat (first | with_reducible exact Below.refl _ _ | (with_reducible refine bel_next ?_ ?_ (by assumption)) | (with_reducible refine Below.alloc ?_ ?_ _) | (with_reducible refine Below.drew ?_) | (with_reducible refine below_drewN ?_ _) | (with_reducible refine Below.setCell ?_ ?_ _))) <;> (first | omega | (simp; done) | (simp; omega)))⟩
  case round =>
    obtain ⟨k, hk, rfl, hsb, hbw⟩ := hrel
    have hzw := hbw.size
    have HSB := Lib.hid hsb
    obtain ⟨⟨z0, z1, z2, z3, z4, z5⟩, f0, f1, f2, f3, f4, f5⟩ := hsb.cells
    clear hsb z1 z2 z3 z4 z5 f1 f2 f3 f4 f5
    have ho2 := bel_keeps hbw (b := 0) (o := 0) (v := .slice (some ⟨ob, oo, none⟩) 14 oc) ho1
    have k2 := bel_keeps hbw (b := w.heap.size + 1) (o := 0) (v := .string (bA p0)) k1
    by_cases hk14 : k < 14
    · have hkw := bel_keeps hbw (b := ob) (o := oo + k) (HCW.out k hk14)
      by_cases hk0 : 0 < k
      · have t0 : decide ((k : Int) > 0) = true := decide_eq_true (by omega)
        have t1 : decide ((0 : Int) < k) = true := decide_eq_true (by omega)
        have t2 : decide ((k : Int) < 14) = true := decide_eq_true (by omega)
        by_cases hc : wordB (k : Int) = p0
        · have t3 : (wordB (k : Int) == p0) = true := by rw [hc]; simp
          have HN := Lib.hid (show opK p0 (k + 1) = (k : Int) by
            have hc' : opW.getD k [] = p0 := hc
            simp only [opK, t0, hc']; simp)
          clear hc
          go_wp2_with fail
          go_roundw
          case rel => exact ⟨k + 1, by omega, by go_num, by rw [HN.out]; exact HSB.out.set 0 (by omega) _, (by (repeat (first | with_reducible exact Below.refl _ _ | (with_reducible refine bel_next ?_ ?_ (by assumption)) | (with_reducible refine Below.alloc ?_ ?_ _) | (with_reducible refine Below.drew ?_) | (with_reducible refine below_drewN ?_ _) | (with_reducible refine Below.setCell ?_ ?_ _))) <;> (first | omega | (simp; done) | (simp; omega)))⟩
          case measure => first | (simp [intOf]; done) | (simp [intOf]; omega)
        · have t3 : (wordB (k : Int) == p0) = false := beq_eq_false_iff_ne.2 hc
          have HN := Lib.hid (show opK p0 (k + 1) = opK p0 k by
            have hc' : ¬ opW.getD k [] = p0 := hc
            simp only [opK, hc']; simp)
          clear hc
          go_wp2_with fail
          go_roundw
          case rel => exact ⟨k + 1, by omega, by go_num, by rw [HN.out]; exact HSB.out, (by (repeat (first | with_reducible exact Below.refl _ _ | (with_reducible refine bel_next ?_ ?_ (by assumption)) | (with_reducible refine Below.alloc ?_ ?_ _) | (with_reducible refine Below.drew ?_) | (with_reducible refine below_drewN ?_ _) | (with_reducible refine Below.setCell ?_ ?_ _))) <;> (first | omega | (simp; done) | (simp; omega)))⟩
          case measure => first | (simp [intOf]; done) | (simp [intOf]; omega)
      · obtain rfl : k = 0 := by omega
        have hk0w := bel_keeps hbw (b := ob) (o := oo) (v := .string (bA (wordB 0))) (by simpa using HCW.out 0 (by omega))
        go_wp2_with fail
        go_roundw
        case rel => exact ⟨1, by omega, by go_num, HSB.out, (by (repeat (first | with_reducible exact Below.refl _ _ | (with_reducible refine bel_next ?_ ?_ (by assumption)) | (with_reducible refine Below.alloc ?_ ?_ _) | (with_reducible refine Below.drew ?_) | (with_reducible refine below_drewN ?_ _) | (with_reducible refine Below.setCell ?_ ?_ _))) <;> (first | omega | (simp; done) | (simp; omega)))⟩
        case measure => first | (simp [intOf]; done) | (simp [intOf]; omega)
    · obtain rfl : k = 14 := by omega
      have hq := opOf_range p0
      have HSQ : Hid (SB w1.heap.size ⟨opOf p0, 0, 0, 0, 0, 0⟩ wr) := HSB
      clear HSB z0 f0
      generalize opOf p0 = q at HSQ HCAND hq
      obtain ⟨wa, hwa⟩ : ∃ wa, wa = wr := ⟨_, rfl⟩
      subst hwa
      obtain ⟨hq0, hq1⟩ := hq
      obtain ⟨⟨z0, _, _, _, _, _⟩, f0, _, _, _, _, _⟩ := HSQ.out.cells
      have hmp := Mp.made wa
      have HBN : Hid (inB q 3 9 = decide (3 ≤ q ∧ q ≤ 9)) := Lib.hid (by unfold inB; by_cases h1 : 3 ≤ q <;> by_cases h2 : q ≤ 9 <;> simp [h1, h2])
      go_upto_if 45 with (first | (go_at_call 32; refine (isBinary_any _ _).mono ?_; rintro e w' ⟨rfl, rfl⟩) | (refine wpList_mapIns wa.heap.size wa _ rfl _ _ _ rfl wa.heap.size _ _ (by rfl) hmp (by omega) _ _ (by rfl) (by rfl) (by omega) (by omega) (by simp) ?_; clear hmp; intro wm hmp; have yz := hmp.2.1.size; have zm := bel_keeps hmp.2.1 (b := w1.heap.size) (o := 0) (v := .int .i64 q) z0) | (at_lookup; refine wpList_mapGet _ _ _ rfl _ _ rfl _ _ _ (by rfl) hmp q (formM q) (by rfl) (by omega) (by omega) (formD_at (by omega) (by omega)) ?_))
      have HMB := Lib.hid hmp.2.1
      clear hmp yz
      go_cut [9] from 43 to 45 (fun v wx => v = .string (bA (formA q)) ∧ wx = wm)
      case first =>
        cases hb39 : inB q 3 9
        · have hn : ¬ (3 ≤ q ∧ q ≤ 9) := by rw [HBN.out] at hb39; exact of_decide_eq_false hb39
          have HN := Lib.hid hn
          clear hn
          go_wp2_with fail
          go_meet
          exact ⟨by unfold formA; rw [if_neg HN.out], rfl⟩
        · have hn : 3 ≤ q ∧ q ≤ 9 := by rw [HBN.out] at hb39; exact of_decide_eq_true hb39
          have HN := Lib.hid hn
          clear hn
          go_wp2_with fail
          go_meet
          exact ⟨by unfold formA; rw [if_pos HN.out], rfl⟩
      case rest =>
        obtain ⟨rfl, rfl⟩ := hcut
        clear HBN
        have HFL := Lib.hid (formA_len q)
        obtain ⟨f, hf⟩ : ∃ f, formA q = f := ⟨_, rfl⟩
        have HF := Lib.hid hf
        have hf4 := formA_len q
        rw [hf] at hf4 HCAND ⊢
        clear hf HFL
        have hbc : Below w1.heap.size w1 wc := hbw.trans (HMB.out.mono hzw)
        have hzc := hbc.size
        have HSC := Lib.hid (HSQ.out.below HMB.out)
        have HBC := Lib.hid hbc
        have HZC := Lib.hid (show ZBox w.heap.size wc from (hbc.block _ (by omega)).trans HZ1.out)
        have hbwc : Below w.heap.size w wc := HB1.out.trans (hbc.mono (by omega))
        have HBW := Lib.hid hbwc
        have hfs : (bA f).size = f.length := bA_size f
        clear HSQ HMB z0 f0 hbc hbw k2 ho2 hzw hk hk14 hmm k1 ho1 HCW hbwc
        by_cases hq00 : q = 0
        · have t0 : (q == 0) = true := by rw [hq00]; rfl
          have HNO := Lib.hid (show ∀ s, stOk s = true → fmtS s ≠ l from fun s hs e => (HCAND.out s hs e).1 hq00)
          clear hq00
          obtain ⟨⟨z0, z1, z2, z3, z4, z5⟩, f0, f1, f2, f3, f4, f5⟩ := HZC.out.cells
          have hbx := HBW.out
          go_wp2_with fail
          exact bodyPost_ret (v := .tuple #[.agg #[.int .i64 0, .int .i64 0, .int .i64 0, .int .i64 0, .int .i64 0, .int .i64 0], .bool false]) (by simp [results, Tryd.results17, go_sem, z0, z1, z2, z3, z4, z5]) rfl ⟨⟨⟨0, 0, 0, 0, 0, 0⟩, false, rfl, .inr ⟨rfl, rfl, HNO.out⟩⟩, (by (repeat (first | with_reducible exact Below.refl _ _ | (with_reducible refine bel_next ?_ ?_ (by assumption)) | (with_reducible refine Below.alloc ?_ ?_ _) | (with_reducible refine Below.drew ?_) | (with_reducible refine below_drewN ?_ _) | (with_reducible refine Below.setCell ?_ ?_ _))) <;> (first | omega | (simp; done) | (simp; omega)))⟩
        have t0 : (q == 0) = false := beq_eq_false_iff_ne.2 hq00
        by_cases hn : ts.length = f.length
        case neg =>
          have t1 : ((ts.length : Int) + 1 == (f.length : Int) + 1) = false := beq_eq_false_iff_ne.2 (by omega)
          have t2 : ((ts.length : Int) == (f.length : Int)) = false := beq_eq_false_iff_ne.2 (by omega)
          have HNO := Lib.hid (show ∀ s, stOk s = true → fmtS s ≠ l from fun s hs e => hn (HCAND.out s hs e).2.1)
          clear hn hq00
          obtain ⟨⟨z0, z1, z2, z3, z4, z5⟩, f0, f1, f2, f3, f4, f5⟩ := HZC.out.cells
          have hbx := HBW.out
          go_wp2_with fail
          exact bodyPost_ret (v := .tuple #[.agg #[.int .i64 0, .int .i64 0, .int .i64 0, .int .i64 0, .int .i64 0, .int .i64 0], .bool false]) (by simp [results, Tryd.results17, go_sem, z0, z1, z2, z3, z4, z5]) rfl ⟨⟨⟨0, 0, 0, 0, 0, 0⟩, false, rfl, .inr ⟨rfl, rfl, HNO.out⟩⟩, (by (repeat (first | with_reducible exact Below.refl _ _ | (with_reducible refine bel_next ?_ ?_ (by assumption)) | (with_reducible refine Below.alloc ?_ ?_ _) | (with_reducible refine Below.drew ?_) | (with_reducible refine below_drewN ?_ _) | (with_reducible refine Below.setCell ?_ ?_ _))) <;> (first | omega | (simp; done) | (simp; omega)))⟩
        have t1 : ((ts.length : Int) + 1 == (f.length : Int) + 1) = true := beq_iff_eq.2 (by omega)
        have t2 : ((ts.length : Int) == (f.length : Int)) = true := beq_iff_eq.2 (by omega)
        have HN := Lib.hid hn
        clear hn hq00
        obtain ⟨⟨z0, _, _, _, _, _⟩, f0, _, _, _, _, _⟩ := HSC.out.cells
        have hB1 := HSC.out.lt
        obtain ⟨wd, hwd⟩ : ∃ wd, wd = wc := ⟨_, rfl⟩
        subst hwd
        go_upto_if 65 with fail
        go_cut [10] from 46 to 67 (fun v wx => ∃ (rb nr : Nat), v = .slice (some ⟨rb, 0, none⟩) nr nr ∧ (f.length ≤ nr ∧ nr ≤ 4) ∧ RG q w1.heap.size rb nr wx ∧ Below wd.heap.size wd wx)
        case first =>
          by_cases h11 : q = 11
          · have HFO := Lib.hid (show f.length ≤ 1 by rw [← HF.out, h11]; decide)
            have HRG := Lib.hid (fun W t hB => RG.out W w1.heap.size t hB)
            have t3 : (q == 11) = true := by rw [h11]; rfl
            have HQ := Lib.hid h11
            clear h11
            go_wp2_with fail
            go_meet
            refine ⟨_, 1, rfl, ⟨HFO.out, by omega⟩, ?_, (by (repeat (first | with_reducible exact Below.refl _ _ | (with_reducible refine bel_next ?_ ?_ (by assumption)) | (with_reducible refine Below.alloc ?_ ?_ _) | (with_reducible refine Below.drew ?_) | (with_reducible refine below_drewN ?_ _) | (with_reducible refine Below.setCell ?_ ?_ _))) <;> (first | omega | (simp; done) | (simp; omega)))⟩
            have := HRG.out (wd.alloc (.cells #[.pointer (some ⟨w1.heap.size, 1, none⟩), .pointer (some ⟨w1.heap.size, 2, none⟩), .pointer (some ⟨w1.heap.size, 3, none⟩), .pointer (some ⟨w1.heap.size, 4, none⟩)] 66)) 66 (by simp; omega)
            rw [HQ.out]
            simpa using this
          · have t3 : (q == 11) = false := beq_eq_false_iff_ne.2 h11
            have HQ := Lib.hid h11
            clear h11
            go_wp2_with fail
            go_meet
            refine ⟨_, 4, rfl, ⟨by omega, by omega⟩, RG.four wd q w1.heap.size 66 hB1 HQ.out, (by (repeat (first | with_reducible exact Below.refl _ _ | (with_reducible refine bel_next ?_ ?_ (by assumption)) | (with_reducible refine Below.alloc ?_ ?_ _) | (with_reducible refine Below.drew ?_) | (with_reducible refine below_drewN ?_ _) | (with_reducible refine Below.setCell ?_ ?_ _))) <;> (first | omega | (simp; done) | (simp; omega)))⟩
        case rest =>
          obtain ⟨rb, nr, rfl, ⟨hnr, hnr4⟩, hrg, hbx⟩ := hcut
          have HRG := Lib.hid hrg
          have hzx := hbx.size
          have HS1' := Lib.hid (HSC.out.below hbx)
          have HB1' := Lib.hid (HBC.out.trans (hbx.mono hzc))
          have hrb := hrg.1
          have hrb1 := hrg.2.1
          have hwlen : ts.length ≤ 4 := by have := HN.out; omega
          obtain ⟨we, hwe⟩ : ∃ we, we = wc := ⟨_, rfl⟩
          subst hwe
          clear hrg hbx z0 f0 t1 t2
          have hws : (1 : Int) ≤ (ts.length : Int) + 1 := by omega
          go_upto_region 18 with fail
          go_cut [4, 69, 70, 71] from 16 to 71 (fun v4 v n i wx => ∃ ad, v4 = .slice (some ⟨w.heap.size + 1, 0, none⟩) (ts.length + 1) (ts.length + 1) ∧ v = .slice ad ts.length ts.length ∧ (0 < ts.length → ad = some ⟨w.heap.size + 1, 1, none⟩) ∧ n = .int .i64 (ts.length : Int) ∧ i = .int .i64 0 ∧ wx = we)
          case first =>
            go_wp2_with fail
            all_goals go_meet
            all_goals first
              | exact ⟨some ⟨w.heap.size + 1, 1, none⟩, rfl, rfl, fun _ => rfl, rfl, rfl, rfl⟩
              | (have hts : ts = [] := (by assumption); subst hts; exact ⟨_, rfl, rfl, fun h => absurd h (Nat.lt_irrefl 0), rfl, rfl, rfl⟩)
          obtain ⟨ad, rfl, rfl, had, rfl, rfl, rfl⟩ := hcut
          go_wp2_with fail
          go_loopw [71] (fun i wr => ∃ (k : Nat), k ≤ ts.length ∧ i = .int .i64 (k : Int) ∧ SB w1.heap.size (asg q ts k) wr ∧ RG q w1.heap.size rb nr wr ∧ Below w1.heap.size w1 wr) (fun i _ => ts.length - (intOf i).toNat)
          case atStart => exact ⟨0, by omega, rfl, HS1'.out, HRG.out, HB1'.out⟩
          case round =>
            clear HS1 HS1' HB1' HBC HSC
            obtain ⟨k, hk, rfl, hsb, hrg, hbw⟩ := hrel
            have hzw := hbw.size
            have HSB := Lib.hid hsb
            have HRW := Lib.hid hrg
            have HBR := Lib.hid (HB1.out.trans (hbw.mono (by omega)))
            have HLR := Lib.hid (HW.out.below HBR.out)
            clear hsb
            by_cases hlt : k < ts.length
            · have t4 : decide ((k : Int) < (ts.length : Int)) = true := decide_eq_true (by omega)
              have hkf : k < f.length := by have := HN.out; omega
              obtain rfl := had (by omega)
              have hpc := bel_keeps hbw (b := w.heap.size + 1) (o := 1 + k) (v := .string (bA ts[k])) (by have := HPC.out (k + 1) (by simp; omega); rw [Nat.add_comm 1 k]; simpa using this)
              have htk : (ts[k]).length ≤ 1048576 := by have := HPL.out ts[k] (by simp [List.getElem_mem]); omega
              have hkr := hrg.2.2 k (by omega)
              have hr5 := regO_le q k (by omega)
              obtain ⟨⟨vv, hvv⟩, hfv⟩ := HSB.out.at (regO q k) hr5
              obtain ⟨⟨v2, hv2⟩, hf2⟩ := HSB.out.at 2 (by omega)
              obtain ⟨⟨v5, hv5⟩, hf5⟩ := HSB.out.at 5 (by omega)
              have hB1 := HSB.out.lt
              have hrb2 := hrg.1
              have hpz : w.heap.size + 1 < wr.heap.size := by omega
              have HONE := Lib.hid (show asg q ts (k + 1) = (if f[k] = 114 then (asg q ts k).put (regO q k) (numF [114] ts[k]) else if f[k] = 112 then (asg q ts k).put 2 (numF [112] ts[k]) else (asg q ts k).put 5 (numF [] ts[k])) by
                show one q ts (asg q ts k) k = _
                unfold one
                rw [HF.out, List.getD_eq_getElem?_getD, List.getD_eq_getElem?_getD, List.getElem?_eq_getElem hkf, List.getElem?_eq_getElem hlt, Option.getD_some, Option.getD_some])
              generalize asg q ts k = s0 at HSB HONE
              generalize hc : f[k] = c at HONE
              generalize ts[k] = tk at hpc htk HONE
              generalize regO q k = r at hkr hr5 hvv hfv HONE
              obtain ⟨x, hx⟩ : ∃ x : Int, x = (c.toNat : Int) := ⟨_, rfl⟩
              have hgb : ∀ (h : k < (bA f).size), (((bA f)[k]'h).toNat : Int) = x := fun h => by rw [hx, ← hc]; rfl
              have hk0i : (0 : Int) ≤ (k : Int) := by omega
              have hkni : (k : Int) < (nr : Int) := by omega
              have hknj : (k : Int) ≤ (nr : Int) := by omega
              have hne1 : rb ≠ w1.heap.size := by omega
              have hne2 : w1.heap.size ≠ rb := by omega
              clear hc hrg
              by_cases c1 : x = 114
              · have HSN := Lib.hid (show asg q ts (k + 1) = s0.put r (numF [114] tk) by
                  rw [HONE.out, if_pos (by apply UInt8.toNat_inj.1; rw [show (114 : UInt8).toNat = 114 from rfl]; omega)])
                clear hx HONE
                subst c1
                go_wp2_with fail
                go_region_held3 (fun w' => w'.cell? ⟨rb, k, none⟩ = some (.pointer (some ⟨w1.heap.size, r, none⟩))) (first | go_keep)
                  (first | (go_at_call 41; refine (argument_any tk [114] htk _ (by first | exact HLR.out | exact HLR.out.below ((Below.refl _ _).drew))).mono ?_; rintro e w6 ⟨rfl, hb6⟩; have z6 := hb6.size; (try simp at z6); have y6_0 : rb < w6.heap.size := (by omega); have y6_1 : w1.heap.size < w6.heap.size := (by omega); have k6_0 := bel_keeps hb6 (b := rb) (o := k) (v := .pointer (some ⟨w1.heap.size, r, none⟩)) (by go_simp); have k6_1 := bel_keeps hb6 (b := w1.heap.size) (o := r) (v := .int .i64 vv) (by go_simp); have f6_0 := bel_free hb6 (b := w1.heap.size) (o := r) (by first | omega | (simp; done) | (simp; omega)) (by go_simp)))
                all_goals go_wp2_with fail
                all_goals go_roundw
                all_goals first
                  | exact ⟨k + 1, by omega, by go_num, by rw [HSN.out]; first | exact (HSB.out.below hb6).set r hr5 _ | exact (HSB.out.drew.below hb6).set r hr5 _, by first | exact (HRW.out.below hb6).other _ _ | exact (HRW.out.drew.below hb6).other _ _, (by (repeat (first | with_reducible exact Below.refl _ _ | (with_reducible refine bel_next ?_ ?_ (by assumption)) | (with_reducible refine Below.alloc ?_ ?_ _) | (with_reducible refine Below.drew ?_) | (with_reducible refine below_drewN ?_ _) | (with_reducible refine Below.setCell ?_ ?_ _))) <;> (first | omega | (simp; done) | (simp; omega)))⟩
                  | (simp [intOf]; done)
                  | (simp [intOf]; omega)
              have t5 : (x == 114) = false := beq_eq_false_iff_ne.2 c1
              by_cases c2 : x = 112
              · have HSN := Lib.hid (show asg q ts (k + 1) = s0.put 2 (numF [112] tk) by
                  rw [HONE.out, if_neg (fun h => c1 (by rw [hx, h]; rfl)), if_pos (by apply UInt8.toNat_inj.1; rw [show (112 : UInt8).toNat = 112 from rfl]; omega)])
                clear hx HONE c1
                subst c2
                go_wp2_with (go_at_call 41; refine (argument_any tk [112] htk _ HLR.out).mono ?_; rintro e w6 ⟨rfl, hb6⟩; have z6 := hb6.size; (try simp at z6); have y6_0 : w1.heap.size < w6.heap.size := (by omega); have k6_0 := bel_keeps hb6 (b := w1.heap.size) (o := 2) (v := .int .i64 v2) (by go_simp); have f6_0 := bel_free hb6 (b := w1.heap.size) (o := 2) (by first | omega | (simp; done) | (simp; omega)) (by go_simp))
                go_roundw
                case rel => exact ⟨k + 1, by omega, by go_num, by rw [HSN.out]; exact (HSB.out.below hb6).set 2 (by omega) _, (HRW.out.below hb6).other _ _, (by (repeat (first | with_reducible exact Below.refl _ _ | (with_reducible refine bel_next ?_ ?_ (by assumption)) | (with_reducible refine Below.alloc ?_ ?_ _) | (with_reducible refine Below.drew ?_) | (with_reducible refine below_drewN ?_ _) | (with_reducible refine Below.setCell ?_ ?_ _))) <;> (first | omega | (simp; done) | (simp; omega)))⟩
                case measure => first | (simp [intOf]; done) | (simp [intOf]; omega)
              have t6 : (x == 112) = false := beq_eq_false_iff_ne.2 c2
              have HSN := Lib.hid (show asg q ts (k + 1) = s0.put 5 (numF [] tk) by
                rw [HONE.out, if_neg (fun h => c1 (by rw [hx, h]; rfl)), if_neg (fun h => c2 (by rw [hx, h]; rfl))])
              clear hx HONE c1 c2
              go_wp2_with (go_at_call 41; refine (argument_any tk [] htk _ HLR.out).mono ?_; rintro e w6 ⟨rfl, hb6⟩; have z6 := hb6.size; (try simp at z6); have y6_0 : w1.heap.size < w6.heap.size := (by omega); have k6_0 := bel_keeps hb6 (b := w1.heap.size) (o := 5) (v := .int .i64 v5) (by go_simp); have f6_0 := bel_free hb6 (b := w1.heap.size) (o := 5) (by first | omega | (simp; done) | (simp; omega)) (by go_simp))
              go_roundw
              case rel => exact ⟨k + 1, by omega, by go_num, by rw [HSN.out]; exact (HSB.out.below hb6).set 5 (by omega) _, (HRW.out.below hb6).other _ _, (by (repeat (first | with_reducible exact Below.refl _ _ | (with_reducible refine bel_next ?_ ?_ (by assumption)) | (with_reducible refine Below.alloc ?_ ?_ _) | (with_reducible refine Below.drew ?_) | (with_reducible refine below_drewN ?_ _) | (with_reducible refine Below.setCell ?_ ?_ _))) <;> (first | omega | (simp; done) | (simp; omega)))⟩
              case measure => first | (simp [intOf]; done) | (simp [intOf]; omega)
            · obtain rfl : k = ts.length := by omega
              have HCD := Lib.hid (show ∀ s, stOk s = true → fmtS s = l → asg q ts ts.length = s from fun s hs e => (HCAND.out s hs e).2.2)
              have HZR := Lib.hid (show ZBox w.heap.size wr from (hbw.block _ (by omega)).trans HZ1.out)
              clear hlt had hrg hbw HRW hrb hrb1 hnr hnr4 hwlen hzx hB1 hzc hgw0 hgob hlob
              generalize asg q ts ts.length = s0 at HSB HCD
              obtain ⟨op, dst, sa, sb, sc, sn⟩ := s0
              obtain ⟨⟨z0, z1, z2, z3, z4, z5⟩, f0, f1, f2, f3, f4, f5⟩ := HSB.out.cells
              simp only at z0 z1 z2 z3 z4 z5
              clear f0 f1 f2 f3 f4 f5
              have HFA := Lib.hid (iFormatStmt_any ⟨op, dst, sa, sb, sc, sn⟩ wr HLR.out.words)
              have hbr := HBR.out
              have hzr := hbr.size
              have hwz := HZR.out.lt
              have hsz := HSB.out.lt
              cases hok : stOk ⟨op, dst, sa, sb, sc, sn⟩ with
              | false =>
                have HNO := Lib.hid (show ∀ s, stOk s = true → fmtS s ≠ l from fun s hs e => by
                  have := HCD.out s hs e
                  rw [← this, hok] at hs; cases hs)
                rw [hok] at HFA
                generalize fmtO ⟨op, dst, sa, sb, sc, sn⟩ = t at HFA
                clear hok
                go_wp2_with fail
                refine (HFA.out).mono ?_
                rintro e w9 ⟨rfl, hb9⟩
                have hz9 := hb9.size
                obtain ⟨⟨z0, z1, z2, z3, z4, z5⟩, f0, f1, f2, f3, f4, f5⟩ := (HZR.out.below hb9).cells
                go_wp2_with fail
                exact bodyPost_ret (v := .tuple #[.agg #[.int .i64 0, .int .i64 0, .int .i64 0, .int .i64 0, .int .i64 0, .int .i64 0], .bool false]) (by simp [results, Tryd.results17, go_sem, z0, z1, z2, z3, z4, z5]) rfl ⟨⟨⟨0, 0, 0, 0, 0, 0⟩, false, rfl, .inr ⟨rfl, rfl, HNO.out⟩⟩, (by (repeat (first | with_reducible exact Below.refl _ _ | (with_reducible refine bel_next ?_ ?_ (by assumption)) | (with_reducible refine Below.alloc ?_ ?_ _) | (with_reducible refine Below.drew ?_) | (with_reducible refine below_drewN ?_ _) | (with_reducible refine Below.setCell ?_ ?_ _))) <;> (first | omega | (simp; done) | (simp; omega)))⟩
              | true =>
                have HOK := Lib.hid hok
                rw [hok, fmtO_ok hok] at HFA
                by_cases hf : fmtS ⟨op, dst, sa, sb, sc, sn⟩ = l
                · have HFE := Lib.hid hf
                  rw [hf] at HFA
                  clear hok hf
                  go_wp2_with fail
                  refine (HFA.out).mono ?_
                  rintro e w9 ⟨rfl, hb9⟩
                  have hz9 := hb9.size
                  clear z0 z1 z2 z3 z4 z5
                  obtain ⟨⟨z0, z1, z2, z3, z4, z5⟩, f0, f1, f2, f3, f4, f5⟩ := (HZR.out.below hb9).cells
                  obtain ⟨⟨s0, s1, s2, s3, s4, s5⟩, _, _, _, _, _, _⟩ := (HSB.out.below hb9).cells
                  simp only at s0 s1 s2 s3 s4 s5
                  go_wp2_with fail
                  exact bodyPost_ret (v := .tuple #[.agg #[.int .i64 op, .int .i64 dst, .int .i64 sa, .int .i64 sb, .int .i64 sc, .int .i64 sn], .bool true]) (by simp [results, Tryd.results17, go_sem, z0, z1, z2, z3, z4, z5]) rfl ⟨⟨⟨op, dst, sa, sb, sc, sn⟩, true, rfl, .inl ⟨rfl, HOK.out, HFE.out⟩⟩, (by (repeat (first | with_reducible exact Below.refl _ _ | (with_reducible refine bel_next ?_ ?_ (by assumption)) | (with_reducible refine Below.alloc ?_ ?_ _) | (with_reducible refine Below.drew ?_) | (with_reducible refine below_drewN ?_ _) | (with_reducible refine Below.setCell ?_ ?_ _))) <;> (first | omega | (simp; done) | (simp; omega)))⟩
                · have HNO := Lib.hid (show ∀ s, stOk s = true → fmtS s ≠ l from fun s hs e => by
                    have := HCD.out s hs e
                    rw [← this] at e; exact hf e)
                  have t9 : (fmtS ⟨op, dst, sa, sb, sc, sn⟩ == l) = false := beq_eq_false_iff_ne.2 hf
                  generalize fmtS ⟨op, dst, sa, sb, sc, sn⟩ = t at HFA t9
                  clear hok hf
                  go_wp2_with fail
                  refine (HFA.out).mono ?_
                  rintro e w9 ⟨rfl, hb9⟩
                  have hz9 := hb9.size
                  clear z0 z1 z2 z3 z4 z5
                  obtain ⟨⟨z0, z1, z2, z3, z4, z5⟩, f0, f1, f2, f3, f4, f5⟩ := (HZR.out.below hb9).cells
                  go_wp2_with fail
                  exact bodyPost_ret (v := .tuple #[.agg #[.int .i64 0, .int .i64 0, .int .i64 0, .int .i64 0, .int .i64 0, .int .i64 0], .bool false]) (by simp [results, Tryd.results17, go_sem, z0, z1, z2, z3, z4, z5]) rfl ⟨⟨⟨0, 0, 0, 0, 0, 0⟩, false, rfl, .inr ⟨rfl, rfl, HNO.out⟩⟩, (by (repeat (first | with_reducible exact Below.refl _ _ | (with_reducible refine bel_next ?_ ?_ (by assumption)) | (with_reducible refine Below.alloc ?_ ?_ _) | (with_reducible refine Below.drew ?_) | (with_reducible refine below_drewN ?_ _) | (with_reducible refine Below.setCell ?_ ?_ _))) <;> (first | omega | (simp; done) | (simp; omega)))⟩
end Go.Proofs.YtigefmobejclaaaDoor
