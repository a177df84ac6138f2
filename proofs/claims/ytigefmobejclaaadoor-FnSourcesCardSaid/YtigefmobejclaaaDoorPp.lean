/- A text parsed: what it answers; the walks of ParseProgram. -/
import Derived.Test.YtigefmobejclaaaDoorPstF
import Derived.Test.YtigefmobejclaaaDoorFmtP
namespace Go.Proofs.YtigefmobejclaaaDoor
open Go.RowKit
set_option linter.unusedVariables false
set_option linter.unusedSimpArgs false

/-- The lines taken one by one. -/
noncomputable def ppL : List Bs → Nat → List St → List St × Int
  | [], _, acc => if progOk acc = true then (acc, 0) else ([], -1)
  | y :: r, i, acc => if y = [] then ppL r (i + 1) acc else if (pst y).2 = true then ppL r (i + 1) (acc ++ [(pst y).1]) else ([], (i : Int) + 1)
noncomputable def pp (l : Bs) : List St × Int := if l.length ≤ 20000 then ppL (spl 10 l) 0 [] else ([], -1)
theorem ppL_skip {y : Bs} (r : List Bs) (i : Nat) (acc : List St) (h : y = []) : ppL (y :: r) i acc = ppL r (i + 1) acc := by rw [ppL, if_pos h]
theorem ppL_ok {y : Bs} (r : List Bs) (i : Nat) (acc : List St) (h : ¬ y = []) (h2 : (pst y).2 = true) : ppL (y :: r) i acc = ppL r (i + 1) (acc ++ [(pst y).1]) := by rw [ppL, if_neg h, if_pos h2]
theorem ppL_bad {y : Bs} (r : List Bs) (i : Nat) (acc : List St) (h : ¬ y = []) (h2 : (pst y).2 = false) : ppL (y :: r) i acc = ([], (i : Int) + 1) := by rw [ppL, if_neg h, if_neg (by rw [h2]; decide)]
theorem ppL_end (i : Nat) (acc : List St) (h : progOk acc = true) : ppL [] i acc = (acc, 0) := by rw [ppL, if_pos h]
theorem ppL_no (i : Nat) (acc : List St) (h : progOk acc = false) : ppL [] i acc = ([], -1) := by rw [ppL, if_neg (by rw [h]; decide)]

/-- Where the reference's scan stands. -/
def PPS (l : Bs) (res : List St × Int) (bb k m : Nat) (acc : List St) : Prop :=
  (k ≤ l.length → bb ≤ k ∧ res = ppL (spl 10 (l.drop bb)) m acc ∧ (10 : UInt8) ∉ (l.drop bb).take (k - bb)) ∧ (¬ k ≤ l.length → res = ppL [] m acc)
theorem PPS.start (l : Bs) : PPS l (ppL (spl 10 l) 0 []) 0 0 0 [] := ⟨fun _ => ⟨Nat.le_refl _, rfl, by simp⟩, fun h => absurd (Nat.zero_le _) h⟩
theorem PPS.skip {l : Bs} {res : List St × Int} {bb k m : Nat} {acc : List St} (h : PPS l res bb k m acc) (hk : k < l.length) (hc : l[k] ≠ 10) : PPS l res bb (k + 1) m acc := by
  obtain ⟨h1, h2, h3⟩ := h.1 (by omega)
  refine ⟨fun _ => ⟨by omega, h2, ?_⟩, fun h => absurd (show k + 1 ≤ l.length by omega) h⟩
  have hl : k - bb < (l.drop bb).length := by rw [List.length_drop]; omega
  have hg : (l.drop bb)[k - bb] = l[k] := by rw [List.getElem_drop]; congr 1; omega
  rw [show k + 1 - bb = (k - bb) + 1 by omega, List.take_add_one, List.getElem?_eq_getElem hl, hg]
  simp only [Option.toList_some, List.mem_append, List.mem_singleton, not_or]
  exact ⟨h3, fun e => hc e.symm⟩
theorem PPS.line {l : Bs} {res : List St × Int} {bb k m : Nat} {acc : List St} (h : PPS l res bb k m acc) (hk : k ≤ l.length) (hc : ∀ h : k < l.length, l[k] = 10) :
    bb ≤ k ∧ ∃ r, res = ppL ((l.drop bb).take (k - bb) :: r) m acc ∧ ∀ m' acc', res = ppL r m' acc' → PPS l res (k + 1) (k + 1) m' acc' := by
  obtain ⟨h1, h2, h3⟩ := h.1 hk
  refine ⟨h1, ?_⟩
  by_cases hlt : k < l.length
  · refine ⟨spl 10 (l.drop (k + 1)), ?_, fun m' acc' e => ⟨fun _ => ⟨Nat.le_refl _, e, by simp⟩, fun h => absurd (show k + 1 ≤ l.length by omega) h⟩⟩
    have hl : k - bb < (l.drop bb).length := by rw [List.length_drop]; omega
    have e1 : l.drop bb = (l.drop bb).take (k - bb) ++ 10 :: l.drop (k + 1) := by
      conv => lhs; rw [← List.take_append_drop (k - bb) (l.drop bb)]
      congr 1
      rw [List.drop_eq_getElem_cons hl, List.getElem_drop, List.drop_drop]
      congr 1
      · have := hc hlt
        rw [← this]; congr 1; omega
      · congr 1; omega
    have e2 : spl 10 (l.drop bb) = (l.drop bb).take (k - bb) :: spl 10 (l.drop (k + 1)) := by
      conv => lhs; rw [e1]
      exact spl_first h3
    rw [h2, e2]
  · have hkl : k = l.length := by omega
    refine ⟨[], ?_, fun m' acc' e => ⟨fun h => absurd h (by omega), fun _ => e⟩⟩
    have e1 : (l.drop bb).take (k - bb) = l.drop bb := List.take_of_length_le (by rw [List.length_drop]; omega)
    rw [e1] at h3 ⊢
    rw [h2, spl_none h3]

theorem ba_sub (l : Bs) (i j : Nat) (h : i ≤ j) (hj : j ≤ l.length) : (bA l).extract i j = bA ((l.drop i).take (j - i)) := by
  apply ba_ext
  rw [Lib.extract_data, bA_data, bA_data]

theorem own_nilS (w : World) (lo e size : Nat) : Own w lo e size none 0 0 [] := ⟨by simp, .inl ⟨rfl, rfl⟩⟩

theorem cell_block {w w' : World} {b o : Nat} {v : Value} (h : w'.heap[b]? = w.heap[b]?) (hc : w.cell? ⟨b, o, none⟩ = some v) : w'.cell? ⟨b, o, none⟩ = some v := by
  simp only [World.cell?] at hc ⊢
  rw [h]
  exact hc

/-- What ParseProgram hands back. -/
def IsPP (l : Bs) (lo : Nat) (e : Ending) (w : World) : Prop := ∃ ad c, e = .returned (.tuple #[.slice ad (pp l).1.length c, .int .i64 (pp l).2]) ∧ Own w lo 26 6 ad (pp l).1.length c (stCells (pp l).1)
theorem IsPP.mk {l : Bs} {lo : Nat} {w : World} {xs : List St} {r : Int} {ad : Option Addr} {c : Nat} (h : pp l = (xs, r)) (ho : Own w lo 26 6 ad xs.length c (stCells xs)) : IsPP l lo (.returned (.tuple #[.slice ad xs.length c, .int .i64 r])) w :=
  ⟨ad, c, by rw [h], by rw [h]; exact ho⟩

set_option maxRecDepth 100000 in
set_option maxHeartbeats 8000000 in
theorem iParseProgram_any (l : Bs) (hs : l.length ≤ 1099511627) (w : World) (hw : Laid w) :
    Calls Tryd.prog 20 #[.string (bA l)] w fun e w' => IsPP l w.heap.size e w' ∧ Below w.heap.size w w' := by
  have HW := Lib.hid hw
  obtain ⟨mx, hm⟩ := hw.most
  have hlm := lt_of_cell hm
  simp only at hlm
  clear hw
  by_cases hsz : l.length ≤ 20000
  case neg =>
    have t0 : decide ((l.length : Int) > 20000) = true := decide_eq_true (by omega)
    have t1 : decide ((20000 : Int) < (l.length : Int)) = true := decide_eq_true (by omega)
    have HPP := Lib.hid (show pp l = ([], -1) by unfold pp; rw [if_neg hsz])
    go_enter Tryd.func20, Tryd.ntmps20
    go_wp2_with fail
    go_ret2
    exact ⟨IsPP.mk HPP.out (own_nilS _ _ _ _), (by (repeat (first | with_reducible exact Below.refl _ _ | (with_reducible refine bel_next ?_ ?_ (by assumption)) | (with_reducible refine Below.alloc ?_ ?_ _) | (with_reducible refine Below.drew ?_) | (with_reducible refine below_drewN ?_ _) | (with_reducible refine Below.setCell ?_ ?_ _))) <;> (first | omega | (simp; done) | (simp; omega)))⟩
  have t0 : decide ((l.length : Int) > 20000) = false := decide_eq_false (by omega)
  have t1 : decide ((20000 : Int) < (l.length : Int)) = false := decide_eq_false (by omega)
  have HPP := Lib.hid (show pp l = ppL (spl 10 l) 0 [] by unfold pp; rw [if_pos hsz])
  have HSP := Lib.hid (fun W hc => split_c (bA l) 10 mx W (by rw [bA_size]; omega) hc)
  simp only [bA_data] at HSP
  have HPL := Lib.hid (spl_mem_len 10 l)
  have hpl := spl_len 10 l
  have hct := List.count_le_length (a := (10 : UInt8)) (l := l)
  have hpl2 : (spl 10 l).length ≤ 20001 := by omega
  have HL0 := Lib.hid (show ppL (spl 10 l) 0 [] = ppL ((spl 10 l).drop 0) 0 [] from rfl)
  clear hpl hct
  generalize hpe : ppL (spl 10 l) 0 [] = res at HPP HL0
  generalize spl 10 l = ls at HSP HPL HL0 hpl2
  clear hpe
  have HN0 := Lib.hid (own_new w 26 6)
  go_enter Tryd.func20, Tryd.ntmps20
  go_wp2_with fail
  refine (HSP.out _ (by go_simp)).mono ?_
  rintro e w1 ⟨rfl, hw1⟩
  have HB1 := Lib.hid (show Below (w.heap.size + 1) (w.alloc (.cells #[] 26)) w1 by
    rw [hw1]; exact (Below.refl _ _).alloc (by simp) _)
  have hbw1 : Below w.heap.size w w1 := by
    rw [hw1]; exact ((Below.refl _ _).alloc (Nat.le_refl _) _).alloc (by simp) _
  have HRD1 : Hid (RdC w1 (some ⟨w.heap.size + 1, 0, none⟩) (strV ls)) := Lib.hid (by
    rw [hw1]; simpa using RdC.alloc (w.alloc (.cells #[] 26)) (strV ls).toArray 9)
  have HO1 := Lib.hid (show Own w1 w.heap.size 26 6 (some ⟨w.heap.size, 0, none⟩) 0 0 [] by
    rw [hw1]; exact HN0.out.keep (fun a ha => (Kp.refl _ _).alloc _))
  have hgw1 : w.heap.size + 1 < w1.heap.size := by rw [hw1]; simp
  have HPC := Lib.hid (show ∀ k (hk : k < ls.length), w1.cell? ⟨w.heap.size + 1, k, none⟩ = some (.string (bA ls[k])) from fun k hk => by
    rcases HRD1.out with h | ⟨b, o, h1, h2⟩
    · simp [strV] at h; rw [h] at hk; cases hk
    · cases h1; have := h2 k (by rw [strV_length]; exact hk); simp only [Nat.zero_add] at this; rw [this, strV_get _ _ hk])
  have e1 : (w.alloc (.cells #[] 26)).heap.size = w.heap.size + 1 := by simp
  simp only [e1]
  clear e1 hw1 hm HRD1 HSP
  go_wp2_with fail
  go_loopw [4, 16] (fun v i wr => ∃ (k g cap : Nat) (acc : List St), k ≤ ls.length ∧ i = .int .i64 (k : Int) ∧ v = .slice (some ⟨g, 0, none⟩) acc.length cap ∧ acc.length ≤ k ∧ res = ppL (ls.drop k) k acc ∧ Own wr w.heap.size 26 6 (some ⟨g, 0, none⟩) acc.length cap (stCells acc) ∧ g ≠ w.heap.size + 1 ∧ (w.heap.size + 1 < wr.heap.size ∧ wr.heap[w.heap.size + 1]? = w1.heap[w.heap.size + 1]?) ∧ Below w.heap.size w wr) (fun _ i _ => ls.length - (intOf i).toNat)
  case atStart => exact ⟨0, w.heap.size, 0, [], Nat.zero_le _, rfl, rfl, Nat.le_refl _, HL0.out, HO1.out, by omega, ⟨hgw1, rfl⟩, hbw1⟩
  case round =>
    clear HO1 HL0 HN0 hbw1
    obtain ⟨k, g, cap, acc, hk, rfl, rfl, hacc, hres, hown, hgne, ⟨hpb, hpe⟩, hbw⟩ := hrel
    have HOWN := Lib.hid hown
    have hgb := hown.blk _ rfl
    simp only at hgb
    have hzw := hbw.size
    have HLR := Lib.hid (HW.out.below hbw)
    have HPE := Lib.hid hpe
    have HBW := Lib.hid hbw
    clear hown hpe hbw
    by_cases hlt : k < ls.length
    · have t4 : decide ((k : Int) < (ls.length : Int)) = true := decide_eq_true (by omega)
      have hpc := cell_block HPE.out (HPC.out k hlt)
      have hyl := HPL.out ls[k] (List.getElem_mem hlt)
      have HRES := Lib.hid (show res = ppL (ls[k] :: ls.drop (k + 1)) k acc by rw [← List.drop_eq_getElem_cons hlt]; exact hres)
      generalize ls[k] = y at hpc hyl HRES
      clear hres
      by_cases hy : y = []
      · have t5 : (y == []) = true := by rw [hy]; rfl
        have HR2 := Lib.hid (show res = ppL (ls.drop (k + 1)) (k + 1) acc by rw [HRES.out, ppL_skip _ _ _ hy])
        clear hy HRES
        go_wp2_with fail
        go_roundw
        case rel => exact ⟨k + 1, g, cap, acc, by omega, by go_num, rfl, by omega, HR2.out, HOWN.out, hgne, ⟨hpb, HPE.out⟩, HBW.out⟩
        case measure => first | (simp [intOf]; done) | (simp [intOf]; omega)
      have t5 : (y == []) = false := beq_eq_false_iff_ne.2 hy
      have HPS := Lib.hid (iPst_any y (by omega) wr HLR.out)
      have HOKY := Lib.hid (fun h => ppL_ok (y := y) (ls.drop (k + 1)) k acc hy h)
      have HBADY := Lib.hid (fun h => ppL_bad (y := y) (ls.drop (k + 1)) k acc hy h)
      clear hy
      generalize (pst y).1 = s at HPS HOKY
      generalize (pst y).2 = b at HPS HOKY HBADY
      obtain ⟨op, dst, sa, sb, sc, sn⟩ := s
      unfold stV at HPS
      simp only at HPS
      go_wp2_with fail
      refine (HPS.out).mono ?_
      rintro e w3 ⟨rfl, hb3⟩
      have z3 := hb3.size
      have hbw := HBW.out
      have HB3 := Lib.hid (show Below w.heap.size w w3 from (by (repeat (first | with_reducible exact Below.refl _ _ | (with_reducible refine bel_next ?_ ?_ (by assumption)) | (with_reducible refine Below.alloc ?_ ?_ _) | (with_reducible refine Below.drew ?_) | (with_reducible refine below_drewN ?_ _) | (with_reducible refine Below.setCell ?_ ?_ _))) <;> (first | omega | (simp; done) | (simp; omega))))
      have HO3 := Lib.hid (HOWN.out.keep (w' := w3) (fun a ha => (Kp.refl _ _).below hb3))
      have HP3 := Lib.hid (show w3.heap[w.heap.size + 1]? = w1.heap[w.heap.size + 1]? from (hb3.block _ hpb).trans HPE.out)
      cases b
      · have HR2 := Lib.hid (show pp l = ([], (k : Int) + 1) by rw [HPP.out, HRES.out, HBADY.out rfl])
        go_wp2_with fail
        go_ret2
        exact ⟨IsPP.mk HR2.out (own_nilS _ _ _ _), (by (repeat (first | with_reducible exact Below.refl _ _ | (with_reducible refine bel_next ?_ ?_ (by assumption)) | (with_reducible refine Below.alloc ?_ ?_ _) | (with_reducible refine Below.drew ?_) | (with_reducible refine below_drewN ?_ _) | (with_reducible refine Below.setCell ?_ ?_ _))) <;> (first | omega | (simp; done) | (simp; omega)))⟩
      · have HR2 := Lib.hid (show res = ppL (ls.drop (k + 1)) (k + 1) (acc ++ [⟨op, dst, sa, sb, sc, sn⟩]) by rw [HRES.out, HOKY.out rfl])
        clear HRES HOKY HBADY hb3 hbw
        go_wp2_with (refine wpList_pushSt _ rfl _ _ rfl w.heap.size g _ cap acc ⟨op, dst, sa, sb, sc, sn⟩ _ 1 (by rfl) (by rfl) (HO3.out.keep (fun a ha => ((Kp.refl _ _).alloc _).alloc _)) (rd_st (w3.alloc (.cells #[.int .i64 op, .int .i64 dst, .int .i64 sa, .int .i64 sb, .int .i64 sc, .int .i64 sn] 26)) ⟨op, dst, sa, sb, sc, sn⟩ 26 (by first | rfl | (simp; done))) (by omega) (by first | omega | (simp; omega)) ?_; intro g7 c7 w7 ho7 hb7 hg7 hgg)
        have z7 := hg7.size
        simp at z7
        have hp7 : w7.heap[w.heap.size + 1]? = w1.heap[w.heap.size + 1]? := (hg7.block _ (by simp; omega) (fun e => hgne (Option.some.inj e).symm)).trans (((Below.heap_alloc _ _ _ (by simp; omega)).trans (Below.heap_alloc _ _ _ (by omega))).trans HP3.out)
        have hbf : Below w.heap.size w w7 := by
          have hbx := HB3.out
          exact Below.grown (show Below w.heap.size w ((w3.alloc _).alloc _) from (by (repeat (first | with_reducible exact Below.refl _ _ | (with_reducible refine bel_next ?_ ?_ (by assumption)) | (with_reducible refine Below.alloc ?_ ?_ _) | (with_reducible refine Below.drew ?_) | (with_reducible refine below_drewN ?_ _) | (with_reducible refine Below.setCell ?_ ?_ _))) <;> (first | omega | (simp; done) | (simp; omega)))) hg7 (by first | omega | (simp; omega)) (fun q hq => by simp only [Option.some.injEq] at hq; omega)
        go_roundw
        case rel => exact ⟨k + 1, g7, c7, acc ++ [⟨op, dst, sa, sb, sc, sn⟩], by omega, by go_num, by simp, by simp; omega, HR2.out, by simpa using ho7, by
          rcases hgg with h | h
          · omega
          · simp at h; omega, ⟨by omega, hp7⟩, hbf⟩
        case measure => first | (simp [intOf]; done) | (simp [intOf]; omega)
    · have t4 : decide ((k : Int) < (ls.length : Int)) = false := decide_eq_false (by omega)
      have HRES := Lib.hid (show res = ppL [] k acc by rw [hres, List.drop_eq_nil_of_le (by omega)])
      have haccm : acc.length ≤ maxLen := by unfold maxLen; omega
      clear hres
      have HPO := Lib.hid (iProgramOk_any acc _ cap wr haccm HOWN.out.rd)
      cases hok : progOk acc with
      | false =>
        have HR2 := Lib.hid (show pp l = ([], -1) by rw [HPP.out, HRES.out, ppL_no _ _ hok])
        rw [hok] at HPO
        clear hok
        go_wp2_with fail
        refine (HPO.out).mono ?_
        rintro e w3 ⟨rfl, hb3⟩
        have hbw := HBW.out
        go_wp2_with fail
        go_ret2
        exact ⟨IsPP.mk HR2.out (own_nilS _ _ _ _), (by (repeat (first | with_reducible exact Below.refl _ _ | (with_reducible refine bel_next ?_ ?_ (by assumption)) | (with_reducible refine Below.alloc ?_ ?_ _) | (with_reducible refine Below.drew ?_) | (with_reducible refine below_drewN ?_ _) | (with_reducible refine Below.setCell ?_ ?_ _))) <;> (first | omega | (simp; done) | (simp; omega)))⟩
      | true =>
        have HR2 := Lib.hid (show pp l = (acc, 0) by rw [HPP.out, HRES.out, ppL_end _ _ hok])
        rw [hok] at HPO
        clear hok
        go_wp2_with fail
        refine (HPO.out).mono ?_
        rintro e w3 ⟨rfl, hb3⟩
        have hbw := HBW.out
        have HO3 := Lib.hid (HOWN.out.keep (w' := w3) (fun a ha => (Kp.refl _ _).below hb3))
        go_wp2_with fail
        go_ret2
        exact ⟨IsPP.mk HR2.out HO3.out, (by (repeat (first | with_reducible exact Below.refl _ _ | (with_reducible refine bel_next ?_ ?_ (by assumption)) | (with_reducible refine Below.alloc ?_ ?_ _) | (with_reducible refine Below.drew ?_) | (with_reducible refine below_drewN ?_ _) | (with_reducible refine Below.setCell ?_ ?_ _))) <;> (first | omega | (simp; done) | (simp; omega)))⟩
end Go.Proofs.YtigefmobejclaaaDoor
