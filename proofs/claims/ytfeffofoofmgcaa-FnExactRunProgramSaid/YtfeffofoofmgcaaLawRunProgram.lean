/- The walk of the law FnExactRunProgram. -/
import Derived.Test.YtfeffofoofmgcaaRun
import Derived.Test.YtfeffofoofmgcaaGridK
import Derived.Test.YtfeffofoofmgcaaStmtList
import Derived.Test.YtfeffofoofmgcaaOpen
namespace Go.Proofs.Ytfeffofoofmgcaa
open Go.RowKit
set_option linter.unusedVariables false

set_option linter.unusedSimpArgs false
theorem sRunProgram_n (xs us : List St) (ok : Bool) (hv : IsUnr xs us ok) (ad : Option Addr) (cp : Nat) (w : World) (hm : xs.length ≤ maxLen) (hcp : xs.length ≤ cp) (hcm : cp ≤ maxLen) (hr : RdC w ad (stCells xs)) (rr : List Rw) (nn : Nat) (xss : List (List Int)) (ai : Option Addr) (ci : Nat) (hn : rr.length = nn) (hx : rr.map Rw.xs = xss) (hmr : nn ≤ 1048576) (hml : rowsLe rr) (hri : RdR w ai rr) :
    Calls Try.prog 63 #[.slice ad xs.length cp, .slice ai nn ci] w fun e w' => ∃ a c, e = .returned (.tuple #[.slice a (runOuts us xss ok).length c, .bool (runOk ok xss)]) ∧ Own w' w.heap.size 3 1 a (runOuts us xss ok).length c (I64 (runOuts us xss ok)) ∧ Below w.heap.size w w' := by
  subst hn; subst hx
  exact sRunProgram_any xs us ok hv ad cp w hm hcp hcm hr rr ai ci hmr hml hri
theorem iRunProgram_n (xs us : List St) (ok : Bool) (hv : IsUnr xs us ok) (ad : Option Addr) (cp : Nat) (w : World) (hm : xs.length ≤ maxLen) (hcp : xs.length ≤ cp) (hcm : cp ≤ maxLen) (hr : RdC w ad (stCells xs)) (rr : List Rw) (nn : Nat) (xss : List (List Int)) (ai : Option Addr) (ci : Nat) (hn : rr.length = nn) (hx : rr.map Rw.xs = xss) (hmr : nn ≤ 1048576) (hml : rowsLe rr) (hri : RdR w ai rr) :
    Calls Try.prog 64 #[.slice ad xs.length cp, .slice ai nn ci] w fun e w' => ∃ a c, e = .returned (.tuple #[.slice a (runOuts us xss ok).length c, .bool (runOk ok xss)]) ∧ Own w' w.heap.size 3 1 a (runOuts us xss ok).length c (I64 (runOuts us xss ok)) ∧ Below w.heap.size w w' := by
  subst hn; subst hx
  exact iRunProgram_any xs us ok hv ad cp w hm hcp hcm hr rr ai ci hmr hml hri
set_option maxHeartbeats 4000000 in
theorem walk_FnExactRunProgram (w : World) (ns0 : List Int) (n0 : Nat) (ad0 : Option Addr) (cap0 : Nat) (e0 : ns0.length = n0 * 6) (hm0 : n0 ≤ maxLen) (hr0 : RdC w ad0 (I64 ns0)) (rs1 : List Rw) (ad1 : Option Addr) (cap1 : Nat) (hm1 : rs1.length ≤ maxLen) (hr1 : RdC w ad1 (rs1.map Rw.val)) (hrr1 : ∀ r ∈ rs1, RdC w r.ad (I64 r.xs) ∧ r.xs.length ≤ maxLen) :
    Calls Try.prog 12 #[.slice ad0 n0 cap0, .slice ad1 rs1.length cap1] w fun e w' => e = .returned (.bool true) ∧ Below w.heap.size w w' := by
  obtain ⟨xs0, hl0, hx0⟩ := st_of_ints n0 ns0 e0
  rw [← hx0] at hr0
  subst hl0
  clear e0 hx0 ns0
  have hmm := hm0
  unfold maxLen at hm0
  have hml1 : rowsLe rs1 := fun r hr => (hrr1 r hr).2
  have HRI : Hid (RdR w ad1 rs1) := ⟨hr1, fun r hr => (hrr1 r hr).1⟩
  clear hr1 hrr1
  by_cases hsz : xs0.length ≤ 1048576
  case neg =>
    have hsz' : ¬ ((xs0.length : Int) ≤ 1048576) := by omega
    go_enter Try.func12, Try.ntmps12
    go_wp2_with fail
    refine (szStmtS_any xs0.length _ _ 1048576 _ hmm (by omega) (by omega)).mono ?_
    rintro e _ ⟨rfl, rfl⟩
    rw [if_neg (show ¬ ((xs0.length : Int) ≤ 1048576) by omega)]
    go_wp2_with fail
    go_ret
    exact ⟨rfl, Below.refl _ _⟩
  have hsz' : (xs0.length : Int) ≤ 1048576 := by omega
  obtain ⟨us0, ok0, hv0⟩ := unr_ex xs0
  obtain ⟨xss, hxss⟩ : ∃ x, x = rs1.map Rw.xs := ⟨_, rfl⟩
  obtain ⟨D, hD⟩ : ∃ D, D = runOuts us0 xss ok0 := ⟨_, rfl⟩
  obtain ⟨okb, hokb⟩ : ∃ b, b = runOk ok0 xss := ⟨_, rfl⟩
  have hF : D.length ≤ 1048576 := by rw [hD]; have := runOuts_len us0 xss ok0; have := unr_len hv0; omega
  have HD := Lib.hid hD
  have HO := Lib.hid hokb
  have HXS := Lib.hid hxss
  have HV := Lib.hid hv0
  have hll : (0 : Int) ≤ 1048576 - (xs0.length : Int) := by omega
  obtain ⟨ll, hle⟩ : ∃ l : Int, l = 1048576 - (xs0.length : Int) := ⟨_, rfl⟩
  have HLE := Lib.hid hle
  have hl0 : 0 ≤ ll := by omega
  have hl1 : ll ≤ 1048576 := by omega
  have hneg : decide (ll < 0) = false := decide_eq_false (by omega)
  clear hv0 hD hokb hxss hle hll
  cases okb
  all_goals
    go_enter Try.func12, Try.ntmps12
    go_wp2_with fail
    refine (szStmtS_any xs0.length _ _ 1048576 _ hmm (by omega) (by omega)).mono ?_
    rintro e _ ⟨rfl, rfl⟩
    rw [if_pos (show (xs0.length : Int) ≤ 1048576 by omega), ← HLE.out]
    go_wp2_with fail
    refine (szIntSS_k ll hl0 hl1 rs1 _ _ _ hm1 hml1 HRI.out).mono ?_
    rintro e _ ⟨v, rfl, v1, v2, hs2, rfl⟩
    rcases hs2 with hneg2 | hs2
    · go_wp2_with fail
      go_ret
      exact ⟨rfl, Below.refl _ _⟩
    by_cases hneg2 : v < 0
    · go_wp2_with fail
      go_ret
      exact ⟨rfl, Below.refl _ _⟩
    have hn1 : rs1.length ≤ 1048576 := by omega
    have hnl1 : ∀ r ∈ rs1, r.xs.length ≤ 1048576 := fun r hr => by have := tot_mem hr; omega
    have htot : tot rs1 ≤ 1048576 := by omega
    clear hs2 hml1
    go_wp2_with fail
    refine (toStmtS_any xs0 _ _ _ hsz (hr0.below (by (repeat (first | with_reducible exact Below.refl _ _ | (with_reducible refine bel_next ?_ ?_ (by assumption)) | (with_reducible refine Below.alloc ?_ ?_ _) | (with_reducible refine Below.drew ?_) | (with_reducible refine below_drewN ?_ _) | (with_reducible refine Below.setCell ?_ ?_ _))) <;> (first | omega | (simp; done) | (simp; omega))))).mono ?_
    rintro e w2 ⟨g2, rfl, ho2, lo2, hi2, hb2⟩
    have z2 := hb2.size
    try simp at z2
    have hi2 : Ins (some ⟨g2, 0, none⟩) _ _ := ho2.ins
    go_wp2_with fail
    refine (toIntSS_any rs1 _ _ _ hn1 hnl1 (HRI.out.below (by (repeat (first | with_reducible exact Below.refl _ _ | (with_reducible refine bel_next ?_ ?_ (by assumption)) | (with_reducible refine Below.alloc ?_ ?_ _) | (with_reducible refine Below.drew ?_) | (with_reducible refine below_drewN ?_ _) | (with_reducible refine Below.setCell ?_ ?_ _))) <;> (first | omega | (simp; done) | (simp; omega))))).mono ?_
    rintro e w3 ⟨g3, rfl, l3, h3, ⟨rs3, hx3, ho3, hor3⟩, hb3⟩
    have HX3 := Lib.hid hx3
    have HL3 := Lib.hid (show rs3.length = rs1.length from (by have := congrArg List.length HX3.out; simpa using this))
    clear hx3
    have z3 := hb3.size
    (try simp at z3)
    have hR3 := Lib.hid (show RdR w3 (some ⟨g3, 0, none⟩) rs3 from ⟨ho3.rd, fun r hr => (hor3.1 r hr).1.rd⟩)
    have hle3 := Lib.hid (rowsLe_of HX3.out hnl1)
    have HOR3 := Lib.hid hor3
    clear ho3 hor3
    go_wp2_with fail
    refine (sRunProgram_n xs0 us0 _ HV.out _ _ _ hmm (Nat.le_refl _) hmm (ho2.keep (fun a ha => (by have hh := hi2 a ha; exact (by (repeat (first | with_reducible exact Kp.refl _ _ | (with_reducible refine Kp.below ?_ (by assumption)) | (with_reducible refine Kp.rng ?_ (by assumption) ?_) | (with_reducible refine Kp.alloc ?_ _) | (with_reducible refine Kp.drew ?_) | (with_reducible refine Kp.drewN ?_ _) | (with_reducible refine Kp.setCell ?_ _ ?_))) <;> (first | omega | (simp; done) | (simp; omega)))))).rd rs3 rs1.length xss _ _ HL3.out (HX3.out.trans HXS.out.symm) hn1 hle3.out (hR3.out.below (by (repeat (first | with_reducible exact Below.refl _ _ | (with_reducible refine bel_next ?_ ?_ (by assumption)) | (with_reducible refine Below.alloc ?_ ?_ _) | (with_reducible refine Below.drew ?_) | (with_reducible refine below_drewN ?_ _) | (with_reducible refine Below.setCell ?_ ?_ _))) <;> (first | omega | (simp; done) | (simp; omega))))).mono ?_
    rintro e w4 ⟨a4, c4, rfl, ho4, hb4⟩
    have z4 := hb4.size
    try simp at z4
    rw [← HD.out] at ho4
    rw [← HD.out, ← HO.out]
    have hi4 : Ins a4 _ _ := ho4.ins
    go_wp2_with fail
    refine (toStmtS_any xs0 _ _ _ hsz (hr0.below (by (repeat (first | with_reducible exact Below.refl _ _ | (with_reducible refine bel_next ?_ ?_ (by assumption)) | (with_reducible refine Below.alloc ?_ ?_ _) | (with_reducible refine Below.drew ?_) | (with_reducible refine below_drewN ?_ _) | (with_reducible refine Below.setCell ?_ ?_ _))) <;> (first | omega | (simp; done) | (simp; omega))))).mono ?_
    rintro e w5 ⟨g5, rfl, ho5, lo5, hi5, hb5⟩
    have z5 := hb5.size
    try simp at z5
    have hi5 : Ins (some ⟨g5, 0, none⟩) _ _ := ho5.ins
    go_wp2_with fail
    refine (toIntSS_any rs1 _ _ _ hn1 hnl1 (HRI.out.below (by (repeat (first | with_reducible exact Below.refl _ _ | (with_reducible refine bel_next ?_ ?_ (by assumption)) | (with_reducible refine Below.alloc ?_ ?_ _) | (with_reducible refine Below.drew ?_) | (with_reducible refine below_drewN ?_ _) | (with_reducible refine Below.setCell ?_ ?_ _))) <;> (first | omega | (simp; done) | (simp; omega))))).mono ?_
    rintro e w6 ⟨g6, rfl, l6, h6, ⟨rs6, hx6, ho6, hor6⟩, hb6⟩
    have HX6 := Lib.hid hx6
    have HL6 := Lib.hid (show rs6.length = rs1.length from (by have := congrArg List.length HX6.out; simpa using this))
    clear hx6
    have z6 := hb6.size
    (try simp at z6)
    have hR6 := Lib.hid (show RdR w6 (some ⟨g6, 0, none⟩) rs6 from ⟨ho6.rd, fun r hr => (hor6.1 r hr).1.rd⟩)
    have hle6 := Lib.hid (rowsLe_of HX6.out hnl1)
    have HOR6 := Lib.hid hor6
    clear ho6 hor6
    go_wp2_with fail
    refine (iRunProgram_n xs0 us0 _ HV.out _ _ _ hmm (Nat.le_refl _) hmm (ho5.keep (fun a ha => (by have hh := hi5 a ha; exact (by (repeat (first | with_reducible exact Kp.refl _ _ | (with_reducible refine Kp.below ?_ (by assumption)) | (with_reducible refine Kp.rng ?_ (by assumption) ?_) | (with_reducible refine Kp.alloc ?_ _) | (with_reducible refine Kp.drew ?_) | (with_reducible refine Kp.drewN ?_ _) | (with_reducible refine Kp.setCell ?_ _ ?_))) <;> (first | omega | (simp; done) | (simp; omega)))))).rd rs6 rs1.length xss _ _ HL6.out (HX6.out.trans HXS.out.symm) hn1 hle6.out (hR6.out.below (by (repeat (first | with_reducible exact Below.refl _ _ | (with_reducible refine bel_next ?_ ?_ (by assumption)) | (with_reducible refine Below.alloc ?_ ?_ _) | (with_reducible refine Below.drew ?_) | (with_reducible refine below_drewN ?_ _) | (with_reducible refine Below.setCell ?_ ?_ _))) <;> (first | omega | (simp; done) | (simp; omega))))).mono ?_
    rintro e w7 ⟨a7, c7, rfl, ho7, hb7⟩
    have z7 := hb7.size
    try simp at z7
    rw [← HD.out] at ho7
    rw [← HD.out, ← HO.out]
    have hi7 : Ins a7 _ _ := ho7.ins
    go_wp2_with fail
    refine (eqIntS_same D _ _ _ _ _ hF (ho7.keep (fun a ha => (by have hh := hi7 a ha; exact (by (repeat (first | with_reducible exact Kp.refl _ _ | (with_reducible refine Kp.below ?_ (by assumption)) | (with_reducible refine Kp.rng ?_ (by assumption) ?_) | (with_reducible refine Kp.alloc ?_ _) | (with_reducible refine Kp.drew ?_) | (with_reducible refine Kp.drewN ?_ _) | (with_reducible refine Kp.setCell ?_ _ ?_))) <;> (first | omega | (simp; done) | (simp; omega)))))).rd (ho4.keep (fun a ha => (by have hh := hi4 a ha; exact (by (repeat (first | with_reducible exact Kp.refl _ _ | (with_reducible refine Kp.below ?_ (by assumption)) | (with_reducible refine Kp.rng ?_ (by assumption) ?_) | (with_reducible refine Kp.alloc ?_ _) | (with_reducible refine Kp.drew ?_) | (with_reducible refine Kp.drewN ?_ _) | (with_reducible refine Kp.setCell ?_ _ ?_))) <;> (first | omega | (simp; done) | (simp; omega)))))).rd).mono ?_
    rintro e _ ⟨rfl, m8, rfl⟩
    go_wp2_with fail
    refine (toStmtS_any xs0 _ _ _ hsz (hr0.below (by (repeat (first | with_reducible exact Below.refl _ _ | (with_reducible refine bel_next ?_ ?_ (by assumption)) | (with_reducible refine Below.alloc ?_ ?_ _) | (with_reducible refine Below.drew ?_) | (with_reducible refine below_drewN ?_ _) | (with_reducible refine Below.setCell ?_ ?_ _))) <;> (first | omega | (simp; done) | (simp; omega))))).mono ?_
    rintro e w9 ⟨g9, rfl, ho9, lo9, hi9, hb9⟩
    have z9 := hb9.size
    try simp at z9
    have hi9 : Ins (some ⟨g9, 0, none⟩) _ _ := ho9.ins
    go_wp2_with fail
    refine (eqStmtS_same xs0 _ _ _ _ _ hsz (ho5.keep (fun a ha => (by have hh := hi5 a ha; exact (by (repeat (first | with_reducible exact Kp.refl _ _ | (with_reducible refine Kp.below ?_ (by assumption)) | (with_reducible refine Kp.rng ?_ (by assumption) ?_) | (with_reducible refine Kp.alloc ?_ _) | (with_reducible refine Kp.drew ?_) | (with_reducible refine Kp.drewN ?_ _) | (with_reducible refine Kp.setCell ?_ _ ?_))) <;> (first | omega | (simp; done) | (simp; omega)))))).rd (ho9.keep (fun a ha => (by have hh := hi9 a ha; exact (by (repeat (first | with_reducible exact Kp.refl _ _ | (with_reducible refine Kp.below ?_ (by assumption)) | (with_reducible refine Kp.rng ?_ (by assumption) ?_) | (with_reducible refine Kp.alloc ?_ _) | (with_reducible refine Kp.drew ?_) | (with_reducible refine Kp.drewN ?_ _) | (with_reducible refine Kp.setCell ?_ _ ?_))) <;> (first | omega | (simp; done) | (simp; omega)))))).rd).mono ?_
    rintro e w10 ⟨rfl, hb10⟩
    have z10 := hb10.size
    try simp at z10
    go_wp2_with fail
    refine (toIntSS_any rs1 _ _ _ hn1 hnl1 (HRI.out.below (by (repeat (first | with_reducible exact Below.refl _ _ | (with_reducible refine bel_next ?_ ?_ (by assumption)) | (with_reducible refine Below.alloc ?_ ?_ _) | (with_reducible refine Below.drew ?_) | (with_reducible refine below_drewN ?_ _) | (with_reducible refine Below.setCell ?_ ?_ _))) <;> (first | omega | (simp; done) | (simp; omega))))).mono ?_
    rintro e w11 ⟨g11, rfl, l11, h11, ⟨rs11, hx11, ho11, hor11⟩, hb11⟩
    have HX11 := Lib.hid hx11
    have HL11 := Lib.hid (show rs11.length = rs1.length from (by have := congrArg List.length HX11.out; simpa using this))
    clear hx11
    have z11 := hb11.size
    (try simp at z11)
    have hR11 := Lib.hid (show RdR w11 (some ⟨g11, 0, none⟩) rs11 from ⟨ho11.rd, fun r hr => (hor11.1 r hr).1.rd⟩)
    have hle11 := Lib.hid (rowsLe_of HX11.out hnl1)
    have HOR11 := Lib.hid hor11
    clear ho11 hor11
    have hcc := eqIntSS_same rs6 rs11 (some ⟨g6, 0, none⟩) (some ⟨g11, 0, none⟩) rs1.length rs1.length w11 (by rw [HL6.out]; exact hn1) (rowsLe_of' HX6.out hnl1) (by rw [HX11.out, HX6.out]) (hR6.out.below (by (repeat (first | with_reducible exact Below.refl _ _ | (with_reducible refine bel_next ?_ ?_ (by assumption)) | (with_reducible refine Below.alloc ?_ ?_ _) | (with_reducible refine Below.drew ?_) | (with_reducible refine below_drewN ?_ _) | (with_reducible refine Below.setCell ?_ ?_ _))) <;> (first | omega | (simp; done) | (simp; omega)))) hR11.out
    rw [HL6.out] at hcc
    go_wp2_with fail
    refine hcc.mono ?_
    clear hcc
    rintro e _ ⟨rfl, m12, rfl⟩
    go_wp2_with fail
    refine (markStmtS_rng xs0.length _ _ _ _ 1 _ _ _ (by omega) (by omega) hsz (ho5.keep (fun a ha => (by have hh := hi5 a ha; exact (by (repeat (first | with_reducible exact Kp.refl _ _ | (with_reducible refine Kp.below ?_ (by assumption)) | (with_reducible refine Kp.rng ?_ (by assumption) ?_) | (with_reducible refine Kp.alloc ?_ _) | (with_reducible refine Kp.drew ?_) | (with_reducible refine Kp.drewN ?_ _) | (with_reducible refine Kp.setCell ?_ _ ?_))) <;> (first | omega | (simp; done) | (simp; omega)))))) hi5 (by first | omega | (simp; done) | (simp; omega))).mono ?_
    rintro e w13 ⟨rfl, ho13, hb13, hr13⟩
    have z13 := hb13.size
    try simp at z13
    have hi13 := hi5
    have hcc := markIntSS_k (1 + ((xs0.length * 6 : Nat) : Int)) (by omega) (by omega) rs6 (some ⟨g6, 0, none⟩) rs1.length w5.heap.size (g6 + 1) w6.heap.size w13 (by rw [HL6.out]; exact hn1) (by rw [tot_map HX6.out]; exact htot) (hR6.out.1.keep (fun b off e => by (obtain rfl : g6 = b := (by simpa using congrArg Addr.block (Option.some.inj e))); have hh := hi5; have hh2 := hh _ rfl; exact (by (repeat (first | with_reducible exact Kp.refl _ _ | (with_reducible refine Kp.below ?_ (by assumption)) | (with_reducible refine Kp.rng ?_ (by assumption) ?_) | (with_reducible refine Kp.alloc ?_ _) | (with_reducible refine Kp.drew ?_) | (with_reducible refine Kp.drewN ?_ _) | (with_reducible refine Kp.setCell ?_ _ ?_))) <;> (first | omega | (simp; done) | (simp; omega))))) (by intro a ha; obtain rfl : _ = a := Option.some.inj ha; simp) (HOR6.out.keep fun b hb1 hb2 => (by have hh := hi5; have hh2 := hh _ rfl; exact (by (repeat (first | with_reducible exact Kp.refl _ _ | (with_reducible refine Kp.below ?_ (by assumption)) | (with_reducible refine Kp.rng ?_ (by assumption) ?_) | (with_reducible refine Kp.alloc ?_ _) | (with_reducible refine Kp.drew ?_) | (with_reducible refine Kp.drewN ?_ _) | (with_reducible refine Kp.setCell ?_ _ ?_))) <;> (first | omega | (simp; done) | (simp; omega))))) (by first | omega | (simp; done) | (simp; omega)) (by omega)
    rw [HL6.out] at hcc
    go_wp2_with fail
    refine hcc.mono ?_
    clear hcc
    rintro e w14 ⟨v14, rfl, p14, _, hb14, hr14⟩
    have hv14 : decide (v14 < 0) = false := decide_eq_false (by omega)
    have z14 := hb14.size
    try simp at z14
    go_wp2_with fail
    refine (eqIntS_same D _ _ _ _ _ hF (ho7.keep (fun a ha => (by have hh := hi7 a ha; exact (by (repeat (first | with_reducible exact Kp.refl _ _ | (with_reducible refine Kp.below ?_ (by assumption)) | (with_reducible refine Kp.rng ?_ (by assumption) ?_) | (with_reducible refine Kp.alloc ?_ _) | (with_reducible refine Kp.drew ?_) | (with_reducible refine Kp.drewN ?_ _) | (with_reducible refine Kp.setCell ?_ _ ?_))) <;> (first | omega | (simp; done) | (simp; omega)))))).rd (ho4.keep (fun a ha => (by have hh := hi4 a ha; exact (by (repeat (first | with_reducible exact Kp.refl _ _ | (with_reducible refine Kp.below ?_ (by assumption)) | (with_reducible refine Kp.rng ?_ (by assumption) ?_) | (with_reducible refine Kp.alloc ?_ _) | (with_reducible refine Kp.drew ?_) | (with_reducible refine Kp.drewN ?_ _) | (with_reducible refine Kp.setCell ?_ _ ?_))) <;> (first | omega | (simp; done) | (simp; omega)))))).rd).mono ?_
    rintro e _ ⟨rfl, m15, rfl⟩
    go_wp2_with fail
    refine (markIntS_rng D.length _ _ _ _ 1 _ _ _ (by omega) (by omega) hF (ho7.keep (fun a ha => (by have hh := hi7 a ha; exact (by (repeat (first | with_reducible exact Kp.refl _ _ | (with_reducible refine Kp.below ?_ (by assumption)) | (with_reducible refine Kp.rng ?_ (by assumption) ?_) | (with_reducible refine Kp.alloc ?_ _) | (with_reducible refine Kp.drew ?_) | (with_reducible refine Kp.drewN ?_ _) | (with_reducible refine Kp.setCell ?_ _ ?_))) <;> (first | omega | (simp; done) | (simp; omega)))))) hi7 (by first | omega | (simp; done) | (simp; omega))).mono ?_
    rintro e w16 ⟨rfl, ho16, hb16, hr16⟩
    have z16 := hb16.size
    try simp at z16
    have hi16 := hi7
    go_wp2_with fail
    refine (heldIntS_any D.length 1 _ _ _ (by omega) (by omega) hF (ho16.keep (fun a ha => (by have hh := hi16 a ha; exact (by (repeat (first | with_reducible exact Kp.refl _ _ | (with_reducible refine Kp.below ?_ (by assumption)) | (with_reducible refine Kp.rng ?_ (by assumption) ?_) | (with_reducible refine Kp.alloc ?_ _) | (with_reducible refine Kp.drew ?_) | (with_reducible refine Kp.drewN ?_ _) | (with_reducible refine Kp.setCell ?_ _ ?_))) <;> (first | omega | (simp; done) | (simp; omega)))))).rd).mono ?_
    rintro e _ ⟨rfl, rfl⟩
    go_wp2_with fail
    refine (toStmtS_any xs0 _ _ _ hsz (hr0.below (by (repeat (first | with_reducible exact Below.refl _ _ | (with_reducible refine bel_next ?_ ?_ (by assumption)) | (with_reducible refine Below.alloc ?_ ?_ _) | (with_reducible refine Below.drew ?_) | (with_reducible refine below_drewN ?_ _) | (with_reducible refine Below.setCell ?_ ?_ _))) <;> (first | omega | (simp; done) | (simp; omega))))).mono ?_
    rintro e w17 ⟨g17, rfl, ho17, lo17, hi17, hb17⟩
    have z17 := hb17.size
    try simp at z17
    have hi17 : Ins (some ⟨g17, 0, none⟩) _ _ := ho17.ins
    go_wp2_with fail
    refine (toIntSS_any rs1 _ _ _ hn1 hnl1 (HRI.out.below (by (repeat (first | with_reducible exact Below.refl _ _ | (with_reducible refine bel_next ?_ ?_ (by assumption)) | (with_reducible refine Below.alloc ?_ ?_ _) | (with_reducible refine Below.drew ?_) | (with_reducible refine below_drewN ?_ _) | (with_reducible refine Below.setCell ?_ ?_ _))) <;> (first | omega | (simp; done) | (simp; omega))))).mono ?_
    rintro e w18 ⟨g18, rfl, l18, h18, ⟨rs18, hx18, ho18, hor18⟩, hb18⟩
    have HX18 := Lib.hid hx18
    have HL18 := Lib.hid (show rs18.length = rs1.length from (by have := congrArg List.length HX18.out; simpa using this))
    clear hx18
    have z18 := hb18.size
    (try simp at z18)
    have hR18 := Lib.hid (show RdR w18 (some ⟨g18, 0, none⟩) rs18 from ⟨ho18.rd, fun r hr => (hor18.1 r hr).1.rd⟩)
    have hle18 := Lib.hid (rowsLe_of HX18.out hnl1)
    have HOR18 := Lib.hid hor18
    clear ho18 hor18
    go_wp2_with fail
    refine (iRunProgram_n xs0 us0 _ HV.out _ _ _ hmm (Nat.le_refl _) hmm (ho17.keep (fun a ha => (by have hh := hi17 a ha; exact (by (repeat (first | with_reducible exact Kp.refl _ _ | (with_reducible refine Kp.below ?_ (by assumption)) | (with_reducible refine Kp.rng ?_ (by assumption) ?_) | (with_reducible refine Kp.alloc ?_ _) | (with_reducible refine Kp.drew ?_) | (with_reducible refine Kp.drewN ?_ _) | (with_reducible refine Kp.setCell ?_ _ ?_))) <;> (first | omega | (simp; done) | (simp; omega)))))).rd rs18 rs1.length xss _ _ HL18.out (HX18.out.trans HXS.out.symm) hn1 hle18.out (hR18.out.below (by (repeat (first | with_reducible exact Below.refl _ _ | (with_reducible refine bel_next ?_ ?_ (by assumption)) | (with_reducible refine Below.alloc ?_ ?_ _) | (with_reducible refine Below.drew ?_) | (with_reducible refine below_drewN ?_ _) | (with_reducible refine Below.setCell ?_ ?_ _))) <;> (first | omega | (simp; done) | (simp; omega))))).mono ?_
    rintro e w19 ⟨a19, c19, rfl, ho19, hb19⟩
    have z19 := hb19.size
    try simp at z19
    rw [← HD.out] at ho19
    rw [← HD.out, ← HO.out]
    have hi19 : Ins a19 _ _ := ho19.ins
    go_wp2_with fail
    refine (eqIntS_same D _ _ _ _ _ hF (ho19.keep (fun a ha => (by have hh := hi19 a ha; exact (by (repeat (first | with_reducible exact Kp.refl _ _ | (with_reducible refine Kp.below ?_ (by assumption)) | (with_reducible refine Kp.rng ?_ (by assumption) ?_) | (with_reducible refine Kp.alloc ?_ _) | (with_reducible refine Kp.drew ?_) | (with_reducible refine Kp.drewN ?_ _) | (with_reducible refine Kp.setCell ?_ _ ?_))) <;> (first | omega | (simp; done) | (simp; omega)))))).rd (ho4.keep (fun a ha => (by have hh := hi4 a ha; exact (by (repeat (first | with_reducible exact Kp.refl _ _ | (with_reducible refine Kp.below ?_ (by assumption)) | (with_reducible refine Kp.rng ?_ (by assumption) ?_) | (with_reducible refine Kp.alloc ?_ _) | (with_reducible refine Kp.drew ?_) | (with_reducible refine Kp.drewN ?_ _) | (with_reducible refine Kp.setCell ?_ _ ?_))) <;> (first | omega | (simp; done) | (simp; omega)))))).rd).mono ?_
    rintro e _ ⟨rfl, m20, rfl⟩
    go_wp2_with fail
    refine (heldIntS_any D.length 1 _ _ _ (by omega) (by omega) hF (ho16.keep (fun a ha => (by have hh := hi16 a ha; exact (by (repeat (first | with_reducible exact Kp.refl _ _ | (with_reducible refine Kp.below ?_ (by assumption)) | (with_reducible refine Kp.rng ?_ (by assumption) ?_) | (with_reducible refine Kp.alloc ?_ _) | (with_reducible refine Kp.drew ?_) | (with_reducible refine Kp.drewN ?_ _) | (with_reducible refine Kp.setCell ?_ _ ?_))) <;> (first | omega | (simp; done) | (simp; omega)))))).rd).mono ?_
    rintro e _ ⟨rfl, rfl⟩
    go_wp2_with fail
    go_ret
    exact ⟨rfl, (by (repeat (first | with_reducible exact Below.refl _ _ | (with_reducible refine bel_next ?_ ?_ (by assumption)) | (with_reducible refine Below.alloc ?_ ?_ _) | (with_reducible refine Below.drew ?_) | (with_reducible refine below_drewN ?_ _) | (with_reducible refine Below.setCell ?_ ?_ _))) <;> (first | omega | (simp; done) | (simp; omega)))⟩
end Go.Proofs.Ytfeffofoofmgcaa
