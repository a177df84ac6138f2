/- The walk of the law on InputBits. -/
import Derived.Test.YtnipfbgmafknfaaInputBits
namespace Go.Proofs.Ytnipfbgmafknfaa
open Go.RowKit

theorem inputBits_le (xss : List (List Int)) : (inputBits xss).length ≤ 1048576 := by
  unfold inputBits; split
  · rw [bitsT_length]; omega
  · simp

set_option maxHeartbeats 4000000 in
theorem walk_FnExactInputBits (w : World) (rs0 : List Rw) (ad0 : Option Addr) (cap0 : Nat) (hm0 : rs0.length ≤ maxLen) (hr0 : RdC w ad0 (rs0.map Rw.val)) (hrr0 : ∀ r ∈ rs0, RdC w r.ad (I64 r.xs) ∧ r.xs.length ≤ maxLen) :
    Calls Try.prog 10 #[.slice ad0 rs0.length cap0] w fun e w' => e = .returned (.bool true) ∧ Below w.heap.size w w' := by
  have hrs0 : RdR w ad0 rs0 := ⟨hr0, fun r hr => (hrr0 r hr).1⟩
  have hml0 : rowsLe rs0 := fun r hr => (hrr0 r hr).2
  clear hr0 hrr0
  go_enter Try.func10, Try.ntmps10
  go_wp2_with fail
  refine (szIntSS_any rs0 _ _ _ hm0 hml0 hrs0).mono ?_
  rintro e w' ⟨v, rfl, v1, v2, hsz, rfl⟩
  rcases hsz with hneg | hsz
  · go_wp2_with fail
    go_ret
    exact ⟨rfl, Below.refl _ _⟩
  by_cases hneg : v < 0
  · go_wp2_with fail
    go_ret
    exact ⟨rfl, Below.refl _ _⟩
  · have hn0 : rs0.length ≤ 1048576 := by omega
    have hnl0 : ∀ r ∈ rs0, r.xs.length ≤ 1048576 := fun r hr => by have := tot_mem hr; omega
    have htot : tot rs0 ≤ 1048576 := by omega
    clear hml0 hsz hm0
    have hmm : rs0.length ≤ maxLen := by unfold maxLen; omega
    obtain ⟨F, hFe⟩ : ∃ F, F = inputBits (rs0.map Rw.xs) := ⟨_, rfl⟩
    have hF : F.length ≤ 1048576 := by rw [hFe]; exact inputBits_le _
    have HFE := Lib.hid hFe
    clear hFe
    go_wp2_with fail
    refine (toIntSS_any rs0 _ _ _ hn0 hnl0 (hrs0.below (by (repeat (first | with_reducible exact Below.refl _ _ | (with_reducible refine bel_next ?_ ?_ (by assumption)) | (with_reducible refine Below.alloc ?_ ?_ _) | (with_reducible refine Below.drew ?_) | (with_reducible refine below_drewN ?_ _) | (with_reducible refine Below.setCell ?_ ?_ _))) <;> (first | omega | (simp; done) | (simp; omega))))).mono ?_
    rintro e w1 ⟨g1, rfl, l1, h1, ⟨rs1, hx1, ho1, hor1⟩, hb1⟩
    have HX1 := Lib.hid hx1
    have HL1 := Lib.hid (show rs1.length = rs0.length from (by have := congrArg List.length HX1.out; simpa using this))
    clear hx1
    have z1 := hb1.size
    (try simp at z1)
    have hR1 : RdR w1 (some ⟨g1, 0, none⟩) rs1 := ⟨ho1.rd, fun r hr => (hor1.1 r hr).1.rd⟩
    have hle1 : rowsLe rs1 := rowsLe_of HX1.out hnl0
    have hcc := sInputBits_any rs1 (some ⟨g1, 0, none⟩) rs0.length w1 (by rw [HL1.out]; exact hmm) hle1 hR1
    rw [HL1.out, HX1.out, ← HFE.out] at hcc
    go_wp2_with fail
    refine hcc.mono ?_
    clear hcc
    rintro e w2 ⟨a2, c2, rfl, ho2, hb2⟩
    have z2 := hb2.size
    try simp at z2
    have hi2 : Ins a2 _ _ := ho2.ins
    go_wp2_with fail
    refine (toIntSS_any rs0 _ _ _ hn0 hnl0 (hrs0.below (by (repeat (first | with_reducible exact Below.refl _ _ | (with_reducible refine bel_next ?_ ?_ (by assumption)) | (with_reducible refine Below.alloc ?_ ?_ _) | (with_reducible refine Below.drew ?_) | (with_reducible refine below_drewN ?_ _) | (with_reducible refine Below.setCell ?_ ?_ _))) <;> (first | omega | (simp; done) | (simp; omega))))).mono ?_
    rintro e w3 ⟨g3, rfl, l3, h3, ⟨rs3, hx3, ho3, hor3⟩, hb3⟩
    have HX3 := Lib.hid hx3
    have HL3 := Lib.hid (show rs3.length = rs0.length from (by have := congrArg List.length HX3.out; simpa using this))
    clear hx3
    have z3 := hb3.size
    (try simp at z3)
    have hR3 : RdR w3 (some ⟨g3, 0, none⟩) rs3 := ⟨ho3.rd, fun r hr => (hor3.1 r hr).1.rd⟩
    have hle3 : rowsLe rs3 := rowsLe_of HX3.out hnl0
    have hcc := iInputBits_any rs3 (some ⟨g3, 0, none⟩) rs0.length w3 (by rw [HL3.out]; exact hmm) hle3 hR3
    rw [HL3.out, HX3.out, ← HFE.out] at hcc
    go_wp2_with fail
    refine hcc.mono ?_
    clear hcc
    rintro e w4 ⟨a4, c4, rfl, ho4, hb4⟩
    have z4 := hb4.size
    try simp at z4
    have hi4 : Ins a4 _ _ := ho4.ins
    go_wp2_with fail
    refine (eqIntS_same F _ _ _ _ _ hF (ho4.keep (fun a ha => (by have hh := hi4 a ha; exact (by (repeat (first | with_reducible exact Kp.refl _ _ | (with_reducible refine Kp.below ?_ (by assumption)) | (with_reducible refine Kp.rng ?_ (by assumption) ?_) | (with_reducible refine Kp.alloc ?_ _) | (with_reducible refine Kp.drew ?_) | (with_reducible refine Kp.drewN ?_ _) | (with_reducible refine Kp.setCell ?_ _ ?_))) <;> (first | omega | (simp; done) | (simp; omega)))))).rd (ho2.keep (fun a ha => (by have hh := hi2 a ha; exact (by (repeat (first | with_reducible exact Kp.refl _ _ | (with_reducible refine Kp.below ?_ (by assumption)) | (with_reducible refine Kp.rng ?_ (by assumption) ?_) | (with_reducible refine Kp.alloc ?_ _) | (with_reducible refine Kp.drew ?_) | (with_reducible refine Kp.drewN ?_ _) | (with_reducible refine Kp.setCell ?_ _ ?_))) <;> (first | omega | (simp; done) | (simp; omega)))))).rd).mono ?_
    rintro e _ ⟨rfl, m5, rfl⟩
    go_wp2_with fail
    refine (toIntSS_any rs0 _ _ _ hn0 hnl0 (hrs0.below (by (repeat (first | with_reducible exact Below.refl _ _ | (with_reducible refine bel_next ?_ ?_ (by assumption)) | (with_reducible refine Below.alloc ?_ ?_ _) | (with_reducible refine Below.drew ?_) | (with_reducible refine below_drewN ?_ _) | (with_reducible refine Below.setCell ?_ ?_ _))) <;> (first | omega | (simp; done) | (simp; omega))))).mono ?_
    rintro e w6 ⟨g6, rfl, l6, h6, ⟨rs6, hx6, ho6, hor6⟩, hb6⟩
    have HX6 := Lib.hid hx6
    have HL6 := Lib.hid (show rs6.length = rs0.length from (by have := congrArg List.length HX6.out; simpa using this))
    clear hx6
    have z6 := hb6.size
    (try simp at z6)
    have hR6 : RdR w6 (some ⟨g6, 0, none⟩) rs6 := ⟨ho6.rd, fun r hr => (hor6.1 r hr).1.rd⟩
    have hle6 : rowsLe rs6 := rowsLe_of HX6.out hnl0
    have hcc := eqIntSS_same rs3 rs6 (some ⟨g3, 0, none⟩) (some ⟨g6, 0, none⟩) rs0.length rs0.length w6 (by rw [HL3.out]; exact hn0) (rowsLe_of' HX3.out hnl0) (by rw [HX6.out, HX3.out]) (hR3.below (by (repeat (first | with_reducible exact Below.refl _ _ | (with_reducible refine bel_next ?_ ?_ (by assumption)) | (with_reducible refine Below.alloc ?_ ?_ _) | (with_reducible refine Below.drew ?_) | (with_reducible refine below_drewN ?_ _) | (with_reducible refine Below.setCell ?_ ?_ _))) <;> (first | omega | (simp; done) | (simp; omega)))) hR6
    rw [HL3.out] at hcc
    go_wp2_with fail
    refine hcc.mono ?_
    clear hcc
    rintro e _ ⟨rfl, m7, rfl⟩
    have hcc := markIntSS_rng rs3 (some ⟨g3, 0, none⟩) rs0.length w2.heap.size (g3 + 1) w3.heap.size (w6.drewN m7) (by rw [HL3.out]; exact hn0) (by rw [tot_map HX3.out]; exact htot) (hR3.1.below (by (repeat (first | with_reducible exact Below.refl _ _ | (with_reducible refine bel_next ?_ ?_ (by assumption)) | (with_reducible refine Below.alloc ?_ ?_ _) | (with_reducible refine Below.drew ?_) | (with_reducible refine below_drewN ?_ _) | (with_reducible refine Below.setCell ?_ ?_ _))) <;> (first | omega | (simp; done) | (simp; omega)))) (by intro a ha; obtain rfl : _ = a := Option.some.inj ha; simp) (hor3.keep fun b hb1 hb2 => (by (repeat (first | with_reducible exact Kp.refl _ _ | (with_reducible refine Kp.below ?_ (by assumption)) | (with_reducible refine Kp.rng ?_ (by assumption) ?_) | (with_reducible refine Kp.alloc ?_ _) | (with_reducible refine Kp.drew ?_) | (with_reducible refine Kp.drewN ?_ _) | (with_reducible refine Kp.setCell ?_ _ ?_))) <;> (first | omega | (simp; done) | (simp; omega)))) (by simp; omega) (by omega)
    rw [HL3.out] at hcc
    go_wp2_with fail
    refine hcc.mono ?_
    clear hcc
    rintro e w8 ⟨v8, rfl, p8, _, hb8, hr8⟩
    have z8 := hb8.size
    try simp at z8
    have hv8 : decide (v8 < 0) = false := decide_eq_false (by omega)
    go_wp2_with fail
    refine (eqIntS_same F _ _ _ _ _ hF (ho4.keep (fun a ha => (by have hh := hi4 a ha; exact (by (repeat (first | with_reducible exact Kp.refl _ _ | (with_reducible refine Kp.below ?_ (by assumption)) | (with_reducible refine Kp.rng ?_ (by assumption) ?_) | (with_reducible refine Kp.alloc ?_ _) | (with_reducible refine Kp.drew ?_) | (with_reducible refine Kp.drewN ?_ _) | (with_reducible refine Kp.setCell ?_ _ ?_))) <;> (first | omega | (simp; done) | (simp; omega)))))).rd (ho2.keep (fun a ha => (by have hh := hi2 a ha; exact (by (repeat (first | with_reducible exact Kp.refl _ _ | (with_reducible refine Kp.below ?_ (by assumption)) | (with_reducible refine Kp.rng ?_ (by assumption) ?_) | (with_reducible refine Kp.alloc ?_ _) | (with_reducible refine Kp.drew ?_) | (with_reducible refine Kp.drewN ?_ _) | (with_reducible refine Kp.setCell ?_ _ ?_))) <;> (first | omega | (simp; done) | (simp; omega)))))).rd).mono ?_
    rintro e _ ⟨rfl, m9, rfl⟩
    go_wp2_with fail
    refine (markIntS_rng F.length _ _ _ _ 1 _ _ _ (by omega) (by omega) hF (ho4.keep (fun a ha => (by have hh := hi4 a ha; exact (by (repeat (first | with_reducible exact Kp.refl _ _ | (with_reducible refine Kp.below ?_ (by assumption)) | (with_reducible refine Kp.rng ?_ (by assumption) ?_) | (with_reducible refine Kp.alloc ?_ _) | (with_reducible refine Kp.drew ?_) | (with_reducible refine Kp.drewN ?_ _) | (with_reducible refine Kp.setCell ?_ _ ?_))) <;> (first | omega | (simp; done) | (simp; omega)))))) hi4 (by first | omega | (simp; done) | (simp; omega))).mono ?_
    rintro e w10 ⟨rfl, ho10, hb10, hr10⟩
    have z10 := hb10.size
    try simp at z10
    have hi10 := hi4
    go_wp2_with fail
    refine (heldIntS_any F.length 1 _ _ _ (by omega) (by omega) hF (ho10.keep (fun a ha => (by have hh := hi10 a ha; exact (by (repeat (first | with_reducible exact Kp.refl _ _ | (with_reducible refine Kp.below ?_ (by assumption)) | (with_reducible refine Kp.rng ?_ (by assumption) ?_) | (with_reducible refine Kp.alloc ?_ _) | (with_reducible refine Kp.drew ?_) | (with_reducible refine Kp.drewN ?_ _) | (with_reducible refine Kp.setCell ?_ _ ?_))) <;> (first | omega | (simp; done) | (simp; omega)))))).rd).mono ?_
    rintro e _ ⟨rfl, rfl⟩
    go_wp2_with fail
    refine (toIntSS_any rs0 _ _ _ hn0 hnl0 (hrs0.below (by (repeat (first | with_reducible exact Below.refl _ _ | (with_reducible refine bel_next ?_ ?_ (by assumption)) | (with_reducible refine Below.alloc ?_ ?_ _) | (with_reducible refine Below.drew ?_) | (with_reducible refine below_drewN ?_ _) | (with_reducible refine Below.setCell ?_ ?_ _))) <;> (first | omega | (simp; done) | (simp; omega))))).mono ?_
    rintro e w11 ⟨g11, rfl, l11, h11, ⟨rs11, hx11, ho11, hor11⟩, hb11⟩
    have HX11 := Lib.hid hx11
    have HL11 := Lib.hid (show rs11.length = rs0.length from (by have := congrArg List.length HX11.out; simpa using this))
    clear hx11
    have z11 := hb11.size
    (try simp at z11)
    have hR11 : RdR w11 (some ⟨g11, 0, none⟩) rs11 := ⟨ho11.rd, fun r hr => (hor11.1 r hr).1.rd⟩
    have hle11 : rowsLe rs11 := rowsLe_of HX11.out hnl0
    have hcc := iInputBits_any rs11 (some ⟨g11, 0, none⟩) rs0.length w11 (by rw [HL11.out]; exact hmm) hle11 hR11
    rw [HL11.out, HX11.out, ← HFE.out] at hcc
    go_wp2_with fail
    refine hcc.mono ?_
    clear hcc
    rintro e w12 ⟨a12, c12, rfl, ho12, hb12⟩
    have z12 := hb12.size
    try simp at z12
    have hi12 : Ins a12 _ _ := ho12.ins
    go_wp2_with fail
    refine (eqIntS_same F _ _ _ _ _ hF (ho12.keep (fun a ha => (by have hh := hi12 a ha; exact (by (repeat (first | with_reducible exact Kp.refl _ _ | (with_reducible refine Kp.below ?_ (by assumption)) | (with_reducible refine Kp.rng ?_ (by assumption) ?_) | (with_reducible refine Kp.alloc ?_ _) | (with_reducible refine Kp.drew ?_) | (with_reducible refine Kp.drewN ?_ _) | (with_reducible refine Kp.setCell ?_ _ ?_))) <;> (first | omega | (simp; done) | (simp; omega)))))).rd (ho2.keep (fun a ha => (by have hh := hi2 a ha; exact (by (repeat (first | with_reducible exact Kp.refl _ _ | (with_reducible refine Kp.below ?_ (by assumption)) | (with_reducible refine Kp.rng ?_ (by assumption) ?_) | (with_reducible refine Kp.alloc ?_ _) | (with_reducible refine Kp.drew ?_) | (with_reducible refine Kp.drewN ?_ _) | (with_reducible refine Kp.setCell ?_ _ ?_))) <;> (first | omega | (simp; done) | (simp; omega)))))).rd).mono ?_
    rintro e _ ⟨rfl, m13, rfl⟩
    go_wp2_with fail
    refine (heldIntS_any F.length 1 _ _ _ (by omega) (by omega) hF (ho10.keep (fun a ha => (by have hh := hi10 a ha; exact (by (repeat (first | with_reducible exact Kp.refl _ _ | (with_reducible refine Kp.below ?_ (by assumption)) | (with_reducible refine Kp.rng ?_ (by assumption) ?_) | (with_reducible refine Kp.alloc ?_ _) | (with_reducible refine Kp.drew ?_) | (with_reducible refine Kp.drewN ?_ _) | (with_reducible refine Kp.setCell ?_ _ ?_))) <;> (first | omega | (simp; done) | (simp; omega)))))).rd).mono ?_
    rintro e _ ⟨rfl, rfl⟩
    go_wp2_with fail
    go_ret
    exact ⟨rfl, (by (repeat (first | with_reducible exact Below.refl _ _ | (with_reducible refine bel_next ?_ ?_ (by assumption)) | (with_reducible refine Below.alloc ?_ ?_ _) | (with_reducible refine Below.drew ?_) | (with_reducible refine below_drewN ?_ _) | (with_reducible refine Below.setCell ?_ ?_ _))) <;> (first | omega | (simp; done) | (simp; omega)))⟩
end Go.Proofs.Ytnipfbgmafknfaa
