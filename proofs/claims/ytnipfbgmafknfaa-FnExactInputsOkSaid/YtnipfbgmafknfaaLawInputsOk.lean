/- The walk of the law on InputsOk. -/
import Derived.Test.YtnipfbgmafknfaaGrid
namespace Go.Proofs.Ytnipfbgmafknfaa
open Go.RowKit

set_option maxHeartbeats 4000000 in
theorem walk_FnExactInputsOk (w : World) (rs0 : List Rw) (ad0 : Option Addr) (cap0 : Nat) (hm0 : rs0.length ≤ maxLen) (hr0 : RdC w ad0 (rs0.map Rw.val)) (hrr0 : ∀ r ∈ rs0, RdC w r.ad (I64 r.xs) ∧ r.xs.length ≤ maxLen) :
    Calls Try.prog 9 #[.slice ad0 rs0.length cap0] w fun e w' => e = .returned (.bool true) ∧ Below w.heap.size w w' := by
  have hrs0 : RdR w ad0 rs0 := ⟨hr0, fun r hr => (hrr0 r hr).1⟩
  have hml0 : rowsLe rs0 := fun r hr => (hrr0 r hr).2
  clear hr0 hrr0
  go_enter Try.func9, Try.ntmps9
  go_wp2_with fail
  refine (szIntSS_any rs0 _ _ _ hm0 hml0 hrs0).mono ?_
  rintro e w' ⟨v, rfl, v1, v2, hsz, rfl⟩
  rcases hsz with hneg | hsz
  · go_wp2_with fail
    go_ret
    exact ⟨rfl, Below.refl _ _⟩
  by_cases hneg : v < 0
  · go_wp2_with fail
    go_ret
    exact ⟨rfl, Below.refl _ _⟩
  · have hn0 : rs0.length ≤ 1048576 := by omega
    have hnl0 : ∀ r ∈ rs0, r.xs.length ≤ 1048576 := fun r hr => by have := tot_mem hr; omega
    clear hml0 hsz hm0
    have hmm : rs0.length ≤ maxLen := by unfold maxLen; omega
    have HN := Lib.hid hnl0
    go_wp2_with fail
    refine (toIntSS_any rs0 _ _ _ hn0 hnl0 (hrs0.below (by (repeat (first | with_reducible exact Below.refl _ _ | (with_reducible refine bel_next ?_ ?_ (by assumption)) | (with_reducible refine Below.alloc ?_ ?_ _) | (with_reducible refine Below.drew ?_) | (with_reducible refine below_drewN ?_ _) | (with_reducible refine Below.setCell ?_ ?_ _))) <;> (first | omega | (simp; done) | (simp; omega))))).mono ?_
    rintro e w1 ⟨g1, rfl, l1, h1, ⟨rs1, hx1, ho1, hor1⟩, hb1⟩
    have hl1 : rs1.length = rs0.length := (by have := congrArg List.length hx1; simpa using this)
    have HX1 := Lib.hid hx1
    have HL1 := Lib.hid hl1
    clear hl1 hx1
    have z1 := hb1.size
    have hR1 : RdR w1 (some ⟨g1, 0, none⟩) rs1 := ⟨ho1.rd, fun r hr => (hor1.1 r hr).1.rd⟩

    have hle1 : rowsLe rs1 := rowsLe_of HX1.out hnl0
    have hc1 := sInputsOk_any rs1 (some ⟨g1, 0, none⟩) rs0.length w1 (by rw [HL1.out]; exact hmm) hle1 hR1
    rw [HL1.out, HX1.out] at hc1
    go_wp2_with fail
    refine hc1.mono ?_
    clear hc1
    rintro e w' ⟨rfl, rfl⟩
    go_wp2_with fail
    refine (toIntSS_any rs0 _ _ _ hn0 hnl0 (hrs0.below (by (repeat (first | with_reducible exact Below.refl _ _ | (with_reducible refine bel_next ?_ ?_ (by assumption)) | (with_reducible refine Below.alloc ?_ ?_ _) | (with_reducible refine Below.drew ?_) | (with_reducible refine below_drewN ?_ _) | (with_reducible refine Below.setCell ?_ ?_ _))) <;> (first | omega | (simp; done) | (simp; omega))))).mono ?_
    rintro e w2 ⟨g2, rfl, l2, h2, ⟨rs2, hx2, ho2, hor2⟩, hb2⟩
    have hl2 : rs2.length = rs0.length := (by have := congrArg List.length hx2; simpa using this)
    have HX2 := Lib.hid hx2
    have HL2 := Lib.hid hl2
    clear hl2 hx2
    have z2 := hb2.size
    have hR2 : RdR w2 (some ⟨g2, 0, none⟩) rs2 := ⟨ho2.rd, fun r hr => (hor2.1 r hr).1.rd⟩
    have hle2 : rowsLe rs2 := rowsLe_of HX2.out hnl0
    have hc2 := iInputsOk_any rs2 (some ⟨g2, 0, none⟩) rs0.length w2 (by rw [HL2.out]; exact hmm) hle2 hR2
    rw [HL2.out, HX2.out] at hc2
    go_wp2_with fail
    refine hc2.mono ?_
    clear hc2
    rintro e w' ⟨rfl, rfl⟩
    have hself : (inputsOk (rs0.map Rw.xs) != inputsOk (rs0.map Rw.xs)) = false := by simp
    go_wp2_with fail
    refine (toIntSS_any rs0 _ _ _ hn0 hnl0 (hrs0.below (by (repeat (first | with_reducible exact Below.refl _ _ | (with_reducible refine bel_next ?_ ?_ (by assumption)) | (with_reducible refine Below.alloc ?_ ?_ _) | (with_reducible refine Below.drew ?_) | (with_reducible refine below_drewN ?_ _) | (with_reducible refine Below.setCell ?_ ?_ _))) <;> (first | omega | (simp; done) | (simp; omega))))).mono ?_
    rintro e w3 ⟨g3, rfl, l3, h3, ⟨rs3, hx3, ho3, hor3⟩, hb3⟩
    have hl3 : rs3.length = rs0.length := (by have := congrArg List.length hx3; simpa using this)
    have HX3 := Lib.hid hx3
    have HL3 := Lib.hid hl3
    clear hl3 hx3
    have z3 := hb3.size
    have hR3 : RdR w3 (some ⟨g3, 0, none⟩) rs3 := ⟨ho3.rd, fun r hr => (hor3.1 r hr).1.rd⟩
    have hc3 := eqIntSS_same rs2 rs3 (some ⟨g2, 0, none⟩) (some ⟨g3, 0, none⟩) rs0.length rs0.length w3 (by rw [HL2.out]; exact hn0) (rowsLe_of' HX2.out hnl0) (by rw [HX3.out, HX2.out]) (hR2.below (by (repeat (first | with_reducible exact Below.refl _ _ | (with_reducible refine bel_next ?_ ?_ (by assumption)) | (with_reducible refine Below.alloc ?_ ?_ _) | (with_reducible refine Below.drew ?_) | (with_reducible refine below_drewN ?_ _) | (with_reducible refine Below.setCell ?_ ?_ _))) <;> (first | omega | (simp; done) | (simp; omega)))) hR3
    rw [HL2.out] at hc3
    go_wp2_with fail
    refine hc3.mono ?_
    clear hc3
    rintro e w' ⟨rfl, m, rfl⟩
    go_wp2_with fail
    go_ret
    exact ⟨rfl, (by (repeat (first | with_reducible exact Below.refl _ _ | (with_reducible refine bel_next ?_ ?_ (by assumption)) | (with_reducible refine Below.alloc ?_ ?_ _) | (with_reducible refine Below.drew ?_) | (with_reducible refine below_drewN ?_ _) | (with_reducible refine Below.setCell ?_ ?_ _))) <;> (first | omega | (simp; done) | (simp; omega)))⟩
end Go.Proofs.Ytnipfbgmafknfaa
