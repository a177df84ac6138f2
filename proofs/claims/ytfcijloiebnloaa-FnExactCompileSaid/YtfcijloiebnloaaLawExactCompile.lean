/- The walk of the law FnExactCompile. -/
import Derived.Test.YtfcijloiebnloaaCircM
import Derived.Test.YtfcijloiebnloaaStmtList
import Derived.Test.YtfcijloiebnloaaOpen
import Derived.Test.YtfcijloiebnloaaCmpAllC
import Derived.Test.YtfcijloiebnloaaShare
import Derived.Deep.RegionHeld3
namespace Go.Proofs.Ytfcijloiebnloaa
open Go.RowKit
set_option linter.unusedVariables false
set_option linter.unusedSimpArgs false
theorem cmp_len {us : List St} {ok : Bool} (hu : ok = true → ∀ s ∈ us, StU s) (hl : us.length ≤ 120) : (cmpG us ok).length ≤ 1048576 ∧ (cmpO us ok).length ≤ 1048576 := by
  cases ok
  · exact ⟨by simp [cmpG], by simp [cmpO]⟩
  · have h := cmpL_ok (hu rfl) us.length (Nat.le_refl _)
    rw [List.take_length] at h
    have h1 := h.len
    have h2 := h.ol
    exact ⟨by simp only [cmpG, if_true]; omega, by simp only [cmpO, if_true]; omega⟩
theorem unr_stU {xs us : List St} {ok : Bool} (h : IsUnr xs us ok) : ok = true → ∀ s ∈ us, StU s := by
  rintro rfl s hs
  rcases h with h | h | h
  · exact absurd h.1 (by simp)
  · exact absurd h.1 (by simp)
  · have := ur_plains h.2.2.2.1 s hs
    exact stU_of this.1 this.2.1 this.2.2

set_option maxRecDepth 20000 in
set_option maxHeartbeats 16000000 in
theorem walk_FnExactCompile (w : World) (ns0 : List Int) (n0 : Nat) (ad0 : Option Addr) (cap0 : Nat) (e0 : ns0.length = n0 * 6) (hm0 : n0 ≤ maxLen) (hr0 : RdC w ad0 (I64 ns0)) :
    Calls Try.prog 10 #[.slice ad0 n0 cap0] w fun e w' => e = .returned (.bool true) ∧ Below w.heap.size w w' := by
  obtain ⟨xs0, hl0, hx0⟩ := st_of_ints n0 ns0 e0
  rw [← hx0] at hr0
  subst hl0
  clear e0 hx0 ns0
  have hmm := hm0
  unfold maxLen at hm0
  by_cases hsz : xs0.length ≤ 1048576
  case neg =>
    have hsz' : ¬ ((xs0.length : Int) ≤ 1048576) := by omega
    go_enter Try.func10, Try.ntmps10
    go_wp2_with fail
    refine (szStmtS_any xs0.length _ _ 1048576 _ hmm (by omega) (by omega)).mono ?_
    rintro e _ ⟨rfl, rfl⟩
    rw [if_neg (show ¬ ((xs0.length : Int) ≤ 1048576) by omega)]
    go_wp2_with fail
    go_ret
    exact ⟨rfl, Below.refl _ _⟩
  have hsz' : (xs0.length : Int) ≤ 1048576 := by omega
  have HR0 := Lib.hid hr0
  clear hr0
  obtain ⟨us0, ok0, hv0⟩ := unr_ex xs0
  have hsu := unr_stU hv0
  have hcl := cmp_len hsu (unr_len hv0)
  obtain ⟨PG, hPG⟩ : ∃ x, x = cmpG us0 ok0 := ⟨_, rfl⟩
  obtain ⟨PO, hPO⟩ : ∃ x, x = cmpO us0 ok0 := ⟨_, rfl⟩
  rw [← hPG, ← hPO] at hcl
  obtain ⟨hF0, hF1⟩ := hcl
  have HPG := Lib.hid hPG
  have HPO := Lib.hid hPO
  have HV := Lib.hid hv0
  have HSU := Lib.hid hsu
  clear hPG hPO hv0 hsu
  cases ok0
  all_goals
    go_enter Try.func10, Try.ntmps10
    go_wp2_with fail
    refine (szStmtS_any xs0.length _ _ 1048576 _ hmm (by omega) (by omega)).mono ?_
    rintro e _ ⟨rfl, rfl⟩
    rw [if_pos (show (xs0.length : Int) ≤ 1048576 by omega)]
    go_wp2_with fail
    refine (toStmtS_any xs0 _ _ _ hsz (HR0.out.below (by (repeat (first | with_reducible exact Below.refl _ _ | (with_reducible refine bel_next ?_ ?_ (by assumption)) | (with_reducible refine Below.alloc ?_ ?_ _) | (with_reducible refine Below.drew ?_) | (with_reducible refine below_drewN ?_ _) | (with_reducible refine Below.setCell ?_ ?_ _))) <;> (first | omega | (simp; done) | (simp; omega))))).mono ?_
    rintro e w1 ⟨gs1, rfl, ho1, lo1, hi1, hb1⟩
    have z1 := hb1.size
    (try simp at z1)
    have is1 := ho1.ins
    go_wp2_with fail
    have hcc := sCompile_any xs0 us0 _ HV.out (fun h => HSU.out (by first | exact h | trivial | (cases h))) (some ⟨gs1, 0, none⟩) xs0.length w1 hmm (Nat.le_refl _) hmm (ho1.keep (fun a ha => (by have hh := is1 a ha; exact (by (repeat (first | with_reducible exact Kp.refl _ _ | (with_reducible refine Kp.rng ?_ (by assumption) ?_) | (with_reducible refine Kp.below ?_ (by assumption)) | (with_reducible refine Kp.grown ?_ (by assumption) ?_) | (with_reducible refine Kp.alloc ?_ _) | (with_reducible refine Kp.drew ?_) | (with_reducible refine Kp.drewN ?_ _) | (with_reducible refine Kp.setCell ?_ _ ?_))) <;> (first | omega | (simp; done) | (simp; omega)))))).rd
    rw [← HPG.out, ← HPO.out] at hcc
    refine hcc.mono ?_
    clear hcc
    rintro e w2 ⟨a2, c2, b2, d2, rfl, o2, u2, ne2, hb2⟩
    have z2 := hb2.size
    (try simp at z2)
    have i2 := o2.ins
    have j2 := u2.ins
    go_wp2_with fail
    obtain ⟨w3, hw3⟩ : ∃ W, W = w2.alloc (.cells #[.slice a2 PG.length c2, .slice b2 PO.length d2] 29) := ⟨_, rfl⟩
    rw [← hw3]
    have hb3 : Below w2.heap.size w2 w3 := by rw [hw3]; exact (Below.refl _ _).alloc (Nat.le_refl _) _
    have x3 : w2.heap.size < w3.heap.size := by rw [hw3]; simp
    have z3 := hb3.size
    (try simp at z3)
    have kb3_0 : w3.cell? ⟨w2.heap.size, 0, none⟩ = some (.slice a2 PG.length c2) := by rw [hw3]; go_simp
    have kb3_1 : w3.cell? ⟨w2.heap.size, 1, none⟩ = some (.slice b2 PO.length d2) := by rw [hw3]; go_simp
    clear hw3
    go_wp2_with fail
    refine (toStmtS_any xs0 _ _ _ hsz (HR0.out.below (by (repeat (first | with_reducible exact Below.refl _ _ | (with_reducible refine bel_next ?_ ?_ (by assumption)) | (with_reducible refine Below.alloc ?_ ?_ _) | (with_reducible refine Below.drew ?_) | (with_reducible refine below_drewN ?_ _) | (with_reducible refine Below.setCell ?_ ?_ _))) <;> (first | omega | (simp; done) | (simp; omega))))).mono ?_
    rintro e w4 ⟨gs4, rfl, ho4, lo4, hi4, hb4⟩
    have z4 := hb4.size
    (try simp at z4)
    have y4_0 : w2.heap.size < w4.heap.size := (by omega)
    have k4_0 := bel_keeps hb4 (b := w2.heap.size) (o := 0) (v := .slice a2 PG.length c2) (by first | (go_simp; done) | assumption)
    have k4_1 := bel_keeps hb4 (b := w2.heap.size) (o := 1) (v := .slice b2 PO.length d2) (by first | (go_simp; done) | assumption)
    clear kb3_0 kb3_1
    have is4 := ho4.ins
    go_wp2_with fail
    have hcc := iCompile_any xs0 us0 _ HV.out (fun h => HSU.out (by first | exact h | trivial | (cases h))) (some ⟨gs4, 0, none⟩) xs0.length w4 hmm (Nat.le_refl _) hmm (ho4.keep (fun a ha => (by have hh := is4 a ha; exact (by (repeat (first | with_reducible exact Kp.refl _ _ | (with_reducible refine Kp.rng ?_ (by assumption) ?_) | (with_reducible refine Kp.below ?_ (by assumption)) | (with_reducible refine Kp.grown ?_ (by assumption) ?_) | (with_reducible refine Kp.alloc ?_ _) | (with_reducible refine Kp.drew ?_) | (with_reducible refine Kp.drewN ?_ _) | (with_reducible refine Kp.setCell ?_ _ ?_))) <;> (first | omega | (simp; done) | (simp; omega)))))).rd
    rw [← HPG.out, ← HPO.out] at hcc
    refine hcc.mono ?_
    clear hcc
    rintro e w5 ⟨a5, c5, b5, d5, rfl, o5, u5, ne5, hb5⟩
    have z5 := hb5.size
    (try simp at z5)
    have y5_0 : w2.heap.size < w5.heap.size := (by omega)
    have k5_0 := bel_keeps hb5 (b := w2.heap.size) (o := 0) (v := .slice a2 PG.length c2) (by first | (go_simp; done) | assumption)
    have k5_1 := bel_keeps hb5 (b := w2.heap.size) (o := 1) (v := .slice b2 PO.length d2) (by first | (go_simp; done) | assumption)
    clear k4_0 k4_1
    have i5 := o5.ins
    have j5 := u5.ins
    go_wp2_with fail
    obtain ⟨w6, hw6⟩ : ∃ W, W = w5.alloc (.cells #[.slice a5 PG.length c5, .slice b5 PO.length d5] 29) := ⟨_, rfl⟩
    rw [← hw6]
    have hb6 : Below w5.heap.size w5 w6 := by rw [hw6]; exact (Below.refl _ _).alloc (Nat.le_refl _) _
    have x6 : w5.heap.size < w6.heap.size := by rw [hw6]; simp
    have z6 := hb6.size
    (try simp at z6)
    have y6_0 : w2.heap.size < w6.heap.size := (by omega)
    have k6_0 := bel_keeps hb6 (b := w2.heap.size) (o := 0) (v := .slice a2 PG.length c2) (by first | (go_simp; done) | assumption)
    have k6_1 := bel_keeps hb6 (b := w2.heap.size) (o := 1) (v := .slice b2 PO.length d2) (by first | (go_simp; done) | assumption)
    clear k5_0 k5_1
    have kb6_0 : w6.cell? ⟨w5.heap.size, 0, none⟩ = some (.slice a5 PG.length c5) := by rw [hw6]; go_simp
    have kb6_1 : w6.cell? ⟨w5.heap.size, 1, none⟩ = some (.slice b5 PO.length d5) := by rw [hw6]; go_simp
    clear hw6
    go_wp2_with fail
    refine (eqCircuit_same PG PO _ _ _ _ _ _ _ _ _ hF0 hF1 (o5.keep (fun a ha => (by have hh := i5 a ha; exact (by (repeat (first | with_reducible exact Kp.refl _ _ | (with_reducible refine Kp.rng ?_ (by assumption) ?_) | (with_reducible refine Kp.below ?_ (by assumption)) | (with_reducible refine Kp.grown ?_ (by assumption) ?_) | (with_reducible refine Kp.alloc ?_ _) | (with_reducible refine Kp.drew ?_) | (with_reducible refine Kp.drewN ?_ _) | (with_reducible refine Kp.setCell ?_ _ ?_))) <;> (first | omega | (simp; done) | (simp; omega)))))).rd (u5.keep (fun a ha => (by have hh := j5 a ha; exact (by (repeat (first | with_reducible exact Kp.refl _ _ | (with_reducible refine Kp.rng ?_ (by assumption) ?_) | (with_reducible refine Kp.below ?_ (by assumption)) | (with_reducible refine Kp.grown ?_ (by assumption) ?_) | (with_reducible refine Kp.alloc ?_ _) | (with_reducible refine Kp.drew ?_) | (with_reducible refine Kp.drewN ?_ _) | (with_reducible refine Kp.setCell ?_ _ ?_))) <;> (first | omega | (simp; done) | (simp; omega)))))).rd (o2.keep (fun a ha => (by have hh := i2 a ha; exact (by (repeat (first | with_reducible exact Kp.refl _ _ | (with_reducible refine Kp.rng ?_ (by assumption) ?_) | (with_reducible refine Kp.below ?_ (by assumption)) | (with_reducible refine Kp.grown ?_ (by assumption) ?_) | (with_reducible refine Kp.alloc ?_ _) | (with_reducible refine Kp.drew ?_) | (with_reducible refine Kp.drewN ?_ _) | (with_reducible refine Kp.setCell ?_ _ ?_))) <;> (first | omega | (simp; done) | (simp; omega)))))).rd (u2.keep (fun a ha => (by have hh := j2 a ha; exact (by (repeat (first | with_reducible exact Kp.refl _ _ | (with_reducible refine Kp.rng ?_ (by assumption) ?_) | (with_reducible refine Kp.below ?_ (by assumption)) | (with_reducible refine Kp.grown ?_ (by assumption) ?_) | (with_reducible refine Kp.alloc ?_ _) | (with_reducible refine Kp.drew ?_) | (with_reducible refine Kp.drewN ?_ _) | (with_reducible refine Kp.setCell ?_ _ ?_))) <;> (first | omega | (simp; done) | (simp; omega)))))).rd).mono ?_
    rintro e w7 ⟨rfl, hb7⟩
    have z7 := hb7.size
    (try simp at z7)
    have y7_0 : w2.heap.size < w7.heap.size := (by omega)
    have y7_1 : w5.heap.size < w7.heap.size := (by omega)
    have k7_0 := bel_keeps hb7 (b := w2.heap.size) (o := 0) (v := .slice a2 PG.length c2) (by first | (go_simp; done) | assumption)
    have k7_1 := bel_keeps hb7 (b := w2.heap.size) (o := 1) (v := .slice b2 PO.length d2) (by first | (go_simp; done) | assumption)
    have k7_2 := bel_keeps hb7 (b := w5.heap.size) (o := 0) (v := .slice a5 PG.length c5) (by first | (go_simp; done) | assumption)
    have k7_3 := bel_keeps hb7 (b := w5.heap.size) (o := 1) (v := .slice b5 PO.length d5) (by first | (go_simp; done) | assumption)
    clear k6_0 k6_1 kb6_0 kb6_1
    go_wp2_with fail
    refine (toStmtS_any xs0 _ _ _ hsz (HR0.out.below (by (repeat (first | with_reducible exact Below.refl _ _ | (with_reducible refine bel_next ?_ ?_ (by assumption)) | (with_reducible refine Below.alloc ?_ ?_ _) | (with_reducible refine Below.drew ?_) | (with_reducible refine below_drewN ?_ _) | (with_reducible refine Below.setCell ?_ ?_ _))) <;> (first | omega | (simp; done) | (simp; omega))))).mono ?_
    rintro e w8 ⟨gs8, rfl, ho8, lo8, hi8, hb8⟩
    have z8 := hb8.size
    (try simp at z8)
    have y8_0 : w2.heap.size < w8.heap.size := (by omega)
    have y8_1 : w5.heap.size < w8.heap.size := (by omega)
    have k8_0 := bel_keeps hb8 (b := w2.heap.size) (o := 0) (v := .slice a2 PG.length c2) (by first | (go_simp; done) | assumption)
    have k8_1 := bel_keeps hb8 (b := w2.heap.size) (o := 1) (v := .slice b2 PO.length d2) (by first | (go_simp; done) | assumption)
    have k8_2 := bel_keeps hb8 (b := w5.heap.size) (o := 0) (v := .slice a5 PG.length c5) (by first | (go_simp; done) | assumption)
    have k8_3 := bel_keeps hb8 (b := w5.heap.size) (o := 1) (v := .slice b5 PO.length d5) (by first | (go_simp; done) | assumption)
    clear k7_0 k7_1 k7_2 k7_3
    have is8 := ho8.ins
    go_wp2_with fail
    refine (eqStmtS_same xs0 _ _ _ _ _ hsz (ho4.keep (fun a ha => (by have hh := is4 a ha; exact (by (repeat (first | with_reducible exact Kp.refl _ _ | (with_reducible refine Kp.rng ?_ (by assumption) ?_) | (with_reducible refine Kp.below ?_ (by assumption)) | (with_reducible refine Kp.grown ?_ (by assumption) ?_) | (with_reducible refine Kp.alloc ?_ _) | (with_reducible refine Kp.drew ?_) | (with_reducible refine Kp.drewN ?_ _) | (with_reducible refine Kp.setCell ?_ _ ?_))) <;> (first | omega | (simp; done) | (simp; omega)))))).rd (ho8.keep (fun a ha => (by have hh := is8 a ha; exact (by (repeat (first | with_reducible exact Kp.refl _ _ | (with_reducible refine Kp.rng ?_ (by assumption) ?_) | (with_reducible refine Kp.below ?_ (by assumption)) | (with_reducible refine Kp.grown ?_ (by assumption) ?_) | (with_reducible refine Kp.alloc ?_ _) | (with_reducible refine Kp.drew ?_) | (with_reducible refine Kp.drewN ?_ _) | (with_reducible refine Kp.setCell ?_ _ ?_))) <;> (first | omega | (simp; done) | (simp; omega)))))).rd).mono ?_
    rintro e w9 ⟨rfl, hb9⟩
    have z9 := hb9.size
    (try simp at z9)
    have y9_0 : w2.heap.size < w9.heap.size := (by omega)
    have y9_1 : w5.heap.size < w9.heap.size := (by omega)
    have k9_0 := bel_keeps hb9 (b := w2.heap.size) (o := 0) (v := .slice a2 PG.length c2) (by first | (go_simp; done) | assumption)
    have k9_1 := bel_keeps hb9 (b := w2.heap.size) (o := 1) (v := .slice b2 PO.length d2) (by first | (go_simp; done) | assumption)
    have k9_2 := bel_keeps hb9 (b := w5.heap.size) (o := 0) (v := .slice a5 PG.length c5) (by first | (go_simp; done) | assumption)
    have k9_3 := bel_keeps hb9 (b := w5.heap.size) (o := 1) (v := .slice b5 PO.length d5) (by first | (go_simp; done) | assumption)
    clear k8_0 k8_1 k8_2 k8_3
    go_wp2_with fail
    refine (markStmtS_rng xs0.length _ _ _ _ 1 _ _ _ (by omega) (by omega) hsz (ho4.keep (fun a ha => (by have hh := is4 a ha; exact (by (repeat (first | with_reducible exact Kp.refl _ _ | (with_reducible refine Kp.rng ?_ (by assumption) ?_) | (with_reducible refine Kp.below ?_ (by assumption)) | (with_reducible refine Kp.grown ?_ (by assumption) ?_) | (with_reducible refine Kp.alloc ?_ _) | (with_reducible refine Kp.drew ?_) | (with_reducible refine Kp.drewN ?_ _) | (with_reducible refine Kp.setCell ?_ _ ?_))) <;> (first | omega | (simp; done) | (simp; omega)))))) is4 (by first | omega | (simp; done) | (simp; omega))).mono ?_
    rintro e w10 ⟨rfl, ho10, hb10, hr10⟩
    have z10 := hb10.size
    (try simp at z10)
    have y10_0 : w2.heap.size < w10.heap.size := (by omega)
    have y10_1 : w5.heap.size < w10.heap.size := (by omega)
    have k10_0 : w10.cell? ⟨w2.heap.size, 0, none⟩ = some (.slice a2 PG.length c2) := hr10.keeps (by omega) (by first | (go_simp; done) | assumption)
    have k10_1 : w10.cell? ⟨w2.heap.size, 1, none⟩ = some (.slice b2 PO.length d2) := hr10.keeps (by omega) (by first | (go_simp; done) | assumption)
    have k10_2 : w10.cell? ⟨w5.heap.size, 0, none⟩ = some (.slice a5 PG.length c5) := hr10.keeps (by omega) (by first | (go_simp; done) | assumption)
    have k10_3 : w10.cell? ⟨w5.heap.size, 1, none⟩ = some (.slice b5 PO.length d5) := hr10.keeps (by omega) (by first | (go_simp; done) | assumption)
    clear k9_0 k9_1 k9_2 k9_3
    go_wp2_with fail
    refine (eqCircuit_same PG PO _ _ _ _ _ _ _ _ _ hF0 hF1 (o5.keep (fun a ha => (by have hh := i5 a ha; exact (by (repeat (first | with_reducible exact Kp.refl _ _ | (with_reducible refine Kp.rng ?_ (by assumption) ?_) | (with_reducible refine Kp.below ?_ (by assumption)) | (with_reducible refine Kp.grown ?_ (by assumption) ?_) | (with_reducible refine Kp.alloc ?_ _) | (with_reducible refine Kp.drew ?_) | (with_reducible refine Kp.drewN ?_ _) | (with_reducible refine Kp.setCell ?_ _ ?_))) <;> (first | omega | (simp; done) | (simp; omega)))))).rd (u5.keep (fun a ha => (by have hh := j5 a ha; exact (by (repeat (first | with_reducible exact Kp.refl _ _ | (with_reducible refine Kp.rng ?_ (by assumption) ?_) | (with_reducible refine Kp.below ?_ (by assumption)) | (with_reducible refine Kp.grown ?_ (by assumption) ?_) | (with_reducible refine Kp.alloc ?_ _) | (with_reducible refine Kp.drew ?_) | (with_reducible refine Kp.drewN ?_ _) | (with_reducible refine Kp.setCell ?_ _ ?_))) <;> (first | omega | (simp; done) | (simp; omega)))))).rd (o2.keep (fun a ha => (by have hh := i2 a ha; exact (by (repeat (first | with_reducible exact Kp.refl _ _ | (with_reducible refine Kp.rng ?_ (by assumption) ?_) | (with_reducible refine Kp.below ?_ (by assumption)) | (with_reducible refine Kp.grown ?_ (by assumption) ?_) | (with_reducible refine Kp.alloc ?_ _) | (with_reducible refine Kp.drew ?_) | (with_reducible refine Kp.drewN ?_ _) | (with_reducible refine Kp.setCell ?_ _ ?_))) <;> (first | omega | (simp; done) | (simp; omega)))))).rd (u2.keep (fun a ha => (by have hh := j2 a ha; exact (by (repeat (first | with_reducible exact Kp.refl _ _ | (with_reducible refine Kp.rng ?_ (by assumption) ?_) | (with_reducible refine Kp.below ?_ (by assumption)) | (with_reducible refine Kp.grown ?_ (by assumption) ?_) | (with_reducible refine Kp.alloc ?_ _) | (with_reducible refine Kp.drew ?_) | (with_reducible refine Kp.drewN ?_ _) | (with_reducible refine Kp.setCell ?_ _ ?_))) <;> (first | omega | (simp; done) | (simp; omega)))))).rd).mono ?_
    rintro e w11 ⟨rfl, hb11⟩
    have z11 := hb11.size
    (try simp at z11)
    have y11_0 : w2.heap.size < w11.heap.size := (by omega)
    have y11_1 : w5.heap.size < w11.heap.size := (by omega)
    have k11_0 := bel_keeps hb11 (b := w2.heap.size) (o := 0) (v := .slice a2 PG.length c2) (by first | (go_simp; done) | assumption)
    have k11_1 := bel_keeps hb11 (b := w2.heap.size) (o := 1) (v := .slice b2 PO.length d2) (by first | (go_simp; done) | assumption)
    have k11_2 := bel_keeps hb11 (b := w5.heap.size) (o := 0) (v := .slice a5 PG.length c5) (by first | (go_simp; done) | assumption)
    have k11_3 := bel_keeps hb11 (b := w5.heap.size) (o := 1) (v := .slice b5 PO.length d5) (by first | (go_simp; done) | assumption)
    clear k10_0 k10_1 k10_2 k10_3
    go_wp2_with fail
    refine (markCircuit_any (PG.length) (PO.length) _ _ _ _ w4.heap.size w5.heap.size 1 a5 b5 _ _ _ (by omega) (by omega) hF0 hF1 (o5.keep (fun a ha => (by have hh := i5 a ha; exact (by (repeat (first | with_reducible exact Kp.refl _ _ | (with_reducible refine Kp.rng ?_ (by assumption) ?_) | (with_reducible refine Kp.below ?_ (by assumption)) | (with_reducible refine Kp.grown ?_ (by assumption) ?_) | (with_reducible refine Kp.alloc ?_ _) | (with_reducible refine Kp.drew ?_) | (with_reducible refine Kp.drewN ?_ _) | (with_reducible refine Kp.setCell ?_ _ ?_))) <;> (first | omega | (simp; done) | (simp; omega)))))) (u5.keep (fun a ha => (by have hh := j5 a ha; exact (by (repeat (first | with_reducible exact Kp.refl _ _ | (with_reducible refine Kp.rng ?_ (by assumption) ?_) | (with_reducible refine Kp.below ?_ (by assumption)) | (with_reducible refine Kp.grown ?_ (by assumption) ?_) | (with_reducible refine Kp.alloc ?_ _) | (with_reducible refine Kp.drew ?_) | (with_reducible refine Kp.drewN ?_ _) | (with_reducible refine Kp.setCell ?_ _ ?_))) <;> (first | omega | (simp; done) | (simp; omega)))))) i5 j5 ne5 (by omega) (by first | omega | (simp; done) | (simp; omega))).mono ?_
    rintro e w12 ⟨rfl, o112, o212, hb12, hr12⟩
    have z12 := hb12.size
    (try simp at z12)
    have y12_0 : w2.heap.size < w12.heap.size := (by omega)
    have y12_1 : w5.heap.size < w12.heap.size := (by omega)
    have k12_0 : w12.cell? ⟨w2.heap.size, 0, none⟩ = some (.slice a2 PG.length c2) := hr12.keeps (by omega) (by first | (go_simp; done) | assumption)
    have k12_1 : w12.cell? ⟨w2.heap.size, 1, none⟩ = some (.slice b2 PO.length d2) := hr12.keeps (by omega) (by first | (go_simp; done) | assumption)
    have k12_2 : w12.cell? ⟨w5.heap.size, 0, none⟩ = some (.slice a5 PG.length c5) := hr12.keeps (by omega) (by first | (go_simp; done) | assumption)
    have k12_3 : w12.cell? ⟨w5.heap.size, 1, none⟩ = some (.slice b5 PO.length d5) := hr12.keeps (by omega) (by first | (go_simp; done) | assumption)
    clear k11_0 k11_1 k11_2 k11_3
    go_wp2_with fail
    refine (heldCircuit_any (PG.length) (PO.length) 1 _ _ _ _ _ (by omega) (by omega) hF0 hF1 (o112.keep (fun a ha => (by have hh := i5 a ha; exact (by (repeat (first | with_reducible exact Kp.refl _ _ | (with_reducible refine Kp.rng ?_ (by assumption) ?_) | (with_reducible refine Kp.below ?_ (by assumption)) | (with_reducible refine Kp.grown ?_ (by assumption) ?_) | (with_reducible refine Kp.alloc ?_ _) | (with_reducible refine Kp.drew ?_) | (with_reducible refine Kp.drewN ?_ _) | (with_reducible refine Kp.setCell ?_ _ ?_))) <;> (first | omega | (simp; done) | (simp; omega)))))).rd (o212.keep (fun a ha => (by have hh := j5 a ha; exact (by (repeat (first | with_reducible exact Kp.refl _ _ | (with_reducible refine Kp.rng ?_ (by assumption) ?_) | (with_reducible refine Kp.below ?_ (by assumption)) | (with_reducible refine Kp.grown ?_ (by assumption) ?_) | (with_reducible refine Kp.alloc ?_ _) | (with_reducible refine Kp.drew ?_) | (with_reducible refine Kp.drewN ?_ _) | (with_reducible refine Kp.setCell ?_ _ ?_))) <;> (first | omega | (simp; done) | (simp; omega)))))).rd).mono ?_
    rintro e w13 ⟨rfl, hb13⟩
    have z13 := hb13.size
    (try simp at z13)
    have y13_0 : w2.heap.size < w13.heap.size := (by omega)
    have y13_1 : w5.heap.size < w13.heap.size := (by omega)
    have k13_0 := bel_keeps hb13 (b := w2.heap.size) (o := 0) (v := .slice a2 PG.length c2) (by first | (go_simp; done) | assumption)
    have k13_1 := bel_keeps hb13 (b := w2.heap.size) (o := 1) (v := .slice b2 PO.length d2) (by first | (go_simp; done) | assumption)
    have k13_2 := bel_keeps hb13 (b := w5.heap.size) (o := 0) (v := .slice a5 PG.length c5) (by first | (go_simp; done) | assumption)
    have k13_3 := bel_keeps hb13 (b := w5.heap.size) (o := 1) (v := .slice b5 PO.length d5) (by first | (go_simp; done) | assumption)
    clear k12_0 k12_1 k12_2 k12_3
    go_wp2_with fail
    refine (toStmtS_any xs0 _ _ _ hsz (HR0.out.below (by (repeat (first | with_reducible exact Below.refl _ _ | (with_reducible refine bel_next ?_ ?_ (by assumption)) | (with_reducible refine Below.alloc ?_ ?_ _) | (with_reducible refine Below.drew ?_) | (with_reducible refine below_drewN ?_ _) | (with_reducible refine Below.setCell ?_ ?_ _))) <;> (first | omega | (simp; done) | (simp; omega))))).mono ?_
    rintro e w14 ⟨gs14, rfl, ho14, lo14, hi14, hb14⟩
    have z14 := hb14.size
    (try simp at z14)
    have y14_0 : w2.heap.size < w14.heap.size := (by omega)
    have y14_1 : w5.heap.size < w14.heap.size := (by omega)
    have k14_0 := bel_keeps hb14 (b := w2.heap.size) (o := 0) (v := .slice a2 PG.length c2) (by first | (go_simp; done) | assumption)
    have k14_1 := bel_keeps hb14 (b := w2.heap.size) (o := 1) (v := .slice b2 PO.length d2) (by first | (go_simp; done) | assumption)
    have k14_2 := bel_keeps hb14 (b := w5.heap.size) (o := 0) (v := .slice a5 PG.length c5) (by first | (go_simp; done) | assumption)
    have k14_3 := bel_keeps hb14 (b := w5.heap.size) (o := 1) (v := .slice b5 PO.length d5) (by first | (go_simp; done) | assumption)
    clear k13_0 k13_1 k13_2 k13_3
    have is14 := ho14.ins
    go_wp2_with fail
    have hcc := iCompile_any xs0 us0 _ HV.out (fun h => HSU.out (by first | exact h | trivial | (cases h))) (some ⟨gs14, 0, none⟩) xs0.length w14 hmm (Nat.le_refl _) hmm (ho14.keep (fun a ha => (by have hh := is14 a ha; exact (by (repeat (first | with_reducible exact Kp.refl _ _ | (with_reducible refine Kp.rng ?_ (by assumption) ?_) | (with_reducible refine Kp.below ?_ (by assumption)) | (with_reducible refine Kp.grown ?_ (by assumption) ?_) | (with_reducible refine Kp.alloc ?_ _) | (with_reducible refine Kp.drew ?_) | (with_reducible refine Kp.drewN ?_ _) | (with_reducible refine Kp.setCell ?_ _ ?_))) <;> (first | omega | (simp; done) | (simp; omega)))))).rd
    rw [← HPG.out, ← HPO.out] at hcc
    refine hcc.mono ?_
    clear hcc
    rintro e w15 ⟨a15, c15, b15, d15, rfl, o15, u15, ne15, hb15⟩
    have z15 := hb15.size
    (try simp at z15)
    have y15_0 : w2.heap.size < w15.heap.size := (by omega)
    have y15_1 : w5.heap.size < w15.heap.size := (by omega)
    have k15_0 := bel_keeps hb15 (b := w2.heap.size) (o := 0) (v := .slice a2 PG.length c2) (by first | (go_simp; done) | assumption)
    have k15_1 := bel_keeps hb15 (b := w2.heap.size) (o := 1) (v := .slice b2 PO.length d2) (by first | (go_simp; done) | assumption)
    have k15_2 := bel_keeps hb15 (b := w5.heap.size) (o := 0) (v := .slice a5 PG.length c5) (by first | (go_simp; done) | assumption)
    have k15_3 := bel_keeps hb15 (b := w5.heap.size) (o := 1) (v := .slice b5 PO.length d5) (by first | (go_simp; done) | assumption)
    clear k14_0 k14_1 k14_2 k14_3
    have i15 := o15.ins
    have j15 := u15.ins
    go_wp2_with fail
    obtain ⟨w16, hw16⟩ : ∃ W, W = w15.alloc (.cells #[.slice a15 PG.length c15, .slice b15 PO.length d15] 29) := ⟨_, rfl⟩
    rw [← hw16]
    have hb16 : Below w15.heap.size w15 w16 := by rw [hw16]; exact (Below.refl _ _).alloc (Nat.le_refl _) _
    have x16 : w15.heap.size < w16.heap.size := by rw [hw16]; simp
    have z16 := hb16.size
    (try simp at z16)
    have y16_0 : w2.heap.size < w16.heap.size := (by omega)
    have y16_1 : w5.heap.size < w16.heap.size := (by omega)
    have k16_0 := bel_keeps hb16 (b := w2.heap.size) (o := 0) (v := .slice a2 PG.length c2) (by first | (go_simp; done) | assumption)
    have k16_1 := bel_keeps hb16 (b := w2.heap.size) (o := 1) (v := .slice b2 PO.length d2) (by first | (go_simp; done) | assumption)
    have k16_2 := bel_keeps hb16 (b := w5.heap.size) (o := 0) (v := .slice a5 PG.length c5) (by first | (go_simp; done) | assumption)
    have k16_3 := bel_keeps hb16 (b := w5.heap.size) (o := 1) (v := .slice b5 PO.length d5) (by first | (go_simp; done) | assumption)
    clear k15_0 k15_1 k15_2 k15_3
    have kb16_0 : w16.cell? ⟨w15.heap.size, 0, none⟩ = some (.slice a15 PG.length c15) := by rw [hw16]; go_simp
    have kb16_1 : w16.cell? ⟨w15.heap.size, 1, none⟩ = some (.slice b15 PO.length d15) := by rw [hw16]; go_simp
    clear hw16
    go_wp2_with fail
    refine (eqCircuit_same PG PO _ _ _ _ _ _ _ _ _ hF0 hF1 (o15.keep (fun a ha => (by have hh := i15 a ha; exact (by (repeat (first | with_reducible exact Kp.refl _ _ | (with_reducible refine Kp.rng ?_ (by assumption) ?_) | (with_reducible refine Kp.below ?_ (by assumption)) | (with_reducible refine Kp.grown ?_ (by assumption) ?_) | (with_reducible refine Kp.alloc ?_ _) | (with_reducible refine Kp.drew ?_) | (with_reducible refine Kp.drewN ?_ _) | (with_reducible refine Kp.setCell ?_ _ ?_))) <;> (first | omega | (simp; done) | (simp; omega)))))).rd (u15.keep (fun a ha => (by have hh := j15 a ha; exact (by (repeat (first | with_reducible exact Kp.refl _ _ | (with_reducible refine Kp.rng ?_ (by assumption) ?_) | (with_reducible refine Kp.below ?_ (by assumption)) | (with_reducible refine Kp.grown ?_ (by assumption) ?_) | (with_reducible refine Kp.alloc ?_ _) | (with_reducible refine Kp.drew ?_) | (with_reducible refine Kp.drewN ?_ _) | (with_reducible refine Kp.setCell ?_ _ ?_))) <;> (first | omega | (simp; done) | (simp; omega)))))).rd (o2.keep (fun a ha => (by have hh := i2 a ha; exact (by (repeat (first | with_reducible exact Kp.refl _ _ | (with_reducible refine Kp.rng ?_ (by assumption) ?_) | (with_reducible refine Kp.below ?_ (by assumption)) | (with_reducible refine Kp.grown ?_ (by assumption) ?_) | (with_reducible refine Kp.alloc ?_ _) | (with_reducible refine Kp.drew ?_) | (with_reducible refine Kp.drewN ?_ _) | (with_reducible refine Kp.setCell ?_ _ ?_))) <;> (first | omega | (simp; done) | (simp; omega)))))).rd (u2.keep (fun a ha => (by have hh := j2 a ha; exact (by (repeat (first | with_reducible exact Kp.refl _ _ | (with_reducible refine Kp.rng ?_ (by assumption) ?_) | (with_reducible refine Kp.below ?_ (by assumption)) | (with_reducible refine Kp.grown ?_ (by assumption) ?_) | (with_reducible refine Kp.alloc ?_ _) | (with_reducible refine Kp.drew ?_) | (with_reducible refine Kp.drewN ?_ _) | (with_reducible refine Kp.setCell ?_ _ ?_))) <;> (first | omega | (simp; done) | (simp; omega)))))).rd).mono ?_
    rintro e w17 ⟨rfl, hb17⟩
    have z17 := hb17.size
    (try simp at z17)
    have y17_0 : w2.heap.size < w17.heap.size := (by omega)
    have y17_1 : w5.heap.size < w17.heap.size := (by omega)
    have y17_2 : w15.heap.size < w17.heap.size := (by omega)
    have k17_0 := bel_keeps hb17 (b := w2.heap.size) (o := 0) (v := .slice a2 PG.length c2) (by first | (go_simp; done) | assumption)
    have k17_1 := bel_keeps hb17 (b := w2.heap.size) (o := 1) (v := .slice b2 PO.length d2) (by first | (go_simp; done) | assumption)
    have k17_2 := bel_keeps hb17 (b := w5.heap.size) (o := 0) (v := .slice a5 PG.length c5) (by first | (go_simp; done) | assumption)
    have k17_3 := bel_keeps hb17 (b := w5.heap.size) (o := 1) (v := .slice b5 PO.length d5) (by first | (go_simp; done) | assumption)
    have k17_4 := bel_keeps hb17 (b := w15.heap.size) (o := 0) (v := .slice a15 PG.length c15) (by first | (go_simp; done) | assumption)
    have k17_5 := bel_keeps hb17 (b := w15.heap.size) (o := 1) (v := .slice b15 PO.length d15) (by first | (go_simp; done) | assumption)
    clear k16_0 k16_1 k16_2 k16_3 kb16_0 kb16_1
    go_wp2_with fail
    refine (heldCircuit_any (PG.length) (PO.length) 1 _ _ _ _ _ (by omega) (by omega) hF0 hF1 (o112.keep (fun a ha => (by have hh := i5 a ha; exact (by (repeat (first | with_reducible exact Kp.refl _ _ | (with_reducible refine Kp.rng ?_ (by assumption) ?_) | (with_reducible refine Kp.below ?_ (by assumption)) | (with_reducible refine Kp.grown ?_ (by assumption) ?_) | (with_reducible refine Kp.alloc ?_ _) | (with_reducible refine Kp.drew ?_) | (with_reducible refine Kp.drewN ?_ _) | (with_reducible refine Kp.setCell ?_ _ ?_))) <;> (first | omega | (simp; done) | (simp; omega)))))).rd (o212.keep (fun a ha => (by have hh := j5 a ha; exact (by (repeat (first | with_reducible exact Kp.refl _ _ | (with_reducible refine Kp.rng ?_ (by assumption) ?_) | (with_reducible refine Kp.below ?_ (by assumption)) | (with_reducible refine Kp.grown ?_ (by assumption) ?_) | (with_reducible refine Kp.alloc ?_ _) | (with_reducible refine Kp.drew ?_) | (with_reducible refine Kp.drewN ?_ _) | (with_reducible refine Kp.setCell ?_ _ ?_))) <;> (first | omega | (simp; done) | (simp; omega)))))).rd).mono ?_
    rintro e w18 ⟨rfl, hb18⟩
    have z18 := hb18.size
    (try simp at z18)
    have y18_0 : w2.heap.size < w18.heap.size := (by omega)
    have y18_1 : w5.heap.size < w18.heap.size := (by omega)
    have y18_2 : w15.heap.size < w18.heap.size := (by omega)
    have k18_0 := bel_keeps hb18 (b := w2.heap.size) (o := 0) (v := .slice a2 PG.length c2) (by first | (go_simp; done) | assumption)
    have k18_1 := bel_keeps hb18 (b := w2.heap.size) (o := 1) (v := .slice b2 PO.length d2) (by first | (go_simp; done) | assumption)
    have k18_2 := bel_keeps hb18 (b := w5.heap.size) (o := 0) (v := .slice a5 PG.length c5) (by first | (go_simp; done) | assumption)
    have k18_3 := bel_keeps hb18 (b := w5.heap.size) (o := 1) (v := .slice b5 PO.length d5) (by first | (go_simp; done) | assumption)
    have k18_4 := bel_keeps hb18 (b := w15.heap.size) (o := 0) (v := .slice a15 PG.length c15) (by first | (go_simp; done) | assumption)
    have k18_5 := bel_keeps hb18 (b := w15.heap.size) (o := 1) (v := .slice b15 PO.length d15) (by first | (go_simp; done) | assumption)
    clear k17_0 k17_1 k17_2 k17_3 k17_4 k17_5
    go_wp2_with fail
    go_ret
    exact ⟨rfl, (by (repeat (first | with_reducible exact Below.refl _ _ | (with_reducible refine bel_next ?_ ?_ (by assumption)) | (with_reducible refine Below.alloc ?_ ?_ _) | (with_reducible refine Below.drew ?_) | (with_reducible refine below_drewN ?_ _) | (with_reducible refine Below.setCell ?_ ?_ _))) <;> (first | omega | (simp; done) | (simp; omega)))⟩
end Go.Proofs.Ytfcijloiebnloaa
