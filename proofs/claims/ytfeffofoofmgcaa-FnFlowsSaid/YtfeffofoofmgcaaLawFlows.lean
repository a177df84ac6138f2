/- The walk of the law FnFlows. -/
import Derived.Test.YtfeffofoofmgcaaFlowFacts
namespace Go.Proofs.Ytfeffofoofmgcaa
open Go.RowKit
set_option linter.unusedVariables false
set_option linter.unusedSimpArgs false

theorem iFlowOk_n (xs us : List St) (ok : Bool) (hv : IsUnr xs us ok) (ad : Option Addr) (cp : Nat) (al : List Int) (na : Nat) (hna : al.length = na) (aa : Option Addr) (ca : Nat) (w : World) (hm : xs.length ≤ maxLen) (hcp : xs.length ≤ cp) (hcm : cp ≤ maxLen) (hr : RdC w ad (stCells xs)) (hma : na ≤ maxLen) (hra : RdC w aa (I64 al)) :
    Calls Try.prog 46 #[.slice ad xs.length cp, .slice aa na ca] w fun e w' => e = .returned (.bool (flowOkB (outDeps us ok) al ok)) ∧ Below w.heap.size w w' := by
  subst hna
  exact iFlowOk_any xs us ok hv ad cp al aa ca w hm hcp hcm hr hma hra

set_option maxRecDepth 20000 in
set_option maxHeartbeats 8000000 in
theorem walk_FnFlows (w : World) (xs : List Int) (ad : Option Addr) (c : Nat) (hm : xs.length ≤ maxLen) (hr : RdC w ad (xs.map (Value.int .u8))) (hb : ∀ x ∈ xs, 0 ≤ x ∧ x ≤ 255) :
    Calls Try.prog 17 #[.slice ad xs.length c] w fun e w' => e = .returned (.bool true) ∧ Below w.heap.size w w' := by
  unfold maxLen at hm
  by_cases hsz : xs.length ≤ 1048576
  case neg =>
    go_enter Try.func17, Try.ntmps17
    go_wp2_with (first | (go_at_call 65; go_in) | fail)
    go_ret
    exact ⟨rfl, Below.refl _ _⟩
  go_enter Try.func17, Try.ntmps17
  go_wp2_with (first | (go_at_call 65; go_in) | fail)
  refine (DrawProgram_any xs ad c w hsz hr hb).mono ?_
  rintro e w1 ⟨gp, cp, l, rfl, hp, hol, hb1⟩
  have hncp : l.length ≤ cp := hol.cap
  have hcm : cp ≤ maxLen := hol.capMax
  obtain ⟨us', hus'⟩ := hp.ur
  have hl40 := hp.len
  have hok : progOk l = true := ur_progOk (ur_mono hus' (by omega)) hl40
  obtain ⟨r2, hr2⟩ := hp.two
  have hl2 : 2 ≤ l.length := by rw [hr2]; simp
  have HOK := Lib.hid hok
  have HP := Lib.hid hp
  have HL := Lib.hid hol.rd
  have HTWO := Lib.hid hr2
  have hlM : l.length ≤ maxLen := by unfold maxLen; omega
  have z1 := hb1.size
  have ge1 := hol.ge
  have HOL := Lib.hid hol
  clear hp hol hok hr2 hus'
  obtain ⟨U, hU, hSZ, hu1, hu0⟩ := unr_one HOK.out
  have HSZ := Lib.hid hSZ
  by_cases h120 : U.length ≤ 120
  case neg =>
    have HU := Lib.hid (hu0 (by omega))
    have t0 : decide ((120 : Int) < (U.length : Int)) = true := decide_eq_true (by omega)
    clear hU hSZ hu1 hu0
    go_wp2_with (first | (go_at_call 49; refine (iOutputDeps_any l [] false HU.out _ _ _ hlM hncp hcm (HL.out.below (by (repeat (first | with_reducible exact Below.refl _ _ | (with_reducible refine bel_next ?_ ?_ (by assumption)) | (with_reducible refine Below.alloc ?_ ?_ _) | (with_reducible refine Below.drew ?_) | (with_reducible refine below_drewN ?_ _) | (with_reducible refine Below.setCell ?_ ?_ _))) <;> (first | omega | (simp; done) | (simp; omega))))).mono ?_; rintro e w2 ⟨a2, e2, rfl, ho2, hb2⟩; have z2 := hb2.size; have HO2 := Lib.hid ho2.rd; have HBK : Hid (∀ x, a2 = some x → x.block < w2.heap.size) := fun x hx => (ho2.blk x hx).2.2.2; clear ho2) | (go_at_call 29; refine (iUnrolledSize_any l _ HSZ.out _ _ _ hlM hncp hcm (HL.out.below (by (repeat (first | with_reducible exact Below.refl _ _ | (with_reducible refine bel_next ?_ ?_ (by assumption)) | (with_reducible refine Below.alloc ?_ ?_ _) | (with_reducible refine Below.drew ?_) | (with_reducible refine below_drewN ?_ _) | (with_reducible refine Below.setCell ?_ ?_ _))) <;> (first | omega | (simp; done) | (simp; omega))))).mono ?_; rintro e w3 ⟨rfl, hb3⟩; have z3 := hb3.size) | (go_at_call 46; refine (iFlowOk_any l [] false HU.out _ _ [] a2 e2 _ hlM hncp hcm (HL.out.below (by (repeat (first | with_reducible exact Below.refl _ _ | (with_reducible refine bel_next ?_ ?_ (by assumption)) | (with_reducible refine Below.alloc ?_ ?_ _) | (with_reducible refine Below.drew ?_) | (with_reducible refine below_drewN ?_ _) | (with_reducible refine Below.setCell ?_ ?_ _))) <;> (first | omega | (simp; done) | (simp; omega)))) (by simp) (RdC.nil _ _)).mono ?_; rintro e w4 ⟨rfl, hb4⟩))
    go_ret
    exact ⟨rfl, (by (repeat (first | with_reducible exact Below.refl _ _ | (with_reducible refine bel_next ?_ ?_ (by assumption)) | (with_reducible refine Below.alloc ?_ ?_ _) | (with_reducible refine Below.drew ?_) | (with_reducible refine below_drewN ?_ _) | (with_reducible refine Below.setCell ?_ ?_ _))) <;> (first | omega | (simp; done) | (simp; omega)))⟩
  have HU := Lib.hid (hu1 h120)
  have hpl := ur_plains hU
  obtain ⟨hDb, hDl⟩ := flowF_all U hpl
  obtain ⟨D, hD⟩ : ∃ d, d = outDeps U true := ⟨_, rfl⟩
  have hD2 : D = (flowF U).2 := by rw [hD]; simp [outDeps]
  rw [← hD2] at hDb hDl
  have hDm : D.length ≤ 120 := by rw [hDl]; exact Nat.le_trans (cntOut_le U) h120
  obtain ⟨oc, hoc⟩ : ∃ q, q = outCount U true := ⟨_, rfl⟩
  have hocl : oc = (D.length : Int) := by rw [hoc, hDl]; simp [outCount]
  have tl : ((D.length : Int) == oc) = true := by simp [hocl]
  have H1 := Lib.hid (flows_self hDb)
  have H2 := Lib.hid (flows_more hDb)
  have H3 := Lib.hid (flows_none hDb)
  have HDB := Lib.hid hDb
  have HD := Lib.hid hD
  have HQ := Lib.hid hoc
  clear hU hSZ hu1 hu0 hpl hDb hDl hD hD2 hoc hocl
  go_wp2_with (first | (go_at_call 49; refine (iOutputDeps_any l U true HU.out _ _ _ hlM hncp hcm (HL.out.below (by (repeat (first | with_reducible exact Below.refl _ _ | (with_reducible refine bel_next ?_ ?_ (by assumption)) | (with_reducible refine Below.alloc ?_ ?_ _) | (with_reducible refine Below.drew ?_) | (with_reducible refine below_drewN ?_ _) | (with_reducible refine Below.setCell ?_ ?_ _))) <;> (first | omega | (simp; done) | (simp; omega))))).mono ?_; rintro e w2 ⟨a2, e2, rfl, ho2, hb2⟩; have z2 := hb2.size; rw [← HD.out] at ho2; rw [← HD.out]; have HO2 := Lib.hid ho2.rd; have HBK : Hid (∀ x, a2 = some x → x.block < w2.heap.size) := fun x hx => (ho2.blk x hx).2.2.2; clear ho2))
  obtain ⟨wa, hwa⟩ : ∃ W, W = (w2.alloc (.cells #[] 3)).alloc (.cells #[] 3) := ⟨_, rfl⟩
  try rw [← hwa]
  have hba : Below w2.heap.size w2 wa := by rw [hwa]; exact (by (repeat (first | with_reducible exact Below.refl _ _ | (with_reducible refine bel_next ?_ ?_ (by assumption)) | (with_reducible refine Below.alloc ?_ ?_ _) | (with_reducible refine Below.drew ?_) | (with_reducible refine below_drewN ?_ _) | (with_reducible refine Below.setCell ?_ ?_ _))) <;> (first | omega | (simp; done) | (simp; omega)))
  have hom : Own wa w2.heap.size 3 1 (some ⟨w2.heap.size, 0, none⟩) 0 0 (I64 []) := by rw [hwa]; exact (own_new w2 3 1).alloc _
  have hon : Own wa w2.heap.size 3 1 (some ⟨w2.heap.size + 1, 0, none⟩) 0 0 (I64 []) := by
    rw [hwa]
    have := (own_new (w2.alloc (.cells #[] 3)) 3 1).lo (lo' := w2.heap.size) (by simp)
    simpa using this
  clear hwa
  go_loopw [6, 7, 8, 9] (fun m n q i wr => ∃ (k gm cm gn cn : Nat), k ≤ D.length ∧ i = .int .i64 k ∧ m = .slice (some ⟨gm, 0, none⟩) k cm ∧ n = .slice (some ⟨gn, 0, none⟩) k cn ∧ q = .int .i64 (allOr (D.take k)) ∧
      Own wr w2.heap.size 3 1 (some ⟨gm, 0, none⟩) k cm (I64 ((D.take k).map fun x => bits .or .i64 x 4)) ∧ Own wr w2.heap.size 3 1 (some ⟨gn, 0, none⟩) k cn (I64 (List.replicate k 0)) ∧ gm ≠ gn ∧ Below w2.heap.size w2 wr) (fun _ _ _ i _ => D.length - (intOf i).toNat)
  case atStart => exact ⟨0, w2.heap.size, 0, w2.heap.size + 1, 0, Nat.zero_le _, rfl, rfl, rfl, rfl, hom, hon, by omega, hba⟩
  case round =>
    obtain ⟨k, gm, cm, gn, cn, hk, rfl, rfl, rfl, rfl, hm', hn', hne, hbw⟩ := hrel
    have zw := hbw.size
    have gem := hm'.ge
    have gen := hn'.ge
    by_cases hlt : k < D.length
    · obtain ⟨b3, off3, rfl, hc3⟩ := (HO2.out.below hbw).at k hlt
      have hbk : b3 < w2.heap.size := HBK.out _ rfl
      have hbk2 : b3 < wr.heap.size := by omega
      have hck := hc3 k hlt
      have HS := Lib.hid (allOr_snoc hlt)
      have HM := Lib.hid (show (D.take (k + 1)).map (fun x => bits .or .i64 x 4) = (D.take k).map (fun x => bits .or .i64 x 4) ++ [bits .or .i64 D[k] 4] by rw [List.take_succ_eq_append_getElem hlt, List.map_append]; rfl)
      have hbb := (or_b (HDB.out _ (List.getElem_mem hlt)) (show b32 4 from ⟨by omega, by omega⟩)).1
      obtain ⟨x, hx⟩ : ∃ x, x = D[k] := ⟨_, rfl⟩
      rw [← hx] at hck HS HM hbb
      obtain ⟨q, hq⟩ : ∃ q, q = allOr (D.take k) := ⟨_, rfl⟩
      rw [← hq] at HS
      rw [← hq]
      obtain ⟨ms, hms⟩ : ∃ q, q = (D.take k).map (fun x => bits .or .i64 x 4) := ⟨_, rfl⟩
      rw [← hms] at HM hm'
      have HR : Hid (List.replicate (k + 1) (0 : Int) = List.replicate k 0 ++ [0]) := List.replicate_succ'
      obtain ⟨ns, hns⟩ : ∃ q, q = List.replicate k (0 : Int) := ⟨_, rfl⟩
      rw [← hns] at HR hn'
      have hi1 : (k : Int) < (D.length : Int) := by omega
      clear hc3 hx hq hms hns
      go_wp2_with (first | (refine wpList_push _ rfl _ _ rfl w2.heap.size gm k cm ms (bits .or .i64 x 4) wr.heap.size 1 (by rfl) (by rfl) (hm'.later (by (repeat (first | with_reducible exact Kp.refl _ _ | (with_reducible refine Kp.rng ?_ (by assumption) ?_) | (with_reducible refine Kp.below ?_ (by assumption)) | (with_reducible refine Kp.grown ?_ (by assumption) ?_) | (with_reducible refine Kp.alloc ?_ _) | (with_reducible refine Kp.drew ?_) | (with_reducible refine Kp.drewN ?_ _) | (with_reducible refine Kp.setCell ?_ _ ?_))) <;> (first | omega | (simp; done) | (simp; omega)))) (by go_simp) (by omega) (by first | omega | (simp; done) | (simp; omega)) ?_; intro g5 c5 w5 ho5 hb5 hg5 hat5; (try simp at hat5); have z5 := hb5.size; (try simp at z5); have y5 := hg5.size; (try simp at y5); have ge5 := ho5.ge; have hbk5 : b3 < w5.heap.size := (by omega); have kk5 := grown_cell hg5 (b := b3) (o := off3 + k) (x := .int .i64 x) (by first | (simp; omega) | omega) (by go_simp)) | (refine wpList_push _ rfl _ _ rfl w2.heap.size gn k cn ns 0 w5.heap.size 1 (by rfl) (by rfl) (hn'.later (by (repeat (first | with_reducible exact Kp.refl _ _ | (with_reducible refine Kp.rng ?_ (by assumption) ?_) | (with_reducible refine Kp.below ?_ (by assumption)) | (with_reducible refine Kp.grown ?_ (by assumption) ?_) | (with_reducible refine Kp.alloc ?_ _) | (with_reducible refine Kp.drew ?_) | (with_reducible refine Kp.drewN ?_ _) | (with_reducible refine Kp.setCell ?_ _ ?_))) <;> (first | omega | (simp; done) | (simp; omega)))) (by go_simp) (by omega) (by first | omega | (simp; done) | (simp; omega)) ?_; intro g6 c6 w6 ho6 hb6 hg6 hat6; (try simp at hat6); have z6 := hb6.size; (try simp at z6); have y6 := hg6.size; (try simp at y6); have ge6 := ho6.ge; have kk6 := grown_cell hg6 (b := b3) (o := off3 + k) (x := .int .i64 x) (by first | (simp; omega) | omega) (by go_simp)))
      go_roundw
      case rel => exact ⟨k + 1, g5, c5, g6, c6, by omega, by go_num, rfl, rfl, by rw [HS.out], by rw [HM.out]; exact ho5.later (by (repeat (first | with_reducible exact Kp.refl _ _ | (with_reducible refine Kp.rng ?_ (by assumption) ?_) | (with_reducible refine Kp.below ?_ (by assumption)) | (with_reducible refine Kp.grown ?_ (by assumption) ?_) | (with_reducible refine Kp.alloc ?_ _) | (with_reducible refine Kp.drew ?_) | (with_reducible refine Kp.drewN ?_ _) | (with_reducible refine Kp.setCell ?_ _ ?_))) <;> (first | omega | (simp; done) | (simp; omega))), by rw [HR.out]; exact ho6, by omega, (by (repeat (first | with_reducible exact Below.refl _ _ | (with_reducible refine bel_next ?_ ?_ (by assumption)) | (with_reducible refine Below.alloc ?_ ?_ _) | (with_reducible refine Below.drew ?_) | (with_reducible refine below_drewN ?_ _) | (with_reducible refine Below.setCell ?_ ?_ _))) <;> (first | omega | (simp; done) | (simp; omega)))⟩
      case measure => simp [intOf]; omega
    · have hkD : k = D.length := by omega
      have HT := Lib.hid (show D.take k = D from List.take_of_length_le (by omega))
      rw [HT.out] at hm'
      rw [HT.out]
      obtain ⟨q, hq⟩ : ∃ q, q = allOr D := ⟨_, rfl⟩
      rw [← hq] at H3
      rw [← hq]
      have HKD := Lib.hid hkD
      have HM2 := Lib.hid hm'
      have HN2 := Lib.hid hn'
      clear hkD hm' hn' hq
      go_wp2_with fail
      refine (iFlowOk_n l U true HU.out _ _ D D.length rfl a2 e2 _ hlM hncp hcm (HL.out.below (by (repeat (first | with_reducible exact Below.refl _ _ | (with_reducible refine bel_next ?_ ?_ (by assumption)) | (with_reducible refine Below.alloc ?_ ?_ _) | (with_reducible refine Below.drew ?_) | (with_reducible refine below_drewN ?_ _) | (with_reducible refine Below.setCell ?_ ?_ _))) <;> (first | omega | (simp; done) | (simp; omega)))) (by unfold maxLen; omega) (HO2.out.below (by (repeat (first | with_reducible exact Below.refl _ _ | (with_reducible refine bel_next ?_ ?_ (by assumption)) | (with_reducible refine Below.alloc ?_ ?_ _) | (with_reducible refine Below.drew ?_) | (with_reducible refine below_drewN ?_ _) | (with_reducible refine Below.setCell ?_ ?_ _))) <;> (first | omega | (simp; done) | (simp; omega))))).mono ?_; rw [← HD.out, H1.out]; rintro e w10 ⟨rfl, hb10⟩; have z10 := hb10.size; (try simp at z10)
      go_wp2_with fail
      refine (iFlowOk_n l U true HU.out _ _ (D.map fun x => bits .or .i64 x 4) k (by simp; exact HKD.out.symm) (some ⟨gm, 0, none⟩) cm _ hlM hncp hcm (HL.out.below (by (repeat (first | with_reducible exact Below.refl _ _ | (with_reducible refine bel_next ?_ ?_ (by assumption)) | (with_reducible refine Below.alloc ?_ ?_ _) | (with_reducible refine Below.drew ?_) | (with_reducible refine below_drewN ?_ _) | (with_reducible refine Below.setCell ?_ ?_ _))) <;> (first | omega | (simp; done) | (simp; omega)))) (by unfold maxLen; omega) ((HM2.out.later (by (repeat (first | with_reducible exact Kp.refl _ _ | (with_reducible refine Kp.rng ?_ (by assumption) ?_) | (with_reducible refine Kp.below ?_ (by assumption)) | (with_reducible refine Kp.grown ?_ (by assumption) ?_) | (with_reducible refine Kp.alloc ?_ _) | (with_reducible refine Kp.drew ?_) | (with_reducible refine Kp.drewN ?_ _) | (with_reducible refine Kp.setCell ?_ _ ?_))) <;> (first | omega | (simp; done) | (simp; omega)))).rd)).mono ?_; rw [← HD.out, H2.out]; rintro e w11 ⟨rfl, hb11⟩; have z11 := hb11.size; (try simp at z11)
      go_wp2_with fail
      refine (iFlowOk_n l U true HU.out _ _ (List.replicate D.length 0) k (by simp; exact HKD.out.symm) (some ⟨gn, 0, none⟩) cn _ hlM hncp hcm (HL.out.below (by (repeat (first | with_reducible exact Below.refl _ _ | (with_reducible refine bel_next ?_ ?_ (by assumption)) | (with_reducible refine Below.alloc ?_ ?_ _) | (with_reducible refine Below.drew ?_) | (with_reducible refine below_drewN ?_ _) | (with_reducible refine Below.setCell ?_ ?_ _))) <;> (first | omega | (simp; done) | (simp; omega)))) (by unfold maxLen; omega) (by rw [← HKD.out]; exact (HN2.out.later (by (repeat (first | with_reducible exact Kp.refl _ _ | (with_reducible refine Kp.rng ?_ (by assumption) ?_) | (with_reducible refine Kp.below ?_ (by assumption)) | (with_reducible refine Kp.grown ?_ (by assumption) ?_) | (with_reducible refine Kp.alloc ?_ _) | (with_reducible refine Kp.drew ?_) | (with_reducible refine Kp.drewN ?_ _) | (with_reducible refine Kp.setCell ?_ _ ?_))) <;> (first | omega | (simp; done) | (simp; omega)))).rd)).mono ?_; rw [← HD.out, H3.out]; rintro e w12 ⟨rfl, hb12⟩; have z12 := hb12.size; (try simp at z12)
      go_wp2_with fail
      refine (iOutputCount_any l U _ HU.out _ _ _ hlM hncp hcm (HL.out.below (by (repeat (first | with_reducible exact Below.refl _ _ | (with_reducible refine bel_next ?_ ?_ (by assumption)) | (with_reducible refine Below.alloc ?_ ?_ _) | (with_reducible refine Below.drew ?_) | (with_reducible refine below_drewN ?_ _) | (with_reducible refine Below.setCell ?_ ?_ _))) <;> (first | omega | (simp; done) | (simp; omega))))).mono ?_; rw [← HQ.out]; rintro e w13 ⟨rfl, hb13⟩; have z13 := hb13.size
      go_wp2_with fail
      refine (iFlowNew_any _).mono ?_; rintro e w14 ⟨g14, rfl, _, hb14⟩; have z14 := hb14.size; have hfd : ∀ w : World, (Instr.field 35 (.agg #[.slice (some ⟨g14, 0, none⟩) 8 8, .slice none 0 0]) 0).run Try.prog w = .ok (.slice (some ⟨g14, 0, none⟩) 8 8) w := fun _ => by kernel_rfl
      go_wp2_with fail
      all_goals go_ret
      all_goals exact ⟨ret_bool (by simp [*]), (by (repeat (first | with_reducible exact Below.refl _ _ | (with_reducible refine bel_next ?_ ?_ (by assumption)) | (with_reducible refine Below.alloc ?_ ?_ _) | (with_reducible refine Below.drew ?_) | (with_reducible refine below_drewN ?_ _) | (with_reducible refine Below.setCell ?_ ?_ _))) <;> (first | omega | (simp; done) | (simp; omega)))⟩
end Go.Proofs.Ytfeffofoofmgcaa
