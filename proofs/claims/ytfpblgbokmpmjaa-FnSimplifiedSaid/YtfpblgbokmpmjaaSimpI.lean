/- Simplifying, in the program: the wire of a gate, constants, negations. -/
import Derived.Test.YtfpblgbokmpmjaaMapG
import Derived.Test.YtfpblgbokmpmjaaSimpS
import Derived.Test.YtfpblgbokmpmjaaPut
import Derived.Deep.QuietTactic
import Derived.BigQuiet
import Derived.Deep.RegionLaw
import Derived.StillTailTactics
import Derived.Maps.Own
namespace Go.Proofs.Ytfpblgbokmpmjaa
open Go.RowKit
set_option linter.unusedVariables false
set_option linter.unusedSimpArgs false

theorem grown_undrew {w w' : World} {r : Option Nat} (h : w.drew.grownBy w' r) : w.grownBy w' r := ⟨h.os, h.tape, h.output, h.size, h.block⟩
set_option maxRecDepth 20000 in
set_option maxHeartbeats 4000000 in
theorem sgate_any (gs : List Gt) (kd a b : Int) (lo bx mb : Nat) (w : World) (hB : Smp w lo bx mb gs) (hd : gs.Nodup) (hw : wfG ⟨kd, a, b⟩) (hn : gs.length ≤ 999999) :
    Calls Try.prog 76 #[.pointer (some ⟨bx, 0, none⟩), .int .i64 kd, .int .i64 a, .int .i64 b] w fun e w' => e = .returned (.int .i64 (gGate gs ⟨kd, a, b⟩).2) ∧ Smp w' lo bx mb (gGate gs ⟨kd, a, b⟩).1 ∧ Fr2 bx mb w w' ∧ Below lo w w' := by
  have hlo := hB.b.le
  have hlt := hB.b.lt
  obtain ⟨W, hW⟩ : ∃ W, W = w.alloc (.cells #[.int .i64 kd, .int .i64 a, .int .i64 b] 50) := ⟨_, rfl⟩
  have HW := Lib.hid hW
  have hBW : Smp W lo bx mb gs := by rw [hW]; exact hB.al _
  have hFW : Fr bx w W := by rw [hW]; exact Fr.al hB.b _
  have hLW : Below lo w W := by rw [hW]; exact (Below.refl _ _).alloc hlo _
  have hsz : w.heap.size < W.heap.size := by rw [hW]; simp
  have b0 : W.cell? ⟨w.heap.size, 0, none⟩ = some (.int .i64 kd) := by rw [hW]; go_simp
  have b1 : W.cell? ⟨w.heap.size, 1, none⟩ = some (.int .i64 a) := by rw [hW]; go_simp
  have b2 : W.cell? ⟨w.heap.size, 2, none⟩ = some (.int .i64 b) := by rw [hW]; go_simp
  have hsn := hBW.b.snd
  obtain ⟨ad, cap, hc0, ho0, _⟩ := hB.b.row
  have HXX := Lib.hid (show ∀ x, ad = some x → x.block ≠ w.heap.size from fun x hx => by have := ho0.blk x hx; omega)
  have HCW := Lib.hid (show W.cell? ⟨bx, 0, none⟩ = some (.slice ad gs.length cap) by rw [hW]; exact bel_keeps ((Below.refl _ _).alloc (Nat.le_refl _) _) hc0)
  clear hc0 ho0
  have HB := Lib.hid hBW
  have HD := Lib.hid hd
  have HWF := Lib.hid hw
  have HFW := Lib.hid hFW
  have HLW := Lib.hid hLW
  clear hBW hFW hLW hW hd hw hB
  by_cases hm : (⟨kd, a, b⟩ : Gt) ∈ gs
  · obtain ⟨i, hi⟩ := List.getElem?_of_mem hm
    have HF : Hid (gGate gs ⟨kd, a, b⟩ = (gs, (i : Int))) := gGate_nodup_found HD.out hi
    have HL : ∀ m, (Instr.lookup 73 (.map (some mb)) (.agg #[.int .i64 kd, .int .i64 a, .int .i64 b]) true).run Try.prog (W.drewN m) = .ok (.tuple #[.int .i64 i, .bool true]) (W.drewN m) := fun m => (HB.out.drewN m).m.found HWF.out hi
    clear hi hm
    go_enter Try.func76, Try.ntmps76
    go_wp2_with fail
    rw [← HW.out]
    go_quiet (fail)
    go_wp2_with fail
    go_ret
    exact ⟨ret_int (by rw [HF.out]), by rw [HF.out]; exact HB.out.drewN nq, (HFW.out.trans (Fr.drewN HB.out.b nq)).two, below_drewN HLW.out nq⟩
  · have HF : Hid (gGate gs ⟨kd, a, b⟩ = (gs ++ [⟨kd, a, b⟩], (gs.length : Int))) := gGate_new hm
    have HM := Lib.hid hm
    have HL : ∀ m, (Instr.lookup 73 (.map (some mb)) (.agg #[.int .i64 kd, .int .i64 a, .int .i64 b]) true).run Try.prog (W.drewN m) = .ok (.tuple #[.int .i64 0, .bool false]) (W.drewN m) := fun m => (HB.out.drewN m).m.missing HWF.out HM.out
    clear hm
    go_enter Try.func76, Try.ntmps76
    go_wp2_with fail
    rw [← HW.out]
    go_quiet (fail)
    clear HL
    obtain ⟨V, hV⟩ : ∃ V, V = W.drewN nq := ⟨_, rfl⟩
    have HBV := Lib.hid (show Smp V lo bx mb gs by rw [hV]; exact HB.out.drewN nq)
    have HFV := Lib.hid (show Fr bx w V by rw [hV]; exact HFW.out.trans (Fr.drewN HB.out.b nq))
    have HLV := Lib.hid (show Below lo w V by rw [hV]; exact below_drewN HLW.out nq)
    have c0 : V.cell? ⟨w.heap.size, 0, none⟩ = some (.int .i64 kd) := by rw [hV]; exact b0
    have c1 : V.cell? ⟨w.heap.size, 1, none⟩ = some (.int .i64 a) := by rw [hV]; exact b1
    have c2 : V.cell? ⟨w.heap.size, 2, none⟩ = some (.int .i64 b) := by rw [hV]; exact b2
    have hzV : w.heap.size < V.heap.size := by rw [hV]; exact hsz
    clear b0 b1 b2 hsn HB HFW HLW HW hsz
    obtain ⟨ad', cap', hc, ho, hne⟩ := HBV.out.b.row
    have hcv : V.cell? ⟨bx, 0, none⟩ = some (.slice ad gs.length cap) := by rw [hV]; exact HCW.out
    rw [hcv] at hc
    simp only [Option.some.injEq, Value.slice.injEq, true_and] at hc
    obtain ⟨rfl, rfl⟩ := hc
    rw [← hV]
    clear hV
    have hc := hcv
    clear hcv
    have e0 := HBV.out.b.f0
    have HC := Lib.hid hc
    have HO := Lib.hid ho
    have hltV := HBV.out.b.lt
    have hloV := HBV.out.b.le
    have nb0 : bx ≠ V.heap.size := by omega
    have nb1 : w.heap.size ≠ V.heap.size := by omega
    have hsn := HBV.out.b.snd
    have HNB := Lib.hid (map_ne_of hne)
    have HNW : Hid (ad.map (·.block) ≠ some w.heap.size) := map_ne_of fun x hx e => HXX.out x hx e
    clear ho hne
    go_wp2_with fail
    go_region_law (refine step_pushG _ rfl (.tmp 31) (.tmp 33) rfl lo gs.length cap ad gs ⟨kd, a, b⟩ _ 1 (by rfl) (by rfl) (HO.out.keep fun x hx => (by have hh := HO.out.blk x hx; exact (by (repeat (first | with_reducible exact Kp.refl _ _ | (with_reducible refine Kp.rng ?_ (by assumption) ?_) | (with_reducible refine Kp.below ?_ (by assumption)) | (with_reducible refine Kp.grown ?_ (by assumption) ?_) | (with_reducible refine Kp.alloc ?_ _) | (with_reducible refine Kp.drew ?_) | (with_reducible refine Kp.drewN ?_ _) | (with_reducible refine Kp.setCell ?_ _ ?_))) <;> (first | omega | (simp; done) | (simp; omega))))) (by first | (go_simp; done) | assumption) (by first | (go_simp; done) | assumption) (by first | (go_simp; done) | assumption) (by omega) (by first | omega | (simp; done) | (simp; omega)) ?_; intro g5 d5 w5 ho5 hb5 hg5 hat5; have z5 := hg5.size; (try simp at z5); have y5 : bx < w5.heap.size := (by omega); have y6 : w.heap.size < w5.heap.size := (by omega); have k0 := grown_cellA hg5 (b := w.heap.size) (o := 0) (x := .int .i64 kd) HNW.out (by first | (go_simp; done) | assumption); have k1 := grown_cellA hg5 (b := w.heap.size) (o := 1) (x := .int .i64 a) HNW.out (by first | (go_simp; done) | assumption); have k2 := grown_cellA hg5 (b := w.heap.size) (o := 2) (x := .int .i64 b) HNW.out (by first | (go_simp; done) | assumption); have k3 := grown_cellA hg5 (b := bx) (o := 0) (x := .slice ad gs.length cap) HNB.out (by first | (go_simp; done) | assumption); have k4 := grown_cellA hg5 (b := bx) (o := 1) (x := .map (some mb)) HNB.out (by first | (go_simp; done) | assumption); have k5 := grown_freeA hg5 (b := bx) (o := 0) HNB.out (by first | omega | (simp; done) | (simp; omega)) (by first | (go_simp; done) | assumption))
    all_goals
      have hg6 : (V.alloc (.cells #[.int .i64 kd, .int .i64 a, .int .i64 b] 50)).grownBy w5 (ad.map (·.block)) := by first | exact hg5 | exact grown_undrew hg5
      have hl : (gs ++ [(⟨kd, a, b⟩ : Gt)]).length = gs.length + 1 := by simp
      have HP := HBV.out.b.push (gs' := gs ++ [⟨kd, a, b⟩]) _ HC.out (by rw [hl]; exact ho5) hg6 (by simpa using hat5)
      rw [hl] at HP
      obtain ⟨Y, hY⟩ : ∃ Y, Y = w5.setCell ⟨bx, 0, none⟩ (.slice (some ⟨g5, 0, none⟩) (gs.length + 1) d5) := ⟨_, rfl⟩
      rw [← hY] at HP ⊢
      have m0 : Y.cell? ⟨bx, 0, none⟩ = some (.slice (some ⟨g5, 0, none⟩) (gs.length + 1) d5) := by rw [hY]; go_simp
      have m1 : Y.cell? ⟨bx, 1, none⟩ = some (.map (some mb)) := HP.1.snd
      have nbw : w.heap.size ≠ bx := by omega
      have m2 : Y.cell? ⟨w.heap.size, 0, none⟩ = some (.int .i64 kd) := by rw [hY]; go_simp
      have m3 : Y.cell? ⟨w.heap.size, 1, none⟩ = some (.int .i64 a) := by rw [hY]; go_simp
      have m4 : Y.cell? ⟨w.heap.size, 2, none⟩ = some (.int .i64 b) := by rw [hY]; go_simp
      have HMK := HBV.out.m.blk (HP.2.1 mb HBV.out.f).1
      have hFm := (HP.2.1 mb HBV.out.f).2
      obtain ⟨n, D, hown, hnle, hkn⟩ := HMK
      have HOWN := Lib.hid hown
      have HKN := Lib.hid hkn
      have HPP := Lib.hid HP
      have HFM := Lib.hid hFm
      have nbm : bx ≠ mb := fun e => HBV.out.f.2.1 e.symm
      clear hY hg6 hl HP hown hkn hFm c0 c1 c2 hc e0 hsn k0 k1 k2 k3 k4 k5 ho5 hb5 hg5 hat5 z5 y5 y6 HO HC
      go_wp2_with fail
      have hwr : IntKind.i64.wrap (gs.length : Int) = (gs.length : Int) := wrap_i64_id (by omega) (by omega)
      go_still_tail 11, (by kernel_rfl)
      change wpList _ _ _ _ _ (World.drew _)
      go_wp2_with (at_mapUpdate; refine wpList_mapUpdate_own _ rfl (.tmp 40) (.tmp 41) (.tmp 47) 73 rfl 50 3 mg_keyed mg_map (plainElem Try.prog 3) mb n D (by rfl) HOWN.out.drew (by unfold maxLen; omega) (.agg #[.int .i64 kd, .int .i64 a, .int .i64 b]) (.int .i64 (gs.length : Int)) (kl ⟨kd, a, b⟩) (by rfl) (by rfl) (kl_key HWF.out) (.lit (.int .i64 (gs.length : Int))) [] (plainElem_int Try.underlying3 (wf_small (by omega) (by omega))) ?_; intro w6 hown6 hg6; have m5 : w6.cell? ⟨bx, 0, none⟩ = some (.slice (some ⟨g5, 0, none⟩) (gs.length + 1) d5) := (grown_cellA hg6 (by intro e; exact nbm (Option.some.inj e).symm) m0))
      go_wp2_with fail
      go_ret
      have hBY : Bld Y.drew lo bx (gs ++ [⟨kd, a, b⟩]) (.map (some mb)) := HPP.out.1.below ((Below.refl _ _).drew)
      have hFY : Frn Y.drew bx mb := HFM.out
      have hr : ∀ q, some mb = some q → Frn Y.drew bx q := fun q e => by obtain rfl := Option.some.inj e; exact hFY
      have hF6 : Fr2 bx mb Y w6 := fun b hb hne => ⟨hg6.block b hb.1 (fun e => hne (Option.some.inj e)), frn_grown hBY hg6 hr hb⟩
      refine ⟨ret_int (by rw [HF.out]), ?_, ((HFV.out.trans HPP.out.2.1).two).trans hF6, (HLV.out.trans HPP.out.2.2).trans (((Below.refl _ _).drew).trans ((Below.refl _ _).grown hg6 (hBY.le) (fun k hk => by obtain rfl := Option.some.inj hk; exact HBV.out.ge)))⟩
      rw [HF.out]
      refine ⟨hBY.grown hg6 hr, ⟨n + 1, _, hown6, by simp; omega, HKN.out.snoc HBV.out.wf HWF.out HM.out⟩, frn_grown hBY hg6 hr hFY, HBV.out.ge, fun x hx => ?_⟩
      rcases List.mem_append.1 hx with hx | hx
      · exact HBV.out.wf x hx
      · simp at hx; subst hx; exact HWF.out
end Go.Proofs.Ytfpblgbokmpmjaa
