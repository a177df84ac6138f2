/- CountGates, both. -/
import Derived.Test.YtfpblgbokmpmjaaGts
namespace Go.Proofs.Ytfpblgbokmpmjaa
open Go.RowKit
set_option linter.unusedVariables false
set_option linter.unusedSimpArgs false
def cntG (kd : Int) (gs : List Gt) : Nat := (gs.filter fun g => g.kd == kd).length
theorem cntG_snoc {kd : Int} {gs : List Gt} {k : Nat} {g : Gt} (h : gs[k]? = some g) : cntG kd (gs.take (k + 1)) = cntG kd (gs.take k) + if g.kd = kd then 1 else 0 := by
  rw [take_snoc h]
  simp only [cntG, List.filter_append, List.length_append, List.filter_cons, List.filter_nil]
  by_cases h1 : g.kd = kd <;> simp [h1]
theorem cntG_le (kd : Int) (gs : List Gt) : cntG kd gs ≤ gs.length := List.length_filter_le _ _

set_option maxHeartbeats 2000000 in
theorem sCountGates_any (gs : List Gt) (os : List Int) (kd : Int) (a1 a2 : Option Addr) (c1 c2 : Nat) (w : World) (hm : gs.length ≤ 1048576) (hr : RdC w a1 (gtCells gs)) :
    Calls Try.prog 18 #[.agg #[.slice a1 gs.length c1, .slice a2 os.length c2], .int .i64 kd] w fun e w' => e = .returned (.int .i64 (cntG kd gs : Int)) ∧ Below w.heap.size w w' := by
  have HR := Lib.hid hr
  clear hr
  go_enter Try.func18, Try.ntmps18
  go_wp2_with fail
  go_loopw [5, 6] (fun m i wr => ∃ k : Nat, k ≤ gs.length ∧ i = .int .i64 k ∧ m = .int .i64 (cntG kd (gs.take k) : Int) ∧ Below (w.heap.size + 1) (w.alloc (.cells #[.slice a1 gs.length c1, .slice a2 os.length c2] 30)) wr) (fun _ i _ => gs.length - (intOf i).toNat)
  case atStart => exact ⟨0, Nat.zero_le _, rfl, rfl, Below.refl _ _⟩
  case round =>
    obtain ⟨k, hk, rfl, rfl, hb0⟩ := hrel
    have hbw : Below w.heap.size w wr := ((Below.refl _ _).alloc (Nat.le_refl _) _).trans (hb0.mono (by omega))
    have hbs := hb0.size
    simp at hbs
    have k0 : wr.cell? ⟨w.heap.size, 0, none⟩ = some (.slice a1 gs.length c1) := (hb0.cell (p := ⟨w.heap.size, 0, none⟩) (by simp)).trans (by go_simp)
    have hcl := cntG_le kd (gs.take k)
    have hcl2 : (gs.take k).length ≤ k := List.length_take_le _ _
    by_cases hlt : k < gs.length
    · obtain ⟨b, off, gk, ga, gb, rfl, hbl, hx, c0, c1', c2'⟩ := (HR.out.below hbw).gt k hlt
      have hsn := cntG_snoc (kd := kd) hx
      obtain ⟨q, hq⟩ : ∃ q, q = cntG kd (gs.take k) := ⟨_, rfl⟩
      rw [← hq] at hsn hcl
      rw [← hq]
      by_cases pk : gk = kd
      · have HS : Hid (cntG kd (gs.take (k + 1)) = q + 1) := by show _ = _; rw [hsn]; simp [pk]
        have tk : (gk == kd) = true := by simp [pk]
        clear hsn hx hq pk
        go_wp2_with fail
        go_roundw
        case rel => exact ⟨k + 1, by omega, by go_num, by rw [HS.out]; go_num, (by (repeat (first | with_reducible exact Below.refl _ _ | (with_reducible refine bel_next ?_ ?_ (by assumption)) | (with_reducible refine Below.alloc ?_ ?_ _) | (with_reducible refine Below.drew ?_) | (with_reducible refine below_drewN ?_ _) | (with_reducible refine Below.setCell ?_ ?_ _))) <;> (first | omega | (simp; done) | (simp; omega)))⟩
        case measure => simp [intOf]; omega
      · have HS : Hid (cntG kd (gs.take (k + 1)) = q) := by show _ = _; rw [hsn]; simp [pk]
        have tk : (gk == kd) = false := by simp [pk]
        clear hsn hx hq pk
        go_wp2_with fail
        go_roundw
        case rel => exact ⟨k + 1, by omega, by go_num, by rw [HS.out], (by (repeat (first | with_reducible exact Below.refl _ _ | (with_reducible refine bel_next ?_ ?_ (by assumption)) | (with_reducible refine Below.alloc ?_ ?_ _) | (with_reducible refine Below.drew ?_) | (with_reducible refine below_drewN ?_ _) | (with_reducible refine Below.setCell ?_ ?_ _))) <;> (first | omega | (simp; done) | (simp; omega)))⟩
        case measure => simp [intOf]; omega
    · have HK : Hid (cntG kd (gs.take k) = cntG kd gs) := by show _ = _; rw [List.take_of_length_le (by omega)]
      rw [HK.out]
      go_wp2_with fail
      go_ret
      exact ⟨rfl, (by (repeat (first | with_reducible exact Below.refl _ _ | (with_reducible refine bel_next ?_ ?_ (by assumption)) | (with_reducible refine Below.alloc ?_ ?_ _) | (with_reducible refine Below.drew ?_) | (with_reducible refine below_drewN ?_ _) | (with_reducible refine Below.setCell ?_ ?_ _))) <;> (first | omega | (simp; done) | (simp; omega)))⟩

set_option maxHeartbeats 2000000 in
theorem iCountGates_any (gs : List Gt) (os : List Int) (kd : Int) (a1 a2 : Option Addr) (c1 c2 : Nat) (w : World) (hm : gs.length ≤ 1048576) (hr : RdC w a1 (gtCells gs)) :
    Calls Try.prog 20 #[.agg #[.slice a1 gs.length c1, .slice a2 os.length c2], .int .i64 kd] w fun e w' => e = .returned (.int .i64 (cntG kd gs : Int)) ∧ Below w.heap.size w w' := by
  have HR := Lib.hid hr
  clear hr
  go_enter Try.func20, Try.ntmps20
  go_wp2_with fail
  go_loopw [5, 11] (fun m i wr => ∃ k : Nat, k ≤ gs.length ∧ i = .int .i64 k ∧ m = .int .i64 (cntG kd (gs.take k) : Int) ∧ Below (w.heap.size + 1) (w.alloc (.cells #[.slice a1 gs.length c1, .slice a2 os.length c2] 30)) wr) (fun _ i _ => gs.length - (intOf i).toNat)
  case atStart => exact ⟨0, Nat.zero_le _, rfl, rfl, Below.refl _ _⟩
  case round =>
    obtain ⟨k, hk, rfl, rfl, hb0⟩ := hrel
    have hbw : Below w.heap.size w wr := ((Below.refl _ _).alloc (Nat.le_refl _) _).trans (hb0.mono (by omega))
    have hbs := hb0.size
    simp at hbs
    have k0 : wr.cell? ⟨w.heap.size, 0, none⟩ = some (.slice a1 gs.length c1) := (hb0.cell (p := ⟨w.heap.size, 0, none⟩) (by simp)).trans (by go_simp)
    have hcl := cntG_le kd (gs.take k)
    have hcl2 : (gs.take k).length ≤ k := List.length_take_le _ _
    by_cases hlt : k < gs.length
    · obtain ⟨b, off, gk, ga, gb, rfl, hbl, hx, c0, c1', c2'⟩ := (HR.out.below hbw).gt k hlt
      have hsn := cntG_snoc (kd := kd) hx
      obtain ⟨q, hq⟩ : ∃ q, q = cntG kd (gs.take k) := ⟨_, rfl⟩
      rw [← hq] at hsn hcl
      rw [← hq]
      by_cases pk : gk = kd
      · have HS : Hid (cntG kd (gs.take (k + 1)) = q + 1) := by show _ = _; rw [hsn]; simp [pk]
        have tk : (gk == kd) = true := by simp [pk]
        clear hsn hx hq pk
        go_wp2_with fail
        go_roundw
        case rel => exact ⟨k + 1, by omega, by go_num, by rw [HS.out]; go_num, (by (repeat (first | with_reducible exact Below.refl _ _ | (with_reducible refine bel_next ?_ ?_ (by assumption)) | (with_reducible refine Below.alloc ?_ ?_ _) | (with_reducible refine Below.drew ?_) | (with_reducible refine below_drewN ?_ _) | (with_reducible refine Below.setCell ?_ ?_ _))) <;> (first | omega | (simp; done) | (simp; omega)))⟩
        case measure => simp [intOf]; omega
      · have HS : Hid (cntG kd (gs.take (k + 1)) = q) := by show _ = _; rw [hsn]; simp [pk]
        have tk : (gk == kd) = false := by simp [pk]
        clear hsn hx hq pk
        go_wp2_with fail
        go_roundw
        case rel => exact ⟨k + 1, by omega, by go_num, by rw [HS.out], (by (repeat (first | with_reducible exact Below.refl _ _ | (with_reducible refine bel_next ?_ ?_ (by assumption)) | (with_reducible refine Below.alloc ?_ ?_ _) | (with_reducible refine Below.drew ?_) | (with_reducible refine below_drewN ?_ _) | (with_reducible refine Below.setCell ?_ ?_ _))) <;> (first | omega | (simp; done) | (simp; omega)))⟩
        case measure => simp [intOf]; omega
    · have HK : Hid (cntG kd (gs.take k) = cntG kd gs) := by show _ = _; rw [List.take_of_length_le (by omega)]
      rw [HK.out]
      go_wp2_with fail
      go_ret
      exact ⟨rfl, (by (repeat (first | with_reducible exact Below.refl _ _ | (with_reducible refine bel_next ?_ ?_ (by assumption)) | (with_reducible refine Below.alloc ?_ ?_ _) | (with_reducible refine Below.drew ?_) | (with_reducible refine below_drewN ?_ _) | (with_reducible refine Below.setCell ?_ ?_ _))) <;> (first | omega | (simp; done) | (simp; omega)))⟩

end Go.Proofs.Ytfpblgbokmpmjaa
