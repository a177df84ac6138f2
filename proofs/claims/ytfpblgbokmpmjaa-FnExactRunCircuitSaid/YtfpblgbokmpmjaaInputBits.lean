/- Contracts of InputBits. -/
import Derived.Test.YtfpblgbokmpmjaaGrid
namespace Go.Proofs.Ytfpblgbokmpmjaa
open Go.RowKit

def bitI (x : Int) (b : Nat) : Int := x / 2 ^ b % 2
def bitsT (xss : List (List Int)) (t : Nat) : List Int := (List.range t).map fun i => bitI ((xss.getD (i / 16) []).getD (i / 4 % 4) 0) (i % 4)
theorem bit_and {x : Int} {k : Nat} (h0 : 0 ≤ x) (h1 : x ≤ 15) (hk : k < 4) : bits BinOp.and IntKind.i64 (x / 2 ^ k) 1 = bitI x k := by
  have H : ∀ (a : Fin 16) (b : Fin 4), bits BinOp.and IntKind.i64 ((a.1 : Int) / 2 ^ b.1) 1 = bitI a.1 b.1 := by decide
  have := H ⟨x.toNat, by omega⟩ ⟨k, hk⟩
  have e : (x.toNat : Int) = x := by omega
  simpa [e] using this
theorem bitsT_length (xss : List (List Int)) (t : Nat) : (bitsT xss t).length = t := by simp [bitsT]
theorem bitsT_succ (xss : List (List Int)) (p n b : Nat) (hn : n < 4) (hb : b < 4) :
    bitsT xss (16 * p + 4 * n + b + 1) = bitsT xss (16 * p + 4 * n + b) ++ [bitI ((xss.getD p []).getD n 0) b] := by
  have e1 : (16 * p + 4 * n + b) / 16 = p := by omega
  have e2 : (16 * p + 4 * n + b) / 4 % 4 = n := by omega
  have e3 : (16 * p + 4 * n + b) % 4 = b := by omega
  simp only [bitsT, List.range_succ, List.map_append, List.map_cons, List.map_nil, e1, e2, e3]
def inputBits (xss : List (List Int)) : List Int := if inputsOk xss = true then bitsT xss 80 else []
theorem inputsOk_parts {rs : List Rw} (h : inputsOk (rs.map Rw.xs) = true) : rs.length = 5 ∧ ∀ r ∈ rs, r.xs.length = 4 ∧ ∀ x ∈ r.xs, 0 ≤ x ∧ x ≤ 15 := by
  simp only [inputsOk, Bool.and_eq_true, beq_iff_eq, rowsOk, List.all_eq_true, List.length_map] at h
  refine ⟨by omega, fun r hr => ?_⟩
  have := h.1 r.xs (List.mem_map_of_mem hr)
  simp only [rowOk, Bool.and_eq_true, beq_iff_eq] at this
  exact ⟨by omega, allB_iff.1 this.2⟩

set_option maxRecDepth 20000 in
set_option maxHeartbeats 4000000 in
theorem iInputBits_any (rs : List Rw) (ad : Option Addr) (cp : Nat) (w : World) (hm : rs.length ≤ maxLen) (hml : rowsLe rs) (hr : RdR w ad rs) :
    Calls Try.prog 85 #[.slice ad rs.length cp] w fun e w' => ∃ a' c', e = .returned (.slice a' (inputBits (rs.map Rw.xs)).length c') ∧
      Own w' w.heap.size 3 1 a' (inputBits (rs.map Rw.xs)).length c' (I64 (inputBits (rs.map Rw.xs))) ∧ Below w.heap.size w w' := by
  have hc := iInputsOk_any rs ad cp w hm hml hr
  obtain ⟨i0, hi, hz0, hz1, hz2⟩ := info_parts info_int
  cases hok : inputsOk (rs.map Rw.xs)
  · rw [hok] at hc
    have e : inputBits (rs.map Rw.xs) = [] := by simp [inputBits, hok]
    rw [e]
    clear hml hr hm e
    go_enter Try.func85, Try.ntmps85
    go_wp2_with fail
    refine hc.mono ?_
    rintro e w' ⟨rfl, rfl⟩
    go_wp2_with fail
    go_ret
    exact ⟨_, _, rfl, Own.nil _ _ _ _, Below.refl _ _⟩
  · rw [hok] at hc
    have e : inputBits (rs.map Rw.xs) = bitsT (rs.map Rw.xs) 80 := by simp [inputBits, hok]
    rw [e]
    obtain ⟨h5, hrows⟩ := inputsOk_parts hok
    clear hml hm e hok
    obtain ⟨xss, hX⟩ : ∃ xss, xss = rs.map Rw.xs := ⟨_, rfl⟩
    rw [← hX]
    have hx : ∀ k (h : k < rs.length), rs[k].xs = xss.getD k [] := by intro k h; rw [hX]; simp [h]
    clear hX
    have H5 := Lib.hid h5
    have HX := Lib.hid hx
    have HR := Lib.hid hrows
    have l5 : rs.length ≤ 5 := by omega
    have g5 : 5 ≤ rs.length := by omega
    clear h5 hx hrows
    go_enter Try.func85, Try.ntmps85
    go_wp2_with fail
    refine hc.mono ?_
    clear hc
    rintro e w' ⟨rfl, rfl⟩
    go_wp2_with fail
    have hr0 : RdR (w.alloc (.cells #[] 3)) ad rs := hr.below ((Below.refl _ _).alloc (Nat.le_refl _) _)
    go_loopw [3, 15] (fun v i wr => ∃ (p : Nat) (a' : Option Addr) (c' : Nat), p ≤ 5 ∧ i = .int .i64 p ∧ v = .slice a' (16 * p) c' ∧
        Own wr w.heap.size 3 1 a' (16 * p) c' (I64 (bitsT xss (16 * p))) ∧ Below w.heap.size w wr) (fun _ i _ => 5 - (intOf i).toNat)
    case atStart =>
      refine ⟨0, _, _, by omega, rfl, rfl, ?_, (Below.refl _ _).alloc (Nat.le_refl _) _⟩
      exact World.ownsRow_lit w #[] 0 (Nat.le_refl _) (by simp [maxLen]) rfl
    case round =>
      obtain ⟨p, a', c', hp, rfl, rfl, hown, hbw⟩ := hrel
      by_cases hlt : p < 5
      · obtain ⟨b, off, rfl, hcell0, hrk⟩ := hr.at p (by omega)
        obtain ⟨hl4, hall⟩ := HR.out _ (List.getElem_mem (by omega : p < rs.length))
        have hxp := HX.out p (by omega)
        obtain ⟨ra, rc, rx, hcell, hrk1, HL4, HXP, HA⟩ : ∃ (ra : Option Addr) (rc : Nat) (rx : List Int), wr.cell? ⟨b, off + p, none⟩ = some (Value.slice ra 4 rc) ∧ RdC w ra (I64 rx) ∧ Hid (rx.length = 4) ∧ Hid (rx = xss.getD p []) ∧ Hid (∀ x ∈ rx, 0 ≤ x ∧ x ≤ 15) :=
          ⟨_, _, _, (hbw.cell (lt_of_cell hcell0)).trans (by rw [hcell0, Rw.val, hl4]), hrk, hl4, hxp, hall⟩
        clear hcell0 hr hr0 hl4 hxp hall hrk
        have hlr : (p : Int) < (rs.length : Int) := by omega
        go_wp2_with fail
        go_loopw [3, 21] (fun v i wi => ∃ (n : Nat) (a' : Option Addr) (c' : Nat), n ≤ 4 ∧ i = .int .i64 n ∧ v = .slice a' (16 * p + 4 * n) c' ∧
          Own wi w.heap.size 3 1 a' (16 * p + 4 * n) c' (I64 (bitsT xss (16 * p + 4 * n))) ∧ Below w.heap.size w wi) (fun _ i _ => 4 - (intOf i).toNat)
        case atStart => exact ⟨0, a', c', by omega, rfl, rfl, hown, hbw⟩
        case round =>
          obtain ⟨n, a2, c2, hn, rfl, rfl, hown2, hbw2⟩ := hrel
          by_cases hnt : n < 4
          · obtain ⟨b2, off2, rfl, hcell2⟩ := hrk1.at n (by have := HL4.out; omega)
            have hvc : wr.cell? ⟨b2, off2 + n, none⟩ = some (.int .i64 (rx[n]'(by have := HL4.out; omega))) := (hbw2.cell (lt_of_cell (hcell2 n (by have := HL4.out; omega)))).trans (hcell2 n (by have := HL4.out; omega))
            have hxv : rx[n]'(by have := HL4.out; omega) = (xss.getD p []).getD n 0 := by
              rw [← HXP.out]; simp [HL4.out, hnt]
            have hv := HA.out _ (List.getElem_mem (by have := HL4.out; omega : n < rx.length))
            generalize rx[n]'(by have := HL4.out; omega) = x at *
            obtain ⟨v0, v1⟩ := hv
            have HXV := Lib.hid hxv
            clear hcell2 hxv hcell hrk1 hown hbw
            have hdn : decide ((n : Int) < 4) = true := decide_eq_true (by omega)
            go_wp2_with fail
            (try rw [hdn])
            go_loopw [3, 8] (fun v i wi => ∃ (b : Nat) (a' : Option Addr) (c' : Nat), b ≤ 4 ∧ i = .int .i64 b ∧ v = .slice a' (16 * p + 4 * n + b) c' ∧
              Own wi w.heap.size 3 1 a' (16 * p + 4 * n + b) c' (I64 (bitsT xss (16 * p + 4 * n + b))) ∧ Below w.heap.size w wi) (fun _ i _ => 4 - (intOf i).toNat)
            case atStart => exact ⟨0, a2, c2, by omega, rfl, rfl, hown2, hbw2⟩
            case round =>
              obtain ⟨k, a3, c3, hk, rfl, rfl, hown3, hbw3⟩ := hrel
              by_cases hkt : k < 4
              · go_wp2_with (at_builtin; refine wpList_app1 _ (by rfl) _ _ (by rfl) w.heap.size _ _ _ _ (bitI x k) _ 1 (by rfl) (by rfl) (hown3.alloc _) ?c1 (by omega) (by have := hbw3.size; simp; omega) ?c2)
                case c1 => clear hvc; (try go_simp); (try simp); exact bit_and v0 v1 hkt
                intro gg cap w1 hown1 hb1 hgrow
                have R : Hid (Own w1 w.heap.size 3 1 (some ⟨gg, 0, none⟩) (16 * p + 4 * n + (k + 1)) cap (I64 (bitsT xss (16 * p + 4 * n + (k + 1)))) ∧ Below w.heap.size w w1) := by
                  refine ⟨?_, (hbw3.alloc hbw3.size _).trans hb1⟩
                  have e := bitsT_succ xss p n k hnt hkt
                  rw [← HXV.out] at e
                  rw [show 16 * p + 4 * n + (k + 1) = 16 * p + 4 * n + k + 1 from rfl, e]
                  exact hown1
                clear hown1 hb1 hgrow hown3 hbw3 hown2 hbw2 hvc
                go_wp2_with fail
                go_roundw
                case rel => exact ⟨k + 1, _, _, by omega, by go_num, rfl, R.out.1, R.out.2⟩
                case measure => simp [intOf]; omega
              · have hk4 : k = 4 := by omega
                subst hk4
                have R : Hid (Own wr w.heap.size 3 1 a3 (16 * p + 4 * (n + 1)) c3 (I64 (bitsT xss (16 * p + 4 * (n + 1)))) ∧ Below w.heap.size w wr) := ⟨hown3, hbw3⟩
                clear hown3 hbw3 hown2 hbw2 hvc
                go_wp2_with fail
                go_roundw
                case rel => exact ⟨n + 1, a3, c3, by omega, by go_num, rfl, R.out.1, R.out.2⟩
                case measure => simp [intOf]; omega
          · have hn4 : n = 4 := by omega
            subst hn4
            have R : Hid (Own wr w.heap.size 3 1 a2 (16 * (p + 1)) c2 (I64 (bitsT xss (16 * (p + 1)))) ∧ Below w.heap.size w wr) := ⟨hown2, hbw2⟩
            clear hown2 hbw2 hown hbw hcell
            go_wp2_with fail
            go_roundw
            case rel => exact ⟨p + 1, a2, c2, by omega, by go_num, rfl, R.out.1, R.out.2⟩
            case measure => simp [intOf]; omega
      · have hp5 : p = 5 := by omega
        subst hp5
        have R : Hid (Own wr w.heap.size 3 1 a' (bitsT xss 80).length c' (I64 (bitsT xss 80)) ∧ Below w.heap.size w wr) := by
          rw [bitsT_length]; exact ⟨hown, hbw⟩
        have RL := Lib.hid (bitsT_length xss 80)
        clear hown hbw hr hr0
        go_wp2_with fail
        go_ret
        exact ⟨a', c', by rw [RL.out]; rfl, R.out.1, R.out.2⟩

set_option maxRecDepth 20000 in
set_option maxHeartbeats 4000000 in
theorem sInputBits_any (rs : List Rw) (ad : Option Addr) (cp : Nat) (w : World) (hm : rs.length ≤ maxLen) (hml : rowsLe rs) (hr : RdR w ad rs) :
    Calls Try.prog 82 #[.slice ad rs.length cp] w fun e w' => ∃ a' c', e = .returned (.slice a' (inputBits (rs.map Rw.xs)).length c') ∧
      Own w' w.heap.size 3 1 a' (inputBits (rs.map Rw.xs)).length c' (I64 (inputBits (rs.map Rw.xs))) ∧ Below w.heap.size w w' := by
  obtain ⟨i0, hi, hz0, hz1, hz2⟩ := info_parts info_int
  have hmm := hm
  unfold maxLen at hmm
  cases hok : inputsOk (rs.map Rw.xs)
  · have e : inputBits (rs.map Rw.xs) = [] := by simp [inputBits, hok]
    rw [e]
    have HC := Lib.hid (sInputsOk_any rs ad cp (w.alloc (.cells #[] 3)) hm hml (hr.below ((Below.refl _ _).alloc (Nat.le_refl _) _)))
    have HO := Lib.hid hok
    clear hml hr hm e hok
    go_enter Try.func82, Try.ntmps82
    go_wp2_with fail
    refine wp_loop_rounds 1 ?_
    rw [rounds_succ]
    by_cases h0 : (0 : Int) < (rs.length : Int)
    · go_wp2_with fail
      refine HC.out.mono ?_
      rintro e w' ⟨rfl, rfl⟩
      rw [HO.out]
      go_wp2_with fail
      go_ret
      exact ⟨_, _, rfl, World.ownsRow_lit w #[] 0 (Nat.le_refl _) (by simp [maxLen]) rfl, (Below.refl _ _).alloc (Nat.le_refl _) _⟩
    · go_wp2_with fail
      go_ret
      exact ⟨_, _, rfl, World.ownsRow_lit w #[] 0 (Nat.le_refl _) (by simp [maxLen]) rfl, (Below.refl _ _).alloc (Nat.le_refl _) _⟩
  · have e : inputBits (rs.map Rw.xs) = bitsT (rs.map Rw.xs) 80 := by simp [inputBits, hok]
    rw [e]
    obtain ⟨h5, hrows⟩ := inputsOk_parts hok
    have HC : Hid (∀ wr, Below w.heap.size w wr → Calls Try.prog 81 #[.slice ad rs.length cp] wr fun e w' => e = .returned (.bool true) ∧ wr = w') := by
      intro wr hb
      have := sInputsOk_any rs ad cp wr hm hml (hr.below hb)
      rwa [hok] at this
    clear hml hm e hok
    obtain ⟨xss, hX⟩ : ∃ xss, xss = rs.map Rw.xs := ⟨_, rfl⟩
    rw [← hX]
    have hx : ∀ k (h : k < rs.length), rs[k].xs = xss.getD k [] := by intro k h; rw [hX]; simp [h]
    clear hX
    have H5 := Lib.hid h5
    have HX := Lib.hid hx
    have HR := Lib.hid hrows
    have l5 : rs.length ≤ 5 := by omega
    have g5 : 5 ≤ rs.length := by omega
    clear h5 hx hrows
    go_enter Try.func82, Try.ntmps82
    go_wp2_with fail
    go_loopw [3, 4] (fun v i wr => ∃ (p : Nat) (a' : Option Addr) (c' : Nat), p ≤ 5 ∧ i = .int .i64 p ∧ v = .slice a' (16 * p) c' ∧
        Own wr w.heap.size 3 1 a' (16 * p) c' (I64 (bitsT xss (16 * p))) ∧ Below w.heap.size w wr) (fun _ i _ => 5 - (intOf i).toNat)
    case atStart =>
      refine ⟨0, _, _, by omega, rfl, rfl, ?_, (Below.refl _ _).alloc (Nat.le_refl _) _⟩
      exact World.ownsRow_lit w #[] 0 (Nat.le_refl _) (by simp [maxLen]) rfl
    case round =>
      obtain ⟨p, a', c', hp, rfl, rfl, hown, hbw⟩ := hrel
      by_cases hlt : p < 5
      · obtain ⟨b, off, rfl, hcell0, hrk⟩ := hr.at p (by omega)
        obtain ⟨hl4, hall⟩ := HR.out _ (List.getElem_mem (by omega : p < rs.length))
        have hxp := HX.out p (by omega)
        obtain ⟨ra, rc, rx, hcell, hrk1, HL4, HXP, HA⟩ : ∃ (ra : Option Addr) (rc : Nat) (rx : List Int), w.cell? ⟨b, off + p, none⟩ = some (Value.slice ra 4 rc) ∧ RdC w ra (I64 rx) ∧ Hid (rx.length = 4) ∧ Hid (rx = xss.getD p []) ∧ Hid (∀ x ∈ rx, 0 ≤ x ∧ x ≤ 15) :=
          ⟨_, _, _, (by rw [hcell0, Rw.val, hl4]), hrk, hl4, hxp, hall⟩
        have hcc := HC.out wr hbw
        have HB := Lib.hid hcell
        clear hcell hcell0 hr hl4 hxp hall hrk
        have hlr : (p : Int) < (rs.length : Int) := by omega
        go_wp2_with fail
        refine hcc.mono ?_
        clear hcc
        rintro e w' ⟨rfl, rfl⟩
        go_wp2_with fail
        go_loopw [3, 5] (fun v i wi => ∃ (n : Nat) (a' : Option Addr) (c' : Nat), n ≤ 4 ∧ i = .int .i64 n ∧ v = .slice a' (16 * p + 4 * n) c' ∧
          Own wi w.heap.size 3 1 a' (16 * p + 4 * n) c' (I64 (bitsT xss (16 * p + 4 * n))) ∧ Below w.heap.size w wi) (fun _ i _ => 4 - (intOf i).toNat)
        case atStart => exact ⟨0, a', c', by omega, rfl, rfl, hown, hbw⟩
        case round =>
          obtain ⟨n, a2, c2, hn, rfl, rfl, hown2, hbw2⟩ := hrel
          by_cases hnt : n < 4
          · obtain ⟨b2, off2, rfl, hcell2⟩ := hrk1.at n (by have := HL4.out; omega)
            have HV : Hid (w.cell? ⟨b2, off2 + n, none⟩ = some (.int .i64 (rx[n]'(by have := HL4.out; omega)))) := hcell2 n (by have := HL4.out; omega)
            have hxv : rx[n]'(by have := HL4.out; omega) = (xss.getD p []).getD n 0 := by
              rw [← HXP.out]; simp [HL4.out, hnt]
            have hv := HA.out _ (List.getElem_mem (by have := HL4.out; omega : n < rx.length))
            generalize rx[n]'(by have := HL4.out; omega) = x at *
            obtain ⟨v0, v1⟩ := hv
            have HXV := Lib.hid hxv
            clear hcell2 hxv hrk1 hown hbw
            have hdn : decide ((n : Int) < 4) = true := decide_eq_true (by omega)
            go_wp2_with fail
            (try rw [hdn])
            go_loopw [3, 6] (fun v i wi => ∃ (b : Nat) (a' : Option Addr) (c' : Nat), b ≤ 4 ∧ i = .int .i64 b ∧ v = .slice a' (16 * p + 4 * n + b) c' ∧
              Own wi w.heap.size 3 1 a' (16 * p + 4 * n + b) c' (I64 (bitsT xss (16 * p + 4 * n + b))) ∧ Below w.heap.size w wi) (fun _ i _ => 4 - (intOf i).toNat)
            case atStart => exact ⟨0, a2, c2, by omega, rfl, rfl, hown2, hbw2⟩
            case round =>
              obtain ⟨k, a3, c3, hk, rfl, rfl, hown3, hbw3⟩ := hrel
              by_cases hkt : k < 4
              · have hcell : wr.cell? ⟨b, off + p, none⟩ = some (Value.slice (some ⟨b2, off2, none⟩) 4 rc) := (hbw3.cell (lt_of_cell HB.out)).trans HB.out
                have hvc : wr.cell? ⟨b2, off2 + n, none⟩ = some (.int .i64 x) := (hbw3.cell (lt_of_cell HV.out)).trans HV.out
                go_wp2_with (at_builtin; refine wpList_app1 _ (by rfl) _ _ (by rfl) w.heap.size _ _ _ _ (bitI x k) _ 1 (by rfl) (by rfl) (hown3.alloc _) ?c1 (by omega) (by have := hbw3.size; simp; omega) ?c2)
                case c1 => clear hvc hcell; (try go_simp); (try simp); exact bit_and v0 v1 hkt
                intro gg cap w1 hown1 hb1 hgrow
                have R : Hid (Own w1 w.heap.size 3 1 (some ⟨gg, 0, none⟩) (16 * p + 4 * n + (k + 1)) cap (I64 (bitsT xss (16 * p + 4 * n + (k + 1)))) ∧ Below w.heap.size w w1) := by
                  refine ⟨?_, (hbw3.alloc hbw3.size _).trans hb1⟩
                  have e := bitsT_succ xss p n k hnt hkt
                  rw [← HXV.out] at e
                  rw [show 16 * p + 4 * n + (k + 1) = 16 * p + 4 * n + k + 1 from rfl, e]
                  exact hown1
                clear hown1 hb1 hgrow hown3 hbw3 hown2 hbw2 hvc hcell
                go_wp2_with fail
                go_roundw
                case rel => exact ⟨k + 1, _, _, by omega, by go_num, rfl, R.out.1, R.out.2⟩
                case measure => simp [intOf]; omega
              · have hk4 : k = 4 := by omega
                subst hk4
                have R : Hid (Own wr w.heap.size 3 1 a3 (16 * p + 4 * (n + 1)) c3 (I64 (bitsT xss (16 * p + 4 * (n + 1)))) ∧ Below w.heap.size w wr) := ⟨hown3, hbw3⟩
                clear hown3 hbw3 hown2 hbw2
                go_wp2_with fail
                go_roundw
                case rel => exact ⟨n + 1, a3, c3, by omega, by go_num, rfl, R.out.1, R.out.2⟩
                case measure => simp [intOf]; omega
          · have hn4 : n = 4 := by omega
            subst hn4
            have R : Hid (Own wr w.heap.size 3 1 a2 (16 * (p + 1)) c2 (I64 (bitsT xss (16 * (p + 1)))) ∧ Below w.heap.size w wr) := ⟨hown2, hbw2⟩
            clear hown2 hbw2 hown hbw
            go_wp2_with fail
            go_roundw
            case rel => exact ⟨p + 1, a2, c2, by omega, by go_num, rfl, R.out.1, R.out.2⟩
            case measure => simp [intOf]; omega
      · have hp5 : p = 5 := by omega
        subst hp5
        have R : Hid (Own wr w.heap.size 3 1 a' (bitsT xss 80).length c' (I64 (bitsT xss 80)) ∧ Below w.heap.size w wr) := by
          rw [bitsT_length]; exact ⟨hown, hbw⟩
        have RL := Lib.hid (bitsT_length xss 80)
        have hdl : decide ((5 : Int) < (rs.length : Int)) = false := decide_eq_false (by omega)
        clear hown hbw hr
        go_wp2_with fail
        go_ret
        exact ⟨a', c', by rw [RL.out]; rfl, R.out.1, R.out.2⟩
end Go.Proofs.Ytfpblgbokmpmjaa
