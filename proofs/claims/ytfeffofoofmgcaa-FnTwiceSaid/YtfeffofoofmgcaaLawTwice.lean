/- The walk of the law FnTwice. -/
import Derived.Test.YtfeffofoofmgcaaUnrFacts
namespace Go.Proofs.Ytfeffofoofmgcaa
open Go.RowKit
set_option linter.unusedVariables false
set_option linter.unusedSimpArgs false

theorem repS_mem {n : Int} {s x : St} (h : x ∈ repS n [s]) : x = s := by
  simp only [repS, List.mem_flatten] at h
  obtain ⟨l, hl, hx⟩ := h
  rw [List.eq_of_mem_replicate hl] at hx
  simpa using hx
theorem twice_facts {n : Int} {s : St} (h0 : 1 ≤ n) (h8 : n ≤ 8) (hs : plain1 s) : IsUnr [⟨12, 0, 0, 0, 0, n⟩, s, ⟨13, 0, 0, 0, 0, 0⟩] (repS n [s]) true ∧ loopDepth [⟨12, 0, 0, 0, 0, n⟩, s, ⟨13, 0, 0, 0, 0, 0⟩] = 1 ∧ ((repS n [s]).length : Int) = n := by
  have hu : Ur 3 [⟨12, 0, 0, 0, 0, n⟩, s, ⟨13, 0, 0, 0, 0, 0⟩] (repS n [s]) := ur_mono (Ur.oneLoop (b := 0) h0 h8 (Ur.one hs)) (by omega)
  have hok := ur_progOk hu (by simp)
  have hlen : ((repS n [s]).length : Int) = n := by rw [repS_length]; simp; omega
  refine ⟨.inr (.inr ⟨rfl, hok, by simp, hu, by omega⟩), ?_, hlen⟩
  simp [loopDepth, hok, stepM, stepD, hs.2.1, hs.2.2]
theorem rd_three (W : World) (ad : Option Addr) (t : TypeId) (a0 a1 a2 a3 a4 a5 b0 b1 b2 b3 b4 b5 c0 c1 c2 c3 c4 c5 : Int) (had : ad = some ⟨W.heap.size, 0, none⟩) :
    RdC (W.alloc (.cells #[.int .i64 a0, .int .i64 a1, .int .i64 a2, .int .i64 a3, .int .i64 a4, .int .i64 a5, .int .i64 b0, .int .i64 b1, .int .i64 b2, .int .i64 b3, .int .i64 b4, .int .i64 b5, .int .i64 c0, .int .i64 c1, .int .i64 c2, .int .i64 c3, .int .i64 c4, .int .i64 c5] t)) ad (stCells [⟨a0, a1, a2, a3, a4, a5⟩, ⟨b0, b1, b2, b3, b4, b5⟩, ⟨c0, c1, c2, c3, c4, c5⟩]) := by
  subst had
  exact RdC.alloc W _ t
theorem unroll_three (s1 s2 s3 : St) (us : List St) (hv : IsUnr [s1, s2, s3] us true) (ad : Option Addr) (w : World) (hr : RdC w ad (stCells [s1, s2, s3])) :
    Calls Try.prog 41 #[.slice ad 3 3] w fun e w' => ∃ a c, e = .returned (.tuple #[.slice a us.length c, .bool true]) ∧ Own w' w.heap.size 38 6 a us.length c (stCells us) ∧ Below w.heap.size w w' :=
  iUnroll_any [s1, s2, s3] us true hv ad 3 w (by simp [maxLen]) (by simp) (by simp [maxLen]) hr
theorem depth_three (s1 s2 s3 : St) (ad : Option Addr) (w : World) (hr : RdC w ad (stCells [s1, s2, s3])) (h1 : loopDepth [s1, s2, s3] = 1) :
    Calls Try.prog 27 #[.slice ad 3 3] w fun e w' => e = .returned (.int .i64 1) ∧ Below w.heap.size w w' := by
  rw [← h1]
  exact iLoopDepth_any [s1, s2, s3] ad 3 w (by simp [maxLen]) hr

set_option maxRecDepth 20000 in
set_option maxHeartbeats 8000000 in
theorem walk_FnTwice (w : World) (xs : List Int) (ad : Option Addr) (c : Nat) (hm : xs.length ≤ maxLen) (hr : RdC w ad (xs.map (Value.int .u8))) (hb : ∀ x ∈ xs, 0 ≤ x ∧ x ≤ 255) :
    Calls Try.prog 14 #[.slice ad xs.length c] w fun e w' => e = .returned (.bool true) ∧ Below w.heap.size w w' := by
  unfold maxLen at hm
  by_cases hsz : xs.length ≤ 1048576
  case neg =>
    go_enter Try.func14, Try.ntmps14
    go_wp2_with (first | (go_at_call 65; go_in) | fail)
    go_ret
    exact ⟨rfl, Below.refl _ _⟩
  go_enter Try.func14, Try.ntmps14
  go_wp2_with (first | (go_at_call 65; go_in) | fail)
  refine (DrawProgram_any xs ad c w hsz hr hb).mono ?_
  rintro e w1 ⟨gp, cp, l, rfl, hp, hol, hb1⟩
  have hncp : l.length ≤ cp := hol.cap
  have hcm : cp ≤ maxLen := hol.capMax
  obtain ⟨us', hus'⟩ := hp.ur
  have hl40 := hp.len
  have hok : progOk l = true := ur_progOk (ur_mono hus' (by omega)) hl40
  obtain ⟨r2, hr2⟩ := hp.two
  have hl2 : 2 ≤ l.length := by rw [hr2]; simp
  have HOK := Lib.hid hok
  have HP := Lib.hid hp
  have HL := Lib.hid hol.rd
  have HTWO := Lib.hid hr2
  have hlM : l.length ≤ maxLen := by unfold maxLen; omega
  have z1 := hb1.size
  have ge1 := hol.ge
  have HOL := Lib.hid hol
  clear hp hol hok hr2 hus'
  go_wp2_with fail
  refine (DrawPlaces_any xs ad c _ hsz (hr.below (by (repeat (first | with_reducible exact Below.refl _ _ | (with_reducible refine bel_next ?_ ?_ (by assumption)) | (with_reducible refine Below.alloc ?_ ?_ _) | (with_reducible refine Below.drew ?_) | (with_reducible refine below_drewN ?_ _) | (with_reducible refine Below.setCell ?_ ?_ _))) <;> (first | omega | (simp; done) | (simp; omega)))) hb).mono ?_
  rintro e w2 ⟨a', c', rfl, ⟨vs, hl, hv, hown⟩, hb2⟩
  obtain ⟨b, rfl, hcell⟩ := hown.at2 (by omega)
  have p0 := hcell 0 (by omega)
  obtain ⟨x00, x01⟩ := hv vs[0] (List.getElem_mem _)
  generalize vs[0] = x0 at *
  have p1 := hcell 1 (by omega)
  obtain ⟨x10, x11⟩ := hv vs[1] (List.getElem_mem _)
  generalize vs[1] = x1 at *
  have z2 := hb2.size
  have hlb := lt_of_cell p0
  clear hl hv hcell hown

  have hkr : 0 ≤ x0 % (l.length : Int) ∧ x0 % (l.length : Int) < l.length := ⟨Int.emod_nonneg _ (by omega), Int.emod_lt_of_pos _ (by omega)⟩
  obtain ⟨kk, hkk⟩ := Int.eq_ofNat_of_zero_le hkr.1
  have hkl : kk < l.length := by omega
  obtain ⟨b0, off0, op, dst, sa, sb, sc, sn, hadr, hbl0, hx, c0, c1, c2, c3, c4, c5⟩ := (show RdC w2 (some ⟨gp, 0, none⟩) (stCells l) from HL.out.below hb2).st kk hkl
  simp only [Option.some.injEq, Addr.mk.injEq, and_true] at hadr
  obtain ⟨rfl, rfl⟩ := hadr
  simp only [Nat.zero_add] at c0 c1 c2 c3 c4 c5
  have hst := stok_at HOK.out hx

  clear hx
  have hnn : 0 ≤ x1 % 8 ∧ x1 % 8 < 8 := ⟨Int.emod_nonneg _ (by omega), Int.emod_lt_of_pos _ (by omega)⟩
  obtain ⟨nn, hne⟩ : ∃ q, q = x1 % 8 := ⟨_, rfl⟩
  rw [← hne] at hnn
  have HNE := Lib.hid hne
  have HST := Lib.hid hst
  clear hne hst
  have hT : (op = 12 ∨ op = 13) ∨ (¬ op = 12 ∧ ¬ op = 13) := by omega
  rcases hT with (rfl | rfl) | ⟨n12, n13⟩
  · skip
    have hp1 : plain1 ⟨11, 0, 3, 0, 0, 0⟩ := by first | (simp [plain1, stOk, inB]; done) | exact ⟨HST.out, n12, n13⟩
    obtain ⟨hun, hld, hln⟩ := twice_facts (n := 1 + nn) (s := ⟨11, 0, 3, 0, 0, 0⟩) (by omega) (by omega) hp1
    have HUN := Lib.hid hun
    have HLD := Lib.hid hld
    have HME := Lib.hid (fun x (hx : x ∈ repS (1 + nn) [⟨11, 0, 3, 0, 0, 0⟩]) => repS_mem hx)
    obtain ⟨us, hus⟩ : ∃ u, u = repS (1 + nn) [⟨11, 0, 3, 0, 0, 0⟩] := ⟨_, rfl⟩
    rw [← hus] at HUN HME hln
    have t1 : ((us.length : Int) == 1 + nn) = true := by simp [hln]
    have HUS := Lib.hid hus
    have hus8 : us.length ≤ 8 := by omega
    clear hun hld hus hp1 hln
    go_wp2_with fail
    try simp only [hkk]
    simp only [← HNE.out]
    go_wp2_with (first | (go_at_call 41; refine (unroll_three _ _ _ us HUN.out _ _ (rd_three _ _ _ _ _ _ _ _ _ _ _ _ _ _ _ _ _ _ _ _ _ (by simp))).mono ?_; rintro e w3 ⟨a2, e2, rfl, ho2, hb3⟩; have HO2 := Lib.hid ho2.rd; clear ho2; have z3 := hb3.size; (try simp at z3); have y3_0 : w2.heap.size < w3.heap.size := (by omega); have k3_0 := bel_keeps hb3 (b := w2.heap.size) (o := 0) (v := .int .i64 11) (by go_simp); have k3_1 := bel_keeps hb3 (b := w2.heap.size) (o := 1) (v := .int .i64 0) (by go_simp); have k3_2 := bel_keeps hb3 (b := w2.heap.size) (o := 2) (v := .int .i64 3) (by go_simp); have k3_3 := bel_keeps hb3 (b := w2.heap.size) (o := 3) (v := .int .i64 0) (by go_simp); have k3_4 := bel_keeps hb3 (b := w2.heap.size) (o := 4) (v := .int .i64 0) (by go_simp); have k3_5 := bel_keeps hb3 (b := w2.heap.size) (o := 5) (v := .int .i64 0) (by go_simp)))
    go_loopw [9] (fun i wr => ∃ k : Nat, k ≤ us.length ∧ i = .int .i64 k ∧ ∃ m, wr = w3.drewN m) (fun i _ => us.length - (intOf i).toNat)
    case atStart => exact ⟨0, Nat.zero_le _, rfl, 0, rfl⟩
    case round =>
      obtain ⟨k, hk, rfl, m, hw⟩ := hrel
      have HW := Lib.hid hw
      have kw0 : wr.cell? ⟨w2.heap.size, 0, none⟩ = some (.int .i64 11) := by rw [hw]; exact k3_0
      have kw1 : wr.cell? ⟨w2.heap.size, 1, none⟩ = some (.int .i64 0) := by rw [hw]; exact k3_1
      have kw2 : wr.cell? ⟨w2.heap.size, 2, none⟩ = some (.int .i64 3) := by rw [hw]; exact k3_2
      have kw3 : wr.cell? ⟨w2.heap.size, 3, none⟩ = some (.int .i64 0) := by rw [hw]; exact k3_3
      have kw4 : wr.cell? ⟨w2.heap.size, 4, none⟩ = some (.int .i64 0) := by rw [hw]; exact k3_4
      have kw5 : wr.cell? ⟨w2.heap.size, 5, none⟩ = some (.int .i64 0) := by rw [hw]; exact k3_5
      by_cases hlt : k < us.length
      · obtain ⟨b, off, op', dst', sa', sb', sc', sn', rfl, hbl, hx, d0, d1, d2, d3, d4, d5⟩ := (show RdC wr a2 (stCells us) from by rw [hw]; exact HO2.out.drewN m).st k hlt
        have he := HME.out _ (List.mem_of_getElem? hx)
        simp only [St.mk.injEq] at he
        obtain ⟨rfl, rfl, rfl, rfl, rfl, rfl⟩ := he
        have hi : (k : Int) < (us.length : Int) := by omega
        clear hx hw
        go_wp2_with fail
        go_quiet (fail)
        go_wp2_with fail
        go_roundw
        case rel => exact ⟨k + 1, by omega, by go_num, m + nq, by rw [HW.out, World.drewN_drewN]⟩
        case measure => simp [intOf]; omega
      · have hbw : Below w3.heap.size w3 wr := by rw [hw]; exact below_drewN (Below.refl _ _) _
        have z5 := hbw.size
        clear hw
        go_wp2_with (first | (go_at_call 27; refine (depth_three _ _ _ _ _ (rd_three _ _ _ _ _ _ _ _ _ _ _ _ _ _ _ _ _ _ _ _ _ (by simp)) HLD.out).mono ?_; rintro e w6 ⟨rfl, hb6⟩))
        go_ret
        exact ⟨rfl, (by (repeat (first | with_reducible exact Below.refl _ _ | (with_reducible refine bel_next ?_ ?_ (by assumption)) | (with_reducible refine Below.alloc ?_ ?_ _) | (with_reducible refine Below.drew ?_) | (with_reducible refine below_drewN ?_ _) | (with_reducible refine Below.setCell ?_ ?_ _))) <;> (first | omega | (simp; done) | (simp; omega)))⟩
  · skip
    have hp1 : plain1 ⟨11, 0, 3, 0, 0, 0⟩ := by first | (simp [plain1, stOk, inB]; done) | exact ⟨HST.out, n12, n13⟩
    obtain ⟨hun, hld, hln⟩ := twice_facts (n := 1 + nn) (s := ⟨11, 0, 3, 0, 0, 0⟩) (by omega) (by omega) hp1
    have HUN := Lib.hid hun
    have HLD := Lib.hid hld
    have HME := Lib.hid (fun x (hx : x ∈ repS (1 + nn) [⟨11, 0, 3, 0, 0, 0⟩]) => repS_mem hx)
    obtain ⟨us, hus⟩ : ∃ u, u = repS (1 + nn) [⟨11, 0, 3, 0, 0, 0⟩] := ⟨_, rfl⟩
    rw [← hus] at HUN HME hln
    have t1 : ((us.length : Int) == 1 + nn) = true := by simp [hln]
    have HUS := Lib.hid hus
    have hus8 : us.length ≤ 8 := by omega
    clear hun hld hus hp1 hln
    go_wp2_with fail
    try simp only [hkk]
    simp only [← HNE.out]
    go_wp2_with (first | (go_at_call 41; refine (unroll_three _ _ _ us HUN.out _ _ (rd_three _ _ _ _ _ _ _ _ _ _ _ _ _ _ _ _ _ _ _ _ _ (by simp))).mono ?_; rintro e w3 ⟨a2, e2, rfl, ho2, hb3⟩; have HO2 := Lib.hid ho2.rd; clear ho2; have z3 := hb3.size; (try simp at z3); have y3_0 : w2.heap.size < w3.heap.size := (by omega); have k3_0 := bel_keeps hb3 (b := w2.heap.size) (o := 0) (v := .int .i64 11) (by go_simp); have k3_1 := bel_keeps hb3 (b := w2.heap.size) (o := 1) (v := .int .i64 0) (by go_simp); have k3_2 := bel_keeps hb3 (b := w2.heap.size) (o := 2) (v := .int .i64 3) (by go_simp); have k3_3 := bel_keeps hb3 (b := w2.heap.size) (o := 3) (v := .int .i64 0) (by go_simp); have k3_4 := bel_keeps hb3 (b := w2.heap.size) (o := 4) (v := .int .i64 0) (by go_simp); have k3_5 := bel_keeps hb3 (b := w2.heap.size) (o := 5) (v := .int .i64 0) (by go_simp)))
    go_loopw [9] (fun i wr => ∃ k : Nat, k ≤ us.length ∧ i = .int .i64 k ∧ ∃ m, wr = w3.drewN m) (fun i _ => us.length - (intOf i).toNat)
    case atStart => exact ⟨0, Nat.zero_le _, rfl, 0, rfl⟩
    case round =>
      obtain ⟨k, hk, rfl, m, hw⟩ := hrel
      have HW := Lib.hid hw
      have kw0 : wr.cell? ⟨w2.heap.size, 0, none⟩ = some (.int .i64 11) := by rw [hw]; exact k3_0
      have kw1 : wr.cell? ⟨w2.heap.size, 1, none⟩ = some (.int .i64 0) := by rw [hw]; exact k3_1
      have kw2 : wr.cell? ⟨w2.heap.size, 2, none⟩ = some (.int .i64 3) := by rw [hw]; exact k3_2
      have kw3 : wr.cell? ⟨w2.heap.size, 3, none⟩ = some (.int .i64 0) := by rw [hw]; exact k3_3
      have kw4 : wr.cell? ⟨w2.heap.size, 4, none⟩ = some (.int .i64 0) := by rw [hw]; exact k3_4
      have kw5 : wr.cell? ⟨w2.heap.size, 5, none⟩ = some (.int .i64 0) := by rw [hw]; exact k3_5
      by_cases hlt : k < us.length
      · obtain ⟨b, off, op', dst', sa', sb', sc', sn', rfl, hbl, hx, d0, d1, d2, d3, d4, d5⟩ := (show RdC wr a2 (stCells us) from by rw [hw]; exact HO2.out.drewN m).st k hlt
        have he := HME.out _ (List.mem_of_getElem? hx)
        simp only [St.mk.injEq] at he
        obtain ⟨rfl, rfl, rfl, rfl, rfl, rfl⟩ := he
        have hi : (k : Int) < (us.length : Int) := by omega
        clear hx hw
        go_wp2_with fail
        go_quiet (fail)
        go_wp2_with fail
        go_roundw
        case rel => exact ⟨k + 1, by omega, by go_num, m + nq, by rw [HW.out, World.drewN_drewN]⟩
        case measure => simp [intOf]; omega
      · have hbw : Below w3.heap.size w3 wr := by rw [hw]; exact below_drewN (Below.refl _ _) _
        have z5 := hbw.size
        clear hw
        go_wp2_with (first | (go_at_call 27; refine (depth_three _ _ _ _ _ (rd_three _ _ _ _ _ _ _ _ _ _ _ _ _ _ _ _ _ _ _ _ _ (by simp)) HLD.out).mono ?_; rintro e w6 ⟨rfl, hb6⟩))
        go_ret
        exact ⟨rfl, (by (repeat (first | with_reducible exact Below.refl _ _ | (with_reducible refine bel_next ?_ ?_ (by assumption)) | (with_reducible refine Below.alloc ?_ ?_ _) | (with_reducible refine Below.drew ?_) | (with_reducible refine below_drewN ?_ _) | (with_reducible refine Below.setCell ?_ ?_ _))) <;> (first | omega | (simp; done) | (simp; omega)))⟩
  · have q12 : (op == 12) = false := by simp [n12]
    have q13 : (op == 13) = false := by simp [n13]
    have hp1 : plain1 ⟨op, dst, sa, sb, sc, sn⟩ := by first | (simp [plain1, stOk, inB]; done) | exact ⟨HST.out, n12, n13⟩
    obtain ⟨hun, hld, hln⟩ := twice_facts (n := 1 + nn) (s := ⟨op, dst, sa, sb, sc, sn⟩) (by omega) (by omega) hp1
    have HUN := Lib.hid hun
    have HLD := Lib.hid hld
    have HME := Lib.hid (fun x (hx : x ∈ repS (1 + nn) [⟨op, dst, sa, sb, sc, sn⟩]) => repS_mem hx)
    obtain ⟨us, hus⟩ : ∃ u, u = repS (1 + nn) [⟨op, dst, sa, sb, sc, sn⟩] := ⟨_, rfl⟩
    rw [← hus] at HUN HME hln
    have t1 : ((us.length : Int) == 1 + nn) = true := by simp [hln]
    have HUS := Lib.hid hus
    have hus8 : us.length ≤ 8 := by omega
    clear hun hld hus hp1 hln
    go_wp2_with fail
    try simp only [hkk]
    simp only [← HNE.out]
    go_wp2_with (first | (go_at_call 41; refine (unroll_three _ _ _ us HUN.out _ _ (rd_three _ _ _ _ _ _ _ _ _ _ _ _ _ _ _ _ _ _ _ _ _ (by simp))).mono ?_; rintro e w3 ⟨a2, e2, rfl, ho2, hb3⟩; have HO2 := Lib.hid ho2.rd; clear ho2; have z3 := hb3.size; (try simp at z3); have y3_0 : w2.heap.size < w3.heap.size := (by omega); have k3_0 := bel_keeps hb3 (b := w2.heap.size) (o := 0) (v := .int .i64 op) (by go_simp); have k3_1 := bel_keeps hb3 (b := w2.heap.size) (o := 1) (v := .int .i64 dst) (by go_simp); have k3_2 := bel_keeps hb3 (b := w2.heap.size) (o := 2) (v := .int .i64 sa) (by go_simp); have k3_3 := bel_keeps hb3 (b := w2.heap.size) (o := 3) (v := .int .i64 sb) (by go_simp); have k3_4 := bel_keeps hb3 (b := w2.heap.size) (o := 4) (v := .int .i64 sc) (by go_simp); have k3_5 := bel_keeps hb3 (b := w2.heap.size) (o := 5) (v := .int .i64 sn) (by go_simp)))
    go_loopw [9] (fun i wr => ∃ k : Nat, k ≤ us.length ∧ i = .int .i64 k ∧ ∃ m, wr = w3.drewN m) (fun i _ => us.length - (intOf i).toNat)
    case atStart => exact ⟨0, Nat.zero_le _, rfl, 0, rfl⟩
    case round =>
      obtain ⟨k, hk, rfl, m, hw⟩ := hrel
      have HW := Lib.hid hw
      have kw0 : wr.cell? ⟨w2.heap.size, 0, none⟩ = some (.int .i64 op) := by rw [hw]; exact k3_0
      have kw1 : wr.cell? ⟨w2.heap.size, 1, none⟩ = some (.int .i64 dst) := by rw [hw]; exact k3_1
      have kw2 : wr.cell? ⟨w2.heap.size, 2, none⟩ = some (.int .i64 sa) := by rw [hw]; exact k3_2
      have kw3 : wr.cell? ⟨w2.heap.size, 3, none⟩ = some (.int .i64 sb) := by rw [hw]; exact k3_3
      have kw4 : wr.cell? ⟨w2.heap.size, 4, none⟩ = some (.int .i64 sc) := by rw [hw]; exact k3_4
      have kw5 : wr.cell? ⟨w2.heap.size, 5, none⟩ = some (.int .i64 sn) := by rw [hw]; exact k3_5
      by_cases hlt : k < us.length
      · obtain ⟨b, off, op', dst', sa', sb', sc', sn', rfl, hbl, hx, d0, d1, d2, d3, d4, d5⟩ := (show RdC wr a2 (stCells us) from by rw [hw]; exact HO2.out.drewN m).st k hlt
        have he := HME.out _ (List.mem_of_getElem? hx)
        simp only [St.mk.injEq] at he
        obtain ⟨rfl, rfl, rfl, rfl, rfl, rfl⟩ := he
        have hi : (k : Int) < (us.length : Int) := by omega
        clear hx hw
        go_wp2_with fail
        go_quiet (fail)
        go_wp2_with fail
        go_roundw
        case rel => exact ⟨k + 1, by omega, by go_num, m + nq, by rw [HW.out, World.drewN_drewN]⟩
        case measure => simp [intOf]; omega
      · have hbw : Below w3.heap.size w3 wr := by rw [hw]; exact below_drewN (Below.refl _ _) _
        have z5 := hbw.size
        clear hw
        go_wp2_with (first | (go_at_call 27; refine (depth_three _ _ _ _ _ (rd_three _ _ _ _ _ _ _ _ _ _ _ _ _ _ _ _ _ _ _ _ _ (by simp)) HLD.out).mono ?_; rintro e w6 ⟨rfl, hb6⟩))
        go_ret
        exact ⟨rfl, (by (repeat (first | with_reducible exact Below.refl _ _ | (with_reducible refine bel_next ?_ ?_ (by assumption)) | (with_reducible refine Below.alloc ?_ ?_ _) | (with_reducible refine Below.drew ?_) | (with_reducible refine below_drewN ?_ _) | (with_reducible refine Below.setCell ?_ ?_ _))) <;> (first | omega | (simp; done) | (simp; omega)))⟩
end Go.Proofs.Ytfeffofoofmgcaa
