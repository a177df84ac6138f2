/- Simplifying, in the reference: the wire of a gate, constants, negations. -/
import Derived.Test.YtfpblgbokmpmjaaPut
import Derived.Test.YtfpblgbokmpmjaaSimpP
import Derived.Deep.QuietTactic
import Derived.BigQuiet
namespace Go.Proofs.Ytfpblgbokmpmjaa
open Go.RowKit
set_option linter.unusedVariables false
set_option linter.unusedSimpArgs false

theorem Bld.drewN {w : World} {lo bx : Nat} {gs : List Gt} {v : Value} (h : Bld w lo bx gs v) (n : Nat) : Bld (w.drewN n) lo bx gs v := h.below (below_drewN (Below.refl _ _) n)
theorem Fr.drewN {w : World} {lo bx : Nat} {gs : List Gt} {v : Value} (h : Bld w lo bx gs v) (n : Nat) : Fr bx w (w.drewN n) := Fr.below h (below_drewN (Below.refl _ _) n)
/-- One gate of a circuit under construction. -/
theorem Bld.gt {w : World} {lo bx : Nat} {gs : List Gt} {v : Value} (h : Bld w lo bx gs v) (k : Nat) (hk : k < gs.length) :
    ∃ (g cap : Nat) (kd ga gb : Int), w.cell? ⟨bx, 0, none⟩ = some (.slice (some ⟨g, 0, none⟩) gs.length cap) ∧ g < w.heap.size ∧ gs[k]? = some ⟨kd, ga, gb⟩ ∧
      w.cell? ⟨g, k * 3, none⟩ = some (.int .i64 kd) ∧ w.cell? ⟨g, k * 3 + 1, none⟩ = some (.int .i64 ga) ∧ w.cell? ⟨g, k * 3 + 2, none⟩ = some (.int .i64 gb) := by
  obtain ⟨ad, cap, hc, ho, hne⟩ := h.row
  obtain ⟨g, rfl, _, hg⟩ := ho.addr (by omega)
  obtain ⟨b, off, kd, ga, gb, e, hb, hx, c0, c1, c2⟩ := ho.rd.gt k hk
  simp only [Option.some.injEq, Addr.mk.injEq, and_true] at e
  obtain ⟨rfl, rfl⟩ := e
  simp only [Nat.zero_add] at c0 c1 c2
  exact ⟨g, cap, kd, ga, gb, hc, hg, hx, c0, c1, c2⟩
theorem valC_get {gs : List Gt} {k : Nat} {kd ga gb : Int} (h : gs[k]? = some ⟨kd, ga, gb⟩) : valC gs (k : Int) = if kd = 2 then ga else -1 := by unfold valC; simp [h]

def gtEq (s t : Gt) : Bool := s.kd == t.kd && (s.ga == t.ga && s.gb == t.gb)
theorem gtEq_iff (s t : Gt) : gtEq s t = true ↔ s = t := by
  obtain ⟨a, b, c⟩ := s; obtain ⟨a', b', c'⟩ := t
  simp [gtEq]
theorem gt_eql (w : World) (s t : Gt) : (binOp .eql 50 (.agg #[.int .i64 s.kd, .int .i64 s.ga, .int .i64 s.gb]) (.agg #[.int .i64 t.kd, .int .i64 t.ga, .int .i64 t.gb])).run Try.prog w = .ok (.bool (gtEq s t)) w := by
  unfold gtEq
  go_simp
  by_cases h1 : s.kd = t.kd <;> by_cases h2 : s.ga = t.ga <;> by_cases h3 : s.gb = t.gb <;> simp [h1, h2, h3]
theorem gt_eql_of {s t : Gt} {v : Bool} (h : gtEq s t = v) (w : World) : (binOp .eql 50 (.agg #[.int .i64 s.kd, .int .i64 s.ga, .int .i64 s.gb]) (.agg #[.int .i64 t.kd, .int .i64 t.ga, .int .i64 t.gb])).run Try.prog w = .ok (.bool v) w := by rw [gt_eql, h]

set_option maxHeartbeats 1000000 in
theorem l16Value_any (gs : List Gt) (x : Int) (v : Value) (lo bx : Nat) (w : World) (hB : Bld w lo bx gs v) (hn : gs.length ≤ 1000000) (h0 : 0 ≤ x) (h1 : x < gs.length) :
    Calls Try.prog 90 #[.pointer (some ⟨bx, 0, none⟩), .int .i64 x] w fun e w' => e = .returned (.int .i64 (valC gs x)) ∧ w = w' := by
  obtain ⟨k, rfl⟩ := Int.eq_ofNat_of_zero_le h0
  obtain ⟨g, cap, kd, ga, gb, hc, hg, hx, c0, c1, c2⟩ := hB.gt k (by omega)
  rw [valC_get hx]
  have hk : k < gs.length := by omega
  clear hB hx
  by_cases q : kd = 2
  · subst q
    rw [if_pos rfl]
    go_enter Try.func90, Try.ntmps90
    go_wp2_with fail
    go_ret
    exact ⟨rfl, rfl⟩
  · rw [if_neg q]
    have q' : (kd == 2) = false := by simpa using q
    go_enter Try.func90, Try.ntmps90
    go_wp2_with fail
    go_ret
    exact ⟨rfl, rfl⟩
def normG (kd a b : Int) : Gt := if b < a ∧ (kd = 3 ∨ kd = 4) then ⟨kd, b, a⟩ else ⟨kd, a, b⟩
set_option maxHeartbeats 2000000 in
theorem l16Gate_any (gs : List Gt) (kd a b : Int) (v : Value) (lo bx : Nat) (w : World) (hB : Bld w lo bx gs v) (hn : gs.length ≤ 999999) :
    Calls Try.prog 73 #[.pointer (some ⟨bx, 0, none⟩), .int .i64 kd, .int .i64 a, .int .i64 b] w fun e w' => e = .returned (.int .i64 (gGate gs (normG kd a b)).2) ∧ Bld w' lo bx (gGate gs (normG kd a b)).1 v ∧ Fr bx w w' ∧ Below lo w w' := by
  obtain ⟨ad, cap, hc, ho, hne⟩ := hB.row
  obtain ⟨x, y, hxy⟩ : ∃ x y, normG kd a b = ⟨kd, x, y⟩ := by unfold normG; split <;> exact ⟨_, _, rfl⟩
  have HB := Lib.hid hB
  have HC := Lib.hid hc
  have HX := Lib.hid hxy
  have hlo := hB.le
  have hlt := hB.lt
  obtain ⟨G, hG⟩ : ∃ G : Gt, G = normG kd a b := ⟨_, rfl⟩
  rw [← hG]
  have HG := Lib.hid (show G = ⟨kd, x, y⟩ from hG.trans hxy)
  clear hB ho hne hG
  obtain ⟨W, hW⟩ : ∃ W, W = w.alloc (.cells #[.int .i64 kd, .int .i64 x, .int .i64 y] 50) := ⟨_, rfl⟩
  have HW := Lib.hid hW
  have hBW : Bld W lo bx gs v := by rw [hW]; exact HB.out.al _
  have HBW := Lib.hid hBW
  have hsz : w.heap.size < W.heap.size := by rw [hW]; simp
  have b0 : W.cell? ⟨w.heap.size, 0, none⟩ = some (.int .i64 kd) := by rw [hW]; go_simp
  have b1 : W.cell? ⟨w.heap.size, 1, none⟩ = some (.int .i64 x) := by rw [hW]; go_simp
  have b2 : W.cell? ⟨w.heap.size, 2, none⟩ = some (.int .i64 y) := by rw [hW]; go_simp
  have B0 := Lib.hid b0; have B1 := Lib.hid b1; have B2 := Lib.hid b2
  have hcW : W.cell? ⟨bx, 0, none⟩ = some (.slice ad gs.length cap) := by rw [hW]; exact (cell_blk (Below.heap_alloc _ _ _ hlt) 0).trans hc
  have HCW := Lib.hid hcW
  have key : ∀ (wr : World) (k : Nat), k < gs.length → (∃ m, wr = W.drewN m) → True := fun _ _ _ _ => trivial
  clear hBW b0 b1 b2 hcW hW key
  have hab : (b < a ∧ kd = 3 ∧ x = b ∧ y = a) ∨ (b < a ∧ kd = 4 ∧ x = b ∧ y = a) ∨ (b < a ∧ (kd == 3) = false ∧ (kd == 4) = false ∧ x = a ∧ y = b) ∨ (decide (b < a) = false ∧ x = a ∧ y = b) := by
    unfold normG at hxy
    by_cases h1 : b < a
    · by_cases h3 : kd = 3
      · rw [if_pos ⟨h1, .inl h3⟩] at hxy; simp at hxy; exact .inl ⟨h1, h3, hxy.1.symm, hxy.2.symm⟩
      · by_cases h4 : kd = 4
        · rw [if_pos ⟨h1, .inr h4⟩] at hxy; simp at hxy; exact .inr (.inl ⟨h1, h4, hxy.1.symm, hxy.2.symm⟩)
        · rw [if_neg (fun h => by rcases h.2 with h | h <;> contradiction)] at hxy; simp at hxy; exact .inr (.inr (.inl ⟨h1, by simpa using h3, by simpa using h4, hxy.1.symm, hxy.2.symm⟩))
    · rw [if_neg (fun h => h1 h.1)] at hxy; simp at hxy; exact .inr (.inr (.inr ⟨by simpa using h1, hxy.1.symm, hxy.2.symm⟩))
  clear hxy hc
  rcases hab with ⟨h1, rfl, rfl, rfl⟩ | ⟨h1, rfl, rfl, rfl⟩ | ⟨h1, h3, h4, rfl, rfl⟩ | ⟨h1, rfl, rfl⟩
  all_goals
    go_enter Try.func73, Try.ntmps73
    go_wp2_with fail
    rw [← HW.out]
  all_goals
    go_loopw [10] (fun i wr => ∃ k : Nat, k ≤ gs.length ∧ i = .int .i64 k ∧ (∀ j, j < k → gs[j]? ≠ some G) ∧ ∃ m, wr = W.drewN m) (fun i _ => gs.length - (intOf i).toNat)
  all_goals first
    | case atStart => exact ⟨0, Nat.zero_le _, rfl, (fun j hj => by omega), 0, rfl⟩
    | case round =>
      obtain ⟨k, hk, rfl, hno, m, hw⟩ := hrel
      have HNO := Lib.hid hno
      have HWR := Lib.hid hw
      have hBr : Bld wr lo bx gs v := by rw [hw]; exact HBW.out.drewN m
      have hcr : wr.cell? ⟨bx, 0, none⟩ = some (.slice ad gs.length cap) := by rw [hw]; exact HCW.out
      have hb0 := (show wr.cell? ⟨w.heap.size, 0, none⟩ = W.cell? ⟨w.heap.size, 0, none⟩ from (by rw [hw]; rfl)).trans B0.out
      have hb1 := (show wr.cell? ⟨w.heap.size, 1, none⟩ = W.cell? ⟨w.heap.size, 1, none⟩ from (by rw [hw]; rfl)).trans B1.out
      have hb2 := (show wr.cell? ⟨w.heap.size, 2, none⟩ = W.cell? ⟨w.heap.size, 2, none⟩ from (by rw [hw]; rfl)).trans B2.out
      clear hw hno
      by_cases hlt' : k < gs.length
      · obtain ⟨g, cap', kd', ga, gb, hc', hg, hx, c0, c1, c2⟩ := hBr.gt k hlt'
        have HXX := Lib.hid hx
        rw [hcr] at hc'
        simp only [Option.some.injEq, Value.slice.injEq, true_and] at hc'
        obtain ⟨e1, e2⟩ := hc'
        subst e1
        clear e2 hx hBr
        have hi : (k : Int) < (gs.length : Int) := by omega
        cases q : gtEq ⟨kd', ga, gb⟩ G
        all_goals
          have HQ := Lib.hid q
          rw [HG.out] at q
          have HE := fun W => gt_eql_of q W
          simp only at HE
          clear q
          go_wp2_with fail
          go_quiet (fail)
          go_wp2_with fail
        · go_roundw
          case rel =>
            refine ⟨k + 1, by omega, by go_num, fun j hj e => ?_, m + nq, by rw [HWR.out, World.drewN_drewN]⟩
            by_cases hjk : j < k
            · exact HNO.out j hjk e
            · obtain rfl : j = k := by omega
              rw [HXX.out] at e
              have := (gtEq_iff _ _).2 (Option.some.inj e)
              rw [HQ.out] at this
              cases this
          case measure => simp [intOf]; omega
        · have hf : gGate gs G = (gs, (k : Int)) := gGate_found (by rw [HXX.out, (gtEq_iff _ _).1 HQ.out]) HNO.out
          rw [hf]
          go_ret
          have hBr : Bld wr lo bx gs v := by rw [HWR.out]; exact HBW.out.drewN m
          have hF : Fr bx w wr := by rw [HWR.out, HW.out]; exact (Fr.al HB.out _).trans (Fr.drewN (HB.out.al _) m)
          have hL : Below lo w wr := by rw [HWR.out, HW.out]; exact below_drewN ((Below.refl _ _).alloc hlo _) m
          exact ⟨rfl, hBr.drewN nq, hF.trans (Fr.drewN hBr nq), below_drewN hL nq⟩
      · have hnm : G ∉ gs := fun hm => by
          obtain ⟨j, hj⟩ := List.getElem?_of_mem hm
          have hjl : j < gs.length := (List.getElem?_eq_some_iff.1 hj).1
          exact HNO.out j (by omega) hj
        have hf : gGate gs G = (gs ++ [G], (gs.length : Int)) := gGate_new hnm
        have HF := Lib.hid hf
        have HBr := Lib.hid hBr
        have hge : ¬ (k : Int) < (gs.length : Int) := by omega
        clear hf hnm hBr
        go_wp2_with (go_at_call 91; refine (l14Put_any gs _ _ _ v lo bx _ HBr.out (by omega)).mono ?_; rintro e w2 ⟨rfl, hB2, hF2, hL2⟩)
        go_ret
        have hF : Fr bx w wr := by rw [HWR.out, HW.out]; exact (Fr.al HB.out _).trans (Fr.drewN (HB.out.al _) m)
        have hL : Below lo w wr := by rw [HWR.out, HW.out]; exact below_drewN ((Below.refl _ _).alloc hlo _) m
        exact ⟨ret_int (by rw [HF.out]), by rw [HF.out, HG.out]; exact hB2, hF.trans hF2, hL.trans hL2⟩
theorem normG_one {kd a b : Int} (h3 : kd ≠ 3) (h4 : kd ≠ 4) : normG kd a b = ⟨kd, a, b⟩ := by unfold normG; rw [if_neg (fun h => by rcases h.2 with h | h <;> contradiction)]
theorem normG_two {kd a b : Int} (h : kd = 3 ∨ kd = 4) : normG kd a b = ⟨kd, min a b, max a b⟩ := by
  unfold normG
  by_cases hab : b < a
  · rw [if_pos ⟨hab, h⟩, Int.min_eq_right (by omega), Int.max_eq_left (by omega)]
  · rw [if_neg (fun h => hab h.1), Int.min_eq_left (by omega), Int.max_eq_right (by omega)]
theorem gNot_get {gs : List Gt} {k : Nat} {g : Gt} (h : gs[k]? = some g) : gNot gs (k : Int) = if g.kd = 2 then gGate gs ⟨2, 1 - g.ga, 0⟩ else if g.kd = 5 then (gs, g.ga) else gGate gs ⟨5, (k : Int), 0⟩ := by unfold gNot; simp [h]
set_option maxHeartbeats 2000000 in
theorem l16Not_any (gs : List Gt) (x : Int) (v : Value) (lo bx : Nat) (w : World) (hB : Bld w lo bx gs v) (hok : gtsOk 0 gs = true) (hn : gs.length ≤ 999999) (h0 : 0 ≤ x) (h1 : x < gs.length) :
    Calls Try.prog 72 #[.pointer (some ⟨bx, 0, none⟩), .int .i64 x] w fun e w' => e = .returned (.int .i64 (gNot gs x).2) ∧ Bld w' lo bx (gNot gs x).1 v ∧ Fr bx w w' ∧ Below lo w w' := by
  obtain ⟨k, rfl⟩ := Int.eq_ofNat_of_zero_le h0
  obtain ⟨g, cap, kd, ga, gb, hc, hg, hx, c0, c1, c2⟩ := hB.gt k (by omega)
  have hgk := gate_cases (gtsOk_get hok hx)
  simp only at hgk
  have HB := Lib.hid hB
  have HX := Lib.hid hx
  have hk : k < gs.length := by omega
  have hlo := hB.le
  clear hB hx hok
  have HN := Lib.hid (gNot_get HX.out)
  by_cases q : kd = 2
  · subst q
    have ha : 0 ≤ ga ∧ ga ≤ 1 := by omega
    have HF : Hid (gNot gs (k : Int) = gGate gs (normG 2 (1 - ga) 0)) := by show _ = _; rw [HN.out, normG_one (by decide) (by decide)]; simp
    clear hgk HN
    go_enter Try.func72, Try.ntmps72
    go_wp2_with (go_at_call 73; refine (l16Gate_any gs _ _ _ v lo bx _ HB.out hn).mono ?_; rintro e w2 ⟨rfl, hB2, hF2, hL2⟩)
    go_ret
    exact ⟨ret_int (by rw [HF.out]), by rw [HF.out]; exact hB2, hF2, hL2⟩
  · have q' : (kd == 2) = false := by simpa using q
    by_cases q5 : kd = 5
    · subst q5
      have HF : Hid (gNot gs (k : Int) = (gs, ga)) := by show _ = _; rw [HN.out]; simp
      clear hgk HN
      go_enter Try.func72, Try.ntmps72
      go_wp2_with fail
      go_ret
      exact ⟨ret_int (by rw [HF.out]), by rw [HF.out]; exact HB.out, Fr.refl _ _, Below.refl _ _⟩
    · have q5' : (kd == 5) = false := by simpa using q5
      have HF : Hid (gNot gs (k : Int) = gGate gs (normG 5 (k : Int) 0)) := by show _ = _; rw [HN.out, normG_one (by decide) (by decide)]; simp [q, q5]
      clear hgk HN
      go_enter Try.func72, Try.ntmps72
      go_wp2_with (go_at_call 73; refine (l16Gate_any gs _ _ _ v lo bx _ HB.out hn).mono ?_; rintro e w2 ⟨rfl, hB2, hF2, hL2⟩)
      go_ret
      exact ⟨ret_int (by rw [HF.out]), by rw [HF.out]; exact hB2, hF2, hL2⟩
set_option maxHeartbeats 4000000 in
theorem l16Xor_any (gs : List Gt) (a b : Int) (v : Value) (lo bx : Nat) (w : World) (hB : Bld w lo bx gs v) (hok : gtsOk 0 gs = true) (hn : gs.length ≤ 999999) (h0 : 0 ≤ a) (h1 : a < gs.length) (h2 : 0 ≤ b) (h3 : b < gs.length) :
    Calls Try.prog 70 #[.pointer (some ⟨bx, 0, none⟩), .int .i64 a, .int .i64 b] w fun e w' => e = .returned (.int .i64 (gXor gs a b).2) ∧ Bld w' lo bx (gXor gs a b).1 v ∧ Fr bx w w' ∧ Below lo w w' := by
  have va := valC_at hok h0 h1
  have vb := valC_at hok h2 h3
  have hva : valC gs a = 0 ∨ valC gs a = 1 ∨ valC gs a = -1 := by rcases va with h | h; · exact .inr (.inr h)
                                                                  · omega
  have hvb : valC gs b = 0 ∨ valC gs b = 1 ∨ valC gs b = -1 := by rcases vb with h | h; · exact .inr (.inr h)
                                                                  · omega
  have HB := Lib.hid hB
  have HOK := Lib.hid hok
  have hlo := hB.le
  clear hB hok va vb
  by_cases e : a = b
  · subst e
    have HF : Hid (gXor gs a a = gGate gs (normG 2 0 0)) := by show _ = _; unfold gXor; rw [if_pos rfl, normG_one (by decide) (by decide)]
    go_enter Try.func70, Try.ntmps70
    go_wp2_with (first | (go_at_call 90; first | ((with_reducible refine (l16Value_any gs a v lo bx _ HB.out (by omega) h0 h1).mono ?_); rintro e _ ⟨rfl, rfl⟩; rw [HA.out]) | ((with_reducible refine (l16Value_any gs b v lo bx _ HB.out (by omega) h2 h3).mono ?_); rintro e _ ⟨rfl, rfl⟩; rw [HV.out])) | (go_at_call 73; refine (l16Gate_any gs _ _ _ v lo bx _ HB.out hn).mono ?_; rintro e w2 ⟨rfl, hB2, hF2, hL2⟩) | (go_at_call 72; first | ((with_reducible refine (l16Not_any gs b v lo bx _ HB.out HOK.out hn h2 h3).mono ?_); rintro e w2 ⟨rfl, hB2, hF2, hL2⟩) | ((with_reducible refine (l16Not_any gs a v lo bx _ HB.out HOK.out hn h0 h1).mono ?_); rintro e w2 ⟨rfl, hB2, hF2, hL2⟩)))
    go_ret
    exact ⟨ret_int (by rw [HF.out]), by rw [HF.out]; exact hB2, hF2, hL2⟩
  · have e' : (a == b) = false := by simpa using e
    have HE := Lib.hid e
    clear e
    rcases hva with ha | ha | ha
    · have HA := Lib.hid ha
      clear ha hvb
      have HF : Hid (gXor gs a b = (gs, b)) := by show _ = _; unfold gXor; rw [if_neg HE.out, if_pos HA.out]
      go_enter Try.func70, Try.ntmps70
      go_wp2_with (first | (go_at_call 90; first | ((with_reducible refine (l16Value_any gs a v lo bx _ HB.out (by omega) h0 h1).mono ?_); rintro e _ ⟨rfl, rfl⟩; rw [HA.out]) | ((with_reducible refine (l16Value_any gs b v lo bx _ HB.out (by omega) h2 h3).mono ?_); rintro e _ ⟨rfl, rfl⟩; rw [HV.out])) | (go_at_call 73; refine (l16Gate_any gs _ _ _ v lo bx _ HB.out hn).mono ?_; rintro e w2 ⟨rfl, hB2, hF2, hL2⟩) | (go_at_call 72; first | ((with_reducible refine (l16Not_any gs b v lo bx _ HB.out HOK.out hn h2 h3).mono ?_); rintro e w2 ⟨rfl, hB2, hF2, hL2⟩) | ((with_reducible refine (l16Not_any gs a v lo bx _ HB.out HOK.out hn h0 h1).mono ?_); rintro e w2 ⟨rfl, hB2, hF2, hL2⟩)))
      go_ret
      exact ⟨ret_int (by rw [HF.out]), by rw [HF.out]; exact HB.out, Fr.refl _ _, Below.refl _ _⟩
    · have HA := Lib.hid ha
      clear ha hvb
      have HF : Hid (gXor gs a b = gNot gs b) := by show _ = _; unfold gXor; rw [if_neg HE.out, if_neg (by rw [HA.out]; decide), if_pos HA.out]
      go_enter Try.func70, Try.ntmps70
      go_wp2_with (first | (go_at_call 90; first | ((with_reducible refine (l16Value_any gs a v lo bx _ HB.out (by omega) h0 h1).mono ?_); rintro e _ ⟨rfl, rfl⟩; rw [HA.out]) | ((with_reducible refine (l16Value_any gs b v lo bx _ HB.out (by omega) h2 h3).mono ?_); rintro e _ ⟨rfl, rfl⟩; rw [HV.out])) | (go_at_call 73; refine (l16Gate_any gs _ _ _ v lo bx _ HB.out hn).mono ?_; rintro e w2 ⟨rfl, hB2, hF2, hL2⟩) | (go_at_call 72; first | ((with_reducible refine (l16Not_any gs b v lo bx _ HB.out HOK.out hn h2 h3).mono ?_); rintro e w2 ⟨rfl, hB2, hF2, hL2⟩) | ((with_reducible refine (l16Not_any gs a v lo bx _ HB.out HOK.out hn h0 h1).mono ?_); rintro e w2 ⟨rfl, hB2, hF2, hL2⟩)))
      go_ret
      exact ⟨ret_int (by rw [HF.out]), by rw [HF.out]; exact hB2, hF2, hL2⟩
    · have HA := Lib.hid ha
      clear ha
      rcases hvb with hb | hb | hb
      · have HV := Lib.hid hb
        clear hb
        have HF : Hid (gXor gs a b = (gs, a)) := by show _ = _; unfold gXor; rw [if_neg HE.out, if_neg (by rw [HA.out]; decide), if_neg (by rw [HA.out]; decide), if_pos HV.out]
        go_enter Try.func70, Try.ntmps70
        go_wp2_with (first | (go_at_call 90; first | ((with_reducible refine (l16Value_any gs a v lo bx _ HB.out (by omega) h0 h1).mono ?_); rintro e _ ⟨rfl, rfl⟩; rw [HA.out]) | ((with_reducible refine (l16Value_any gs b v lo bx _ HB.out (by omega) h2 h3).mono ?_); rintro e _ ⟨rfl, rfl⟩; rw [HV.out])) | (go_at_call 73; refine (l16Gate_any gs _ _ _ v lo bx _ HB.out hn).mono ?_; rintro e w2 ⟨rfl, hB2, hF2, hL2⟩) | (go_at_call 72; first | ((with_reducible refine (l16Not_any gs b v lo bx _ HB.out HOK.out hn h2 h3).mono ?_); rintro e w2 ⟨rfl, hB2, hF2, hL2⟩) | ((with_reducible refine (l16Not_any gs a v lo bx _ HB.out HOK.out hn h0 h1).mono ?_); rintro e w2 ⟨rfl, hB2, hF2, hL2⟩)))
        go_ret
        exact ⟨ret_int (by rw [HF.out]), by rw [HF.out]; exact HB.out, Fr.refl _ _, Below.refl _ _⟩
      · have HV := Lib.hid hb
        clear hb
        have HF : Hid (gXor gs a b = gNot gs a) := by show _ = _; unfold gXor; rw [if_neg HE.out, if_neg (by rw [HA.out]; decide), if_neg (by rw [HA.out]; decide), if_neg (by rw [HV.out]; decide), if_pos HV.out]
        go_enter Try.func70, Try.ntmps70
        go_wp2_with (first | (go_at_call 90; first | ((with_reducible refine (l16Value_any gs a v lo bx _ HB.out (by omega) h0 h1).mono ?_); rintro e _ ⟨rfl, rfl⟩; rw [HA.out]) | ((with_reducible refine (l16Value_any gs b v lo bx _ HB.out (by omega) h2 h3).mono ?_); rintro e _ ⟨rfl, rfl⟩; rw [HV.out])) | (go_at_call 73; refine (l16Gate_any gs _ _ _ v lo bx _ HB.out hn).mono ?_; rintro e w2 ⟨rfl, hB2, hF2, hL2⟩) | (go_at_call 72; first | ((with_reducible refine (l16Not_any gs b v lo bx _ HB.out HOK.out hn h2 h3).mono ?_); rintro e w2 ⟨rfl, hB2, hF2, hL2⟩) | ((with_reducible refine (l16Not_any gs a v lo bx _ HB.out HOK.out hn h0 h1).mono ?_); rintro e w2 ⟨rfl, hB2, hF2, hL2⟩)))
        go_ret
        exact ⟨ret_int (by rw [HF.out]), by rw [HF.out]; exact hB2, hF2, hL2⟩
      · have HV := Lib.hid hb
        clear hb
        have HF : Hid (gXor gs a b = gGate gs (normG 3 a b)) := by show _ = _; unfold gXor; rw [if_neg HE.out, if_neg (by rw [HA.out]; decide), if_neg (by rw [HA.out]; decide), if_neg (by rw [HV.out]; decide), if_neg (by rw [HV.out]; decide), normG_two (by decide)]
        go_enter Try.func70, Try.ntmps70
        go_wp2_with (first | (go_at_call 90; first | ((with_reducible refine (l16Value_any gs a v lo bx _ HB.out (by omega) h0 h1).mono ?_); rintro e _ ⟨rfl, rfl⟩; rw [HA.out]) | ((with_reducible refine (l16Value_any gs b v lo bx _ HB.out (by omega) h2 h3).mono ?_); rintro e _ ⟨rfl, rfl⟩; rw [HV.out])) | (go_at_call 73; refine (l16Gate_any gs _ _ _ v lo bx _ HB.out hn).mono ?_; rintro e w2 ⟨rfl, hB2, hF2, hL2⟩) | (go_at_call 72; first | ((with_reducible refine (l16Not_any gs b v lo bx _ HB.out HOK.out hn h2 h3).mono ?_); rintro e w2 ⟨rfl, hB2, hF2, hL2⟩) | ((with_reducible refine (l16Not_any gs a v lo bx _ HB.out HOK.out hn h0 h1).mono ?_); rintro e w2 ⟨rfl, hB2, hF2, hL2⟩)))
        go_ret
        exact ⟨ret_int (by rw [HF.out]), by rw [HF.out]; exact hB2, hF2, hL2⟩
set_option maxHeartbeats 4000000 in
theorem l16And_any (gs : List Gt) (a b : Int) (v : Value) (lo bx : Nat) (w : World) (hB : Bld w lo bx gs v) (hok : gtsOk 0 gs = true) (hn : gs.length ≤ 999999) (h0 : 0 ≤ a) (h1 : a < gs.length) (h2 : 0 ≤ b) (h3 : b < gs.length) :
    Calls Try.prog 71 #[.pointer (some ⟨bx, 0, none⟩), .int .i64 a, .int .i64 b] w fun e w' => e = .returned (.int .i64 (gAnd gs a b).2) ∧ Bld w' lo bx (gAnd gs a b).1 v ∧ Fr bx w w' ∧ Below lo w w' := by
  have va := valC_at hok h0 h1
  have vb := valC_at hok h2 h3
  have hva : valC gs a = 0 ∨ valC gs a = 1 ∨ valC gs a = -1 := by rcases va with h | h; · exact .inr (.inr h)
                                                                  · omega
  have hvb : valC gs b = 0 ∨ valC gs b = 1 ∨ valC gs b = -1 := by rcases vb with h | h; · exact .inr (.inr h)
                                                                  · omega
  have HB := Lib.hid hB
  have HOK := Lib.hid hok
  have hlo := hB.le
  clear hB hok va vb
  by_cases e : a = b
  · subst e
    have HF : Hid (gAnd gs a a = (gs, a)) := by show _ = _; unfold gAnd; rw [if_pos rfl]
    go_enter Try.func71, Try.ntmps71
    go_wp2_with (first | (go_at_call 90; first | ((with_reducible refine (l16Value_any gs a v lo bx _ HB.out (by omega) h0 h1).mono ?_); rintro e _ ⟨rfl, rfl⟩; rw [HA.out]) | ((with_reducible refine (l16Value_any gs b v lo bx _ HB.out (by omega) h2 h3).mono ?_); rintro e _ ⟨rfl, rfl⟩; rw [HV.out])) | (go_at_call 73; refine (l16Gate_any gs _ _ _ v lo bx _ HB.out hn).mono ?_; rintro e w2 ⟨rfl, hB2, hF2, hL2⟩))
    go_ret
    exact ⟨ret_int (by rw [HF.out]), by rw [HF.out]; exact HB.out, Fr.refl _ _, Below.refl _ _⟩
  · have e' : (a == b) = false := by simpa using e
    have HE := Lib.hid e
    clear e
    rcases hva with ha | ha | ha
    · have HA := Lib.hid ha
      clear ha hvb
      have HF : Hid (gAnd gs a b = gGate gs (normG 2 0 0)) := by show _ = _; unfold gAnd; rw [if_neg HE.out, if_pos HA.out, normG_one (by decide) (by decide)]
      go_enter Try.func71, Try.ntmps71
      go_wp2_with (first | (go_at_call 90; first | ((with_reducible refine (l16Value_any gs a v lo bx _ HB.out (by omega) h0 h1).mono ?_); rintro e _ ⟨rfl, rfl⟩; rw [HA.out]) | ((with_reducible refine (l16Value_any gs b v lo bx _ HB.out (by omega) h2 h3).mono ?_); rintro e _ ⟨rfl, rfl⟩; rw [HV.out])) | (go_at_call 73; refine (l16Gate_any gs _ _ _ v lo bx _ HB.out hn).mono ?_; rintro e w2 ⟨rfl, hB2, hF2, hL2⟩))
      go_ret
      exact ⟨ret_int (by rw [HF.out]), by rw [HF.out]; exact hB2, hF2, hL2⟩
    · have HA := Lib.hid ha
      clear ha hvb
      have HF : Hid (gAnd gs a b = (gs, b)) := by show _ = _; unfold gAnd; rw [if_neg HE.out, if_neg (by rw [HA.out]; decide), if_pos HA.out]
      go_enter Try.func71, Try.ntmps71
      go_wp2_with (first | (go_at_call 90; first | ((with_reducible refine (l16Value_any gs a v lo bx _ HB.out (by omega) h0 h1).mono ?_); rintro e _ ⟨rfl, rfl⟩; rw [HA.out]) | ((with_reducible refine (l16Value_any gs b v lo bx _ HB.out (by omega) h2 h3).mono ?_); rintro e _ ⟨rfl, rfl⟩; rw [HV.out])) | (go_at_call 73; refine (l16Gate_any gs _ _ _ v lo bx _ HB.out hn).mono ?_; rintro e w2 ⟨rfl, hB2, hF2, hL2⟩))
      go_ret
      exact ⟨ret_int (by rw [HF.out]), by rw [HF.out]; exact HB.out, Fr.refl _ _, Below.refl _ _⟩
    · have HA := Lib.hid ha
      clear ha
      rcases hvb with hb | hb | hb
      · have HV := Lib.hid hb
        clear hb
        have HF : Hid (gAnd gs a b = gGate gs (normG 2 0 0)) := by show _ = _; unfold gAnd; rw [if_neg HE.out, if_neg (by rw [HA.out]; decide), if_neg (by rw [HA.out]; decide), if_pos HV.out, normG_one (by decide) (by decide)]
        go_enter Try.func71, Try.ntmps71
        go_wp2_with (first | (go_at_call 90; first | ((with_reducible refine (l16Value_any gs a v lo bx _ HB.out (by omega) h0 h1).mono ?_); rintro e _ ⟨rfl, rfl⟩; rw [HA.out]) | ((with_reducible refine (l16Value_any gs b v lo bx _ HB.out (by omega) h2 h3).mono ?_); rintro e _ ⟨rfl, rfl⟩; rw [HV.out])) | (go_at_call 73; refine (l16Gate_any gs _ _ _ v lo bx _ HB.out hn).mono ?_; rintro e w2 ⟨rfl, hB2, hF2, hL2⟩))
        go_ret
        exact ⟨ret_int (by rw [HF.out]), by rw [HF.out]; exact hB2, hF2, hL2⟩
      · have HV := Lib.hid hb
        clear hb
        have HF : Hid (gAnd gs a b = (gs, a)) := by show _ = _; unfold gAnd; rw [if_neg HE.out, if_neg (by rw [HA.out]; decide), if_neg (by rw [HA.out]; decide), if_neg (by rw [HV.out]; decide), if_pos HV.out]
        go_enter Try.func71, Try.ntmps71
        go_wp2_with (first | (go_at_call 90; first | ((with_reducible refine (l16Value_any gs a v lo bx _ HB.out (by omega) h0 h1).mono ?_); rintro e _ ⟨rfl, rfl⟩; rw [HA.out]) | ((with_reducible refine (l16Value_any gs b v lo bx _ HB.out (by omega) h2 h3).mono ?_); rintro e _ ⟨rfl, rfl⟩; rw [HV.out])) | (go_at_call 73; refine (l16Gate_any gs _ _ _ v lo bx _ HB.out hn).mono ?_; rintro e w2 ⟨rfl, hB2, hF2, hL2⟩))
        go_ret
        exact ⟨ret_int (by rw [HF.out]), by rw [HF.out]; exact HB.out, Fr.refl _ _, Below.refl _ _⟩
      · have HV := Lib.hid hb
        clear hb
        have HF : Hid (gAnd gs a b = gGate gs (normG 4 a b)) := by show _ = _; unfold gAnd; rw [if_neg HE.out, if_neg (by rw [HA.out]; decide), if_neg (by rw [HA.out]; decide), if_neg (by rw [HV.out]; decide), if_neg (by rw [HV.out]; decide), normG_two (by decide)]
        go_enter Try.func71, Try.ntmps71
        go_wp2_with (first | (go_at_call 90; first | ((with_reducible refine (l16Value_any gs a v lo bx _ HB.out (by omega) h0 h1).mono ?_); rintro e _ ⟨rfl, rfl⟩; rw [HA.out]) | ((with_reducible refine (l16Value_any gs b v lo bx _ HB.out (by omega) h2 h3).mono ?_); rintro e _ ⟨rfl, rfl⟩; rw [HV.out])) | (go_at_call 73; refine (l16Gate_any gs _ _ _ v lo bx _ HB.out hn).mono ?_; rintro e w2 ⟨rfl, hB2, hF2, hL2⟩))
        go_ret
        exact ⟨ret_int (by rw [HF.out]), by rw [HF.out]; exact hB2, hF2, hL2⟩
end Go.Proofs.Ytfpblgbokmpmjaa
