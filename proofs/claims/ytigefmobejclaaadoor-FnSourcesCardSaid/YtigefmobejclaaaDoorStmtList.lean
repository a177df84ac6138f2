/- The laws' helpers over lists of the struct Stmt. -/
import Derived.Test.YtigefmobejclaaaDoorSts
import Derived.Test.YtigefmobejclaaaDoorQuiet
import Derived.Test.YtigefmobejclaaaDoorList
namespace Go.Proofs.YtigefmobejclaaaDoor
open Go.RowKit

theorem st_set (ys : List St) (k : Nat) (s : St) : (((((((stCells ys).set (k * 6) (.int .i64 s.op)).set (k * 6 + 1) (.int .i64 s.dst)).set (k * 6 + 2) (.int .i64 s.a)).set (k * 6 + 3) (.int .i64 s.b)).set (k * 6 + 4) (.int .i64 s.c)).set (k * 6 + 5) (.int .i64 s.n)) = stCells (ys.set k s) := by
  induction ys generalizing k with
  | nil => simp [stCells]
  | cons y r ih =>
    rw [stCells_cons]
    cases k with
    | zero => simp [St.cells, stCells_cons]
    | succ k =>
      have e : ∀ i (l : List Value) v, (y.cells ++ l).set ((k + 1) * 6 + i) v = y.cells ++ l.set (k * 6 + i) v := by
        intro i l v
        have hy : y.cells.length = 6 := rfl
        rw [List.set_append, if_neg (by omega)]
        congr 2; omega
      have e0 := fun l v => e 0 l v
      simp only [Nat.add_zero] at e0
      rw [e0, e, e, e, e, e, ih k, List.set_cons_succ, stCells_cons]

theorem info_st : (Tryd.prog.info? 26).map (fun i => (i.zero, i.size, i.bytes)) = some (some (.agg #[.int .i64 0, .int .i64 0, .int .i64 0, .int .i64 0, .int .i64 0, .int .i64 0]), 6, 48) := by kernel_rfl
def zero_st : St := ⟨0, 0, 0, 0, 0, 0⟩
theorem st_zeros (n : Nat) : stCells (List.replicate n zero_st) = List.replicate (n * 6) (.int .i64 0) := by
  induction n with
  | zero => rfl
  | succ n ih => rw [List.replicate_succ, stCells_cons, ih, show (n + 1) * 6 = 6 + n * 6 from by omega, ← List.replicate_append_replicate]; rfl
theorem st_made (n : Nat) : (madeCells #[Value.int .i64 0, Value.int .i64 0, Value.int .i64 0, Value.int .i64 0, Value.int .i64 0, Value.int .i64 0] (n * 6)).toList = stCells (List.replicate n zero_st) := by
  rw [st_zeros]
  refine List.ext_getElem (by simp [madeCells]) fun i h1 h2 => ?_
  have h : i % 6 < 6 := Nat.mod_lt _ (by omega)
  simp only [madeCells, List.size_toArray, List.length_cons, List.length_nil, Array.toList_map, Array.toList_range, List.getElem_map, List.getElem_range, List.getElem_replicate]
  match i % 6, h with
  
  | 0, _ => rfl 
  | 1, _ => rfl 
  | 2, _ => rfl 
  | 3, _ => rfl 
  | 4, _ => rfl 
  | 5, _ => rfl

theorem own_markS {w : World} {lo e size g n c p : Nat} {k q : Int} {cs : List Value} (h : Own w lo e size (some ⟨g, 0, none⟩) n c (I64 (seqI k p) ++ cs.drop p)) (hp : p < cs.length) (hq : q = k + p) :
    Own (w.setCell ⟨g, p, none⟩ (.int .i64 q)) lo e size (some ⟨g, 0, none⟩) n c (I64 (seqI k (p + 1)) ++ cs.drop (p + 1)) := by
  subst hq
  rw [← mark_step hp]
  exact h.put p _

set_option maxHeartbeats 1000000 in
theorem toStmt_any (s : St) (w : World) :
    Calls Tryd.prog 9 #[stV s] w fun e w' => e = .returned (stV s) ∧ Below w.heap.size w w' := by
  obtain ⟨op, dst, a, b, c, n⟩ := s
  unfold stV
  go_enter Tryd.func9, Tryd.ntmps9
  go_wp2_with fail
  exact bodyPost_ret (v := .agg #[.int .i64 op, .int .i64 dst, .int .i64 a, .int .i64 b, .int .i64 c, .int .i64 n]) (by simp [results, Tryd.results9, go_sem]) rfl ⟨rfl, (by (repeat (first | with_reducible exact Below.refl _ _ | (with_reducible refine bel_next ?_ ?_ (by assumption)) | (with_reducible refine Below.alloc ?_ ?_ _) | (with_reducible refine Below.drew ?_) | (with_reducible refine below_drewN ?_ _) | (with_reducible refine Below.setCell ?_ ?_ _))) <;> (first | omega | (simp; done) | (simp; omega)))⟩

set_option maxHeartbeats 1000000 in
theorem eqStmt_same (s : St) (w : World) :
    Calls Tryd.prog 18 #[stV s, stV s] w fun e w' => e = .returned (.bool true) ∧ Below w.heap.size w w' := by
  obtain ⟨op, dst, a, b, c, n⟩ := s
  unfold stV
  go_enter Tryd.func18, Tryd.ntmps18
  go_wp2_with fail
  go_ret
  exact ⟨rfl, (by (repeat (first | with_reducible exact Below.refl _ _ | (with_reducible refine bel_next ?_ ?_ (by assumption)) | (with_reducible refine Below.alloc ?_ ?_ _) | (with_reducible refine Below.drew ?_) | (with_reducible refine below_drewN ?_ _) | (with_reducible refine Below.setCell ?_ ?_ _))) <;> (first | omega | (simp; done) | (simp; omega)))⟩

theorem szStmtS_any (n : Nat) (ad : Option Addr) (c : Nat) (l : Int) (w : World) (hm : n ≤ maxLen) (h0 : 0 ≤ l) (h1 : l ≤ 1048576) :
    Calls Tryd.prog 11 #[.slice ad n c, .int .i64 l] w fun e w' => e = .returned (.int .i64 (if (n : Int) ≤ l then l - n else -1)) ∧ w = w' := by
  unfold maxLen at hm
  by_cases h : (n : Int) ≤ l
  · rw [if_pos h]
    go_enter Tryd.func11, Tryd.ntmps11
    go_wp2
    go_ret
    exact ⟨rfl, rfl⟩
  · rw [if_neg h]
    go_enter Tryd.func11, Tryd.ntmps11
    go_wp2
    go_ret
    exact ⟨rfl, rfl⟩

set_option maxHeartbeats 1000000 in
theorem eqStmtS_same (xs : List St) (ad ad' : Option Addr) (c c' : Nat) (w : World) (hm : xs.length ≤ 1048576) (hr : RdC w ad (stCells xs)) (hr' : RdC w ad' (stCells xs)) :
    Calls Tryd.prog 15 #[.slice ad xs.length c, .slice ad' xs.length c'] w fun e w' => e = .returned (.bool true) ∧ Below w.heap.size w w' := by
  go_enter Tryd.func15, Tryd.ntmps15
  go_wp2_with fail
  go_loopw [5] (fun i wr => ∃ k : Nat, k ≤ xs.length ∧ i = .int .i64 k ∧ Below w.heap.size w wr) (fun i _ => xs.length - (intOf i).toNat)
  case atStart => exact ⟨0, Nat.zero_le _, rfl, Below.refl _ _⟩
  case round =>
    obtain ⟨k, hk, rfl, hbw⟩ := hrel
    by_cases hlt : k < xs.length
    · obtain ⟨b, off, op, dst, a, b, c, n, rfl, hbl, hx, c0, c1, c2, c3, c4, c5⟩ := (hr.below hbw).st k hlt
      obtain ⟨b', off', op', dst', a', b', c', n', rfl, hbl', hx', c0', c1', c2', c3', c4', c5'⟩ := (hr'.below hbw).st k hlt
      rw [hx] at hx'
      simp only [Option.some.injEq, St.mk.injEq] at hx'
      obtain ⟨rfl, rfl, rfl, rfl, rfl, rfl⟩ := hx'
      have hi : (k : Int) < (xs.length : Int) := by omega
      have hbs := hbw.size
      clear hr hr' hx
      go_wp2_with fail
      refine wp_region_bel (by kernel_rfl) (by kernel_rfl) ?_
      have e0 := in_cell c0; have e1 := in_cell c1; have e2 := in_cell c2; have e3 := in_cell c3; have e4 := in_cell c4; have e5 := in_cell c5
      have e0' := in_cell c0'; have e1' := in_cell c1'; have e2' := in_cell c2'; have e3' := in_cell c3'; have e4' := in_cell c4'; have e5' := in_cell c5'
      repeat (go_big_quiet_step ((go_at_call 18; exact Calls.inb (eqStmt_same ⟨op, dst, a, b, c, n⟩ _))))
      refine wpQuiet_nil ?_
      rintro _ ⟨x, rfl⟩
      have hb : Below wr.heap.size wr x.w := x.ok
      clear e0 e1 e2 e3 e4 e5 e0' e1' e2' e3' e4' e5'
      go_wp2_with fail
      go_roundw
      case rel => exact ⟨k + 1, by omega, by go_num, (by (repeat (first | with_reducible exact Below.refl _ _ | (with_reducible refine bel_next ?_ ?_ (by assumption)) | (with_reducible refine Below.alloc ?_ ?_ _) | (with_reducible refine Below.drew ?_) | (with_reducible refine below_drewN ?_ _) | (with_reducible refine Below.setCell ?_ ?_ _))) <;> (first | omega | (simp; done) | (simp; omega)))⟩
      case measure => simp [intOf]; omega
    · go_wp2_with fail
      go_ret
      exact ⟨rfl, hbw⟩

set_option maxHeartbeats 1000000 in
theorem markStmtS_any (n : Nat) (cs : List Value) (lo : Nat) (k0 : Int) (ad : Option Addr) (c : Nat) (w : World) (hk0 : 0 ≤ k0) (hk1 : k0 ≤ 1099511627776) (hm : n ≤ 1048576) (ho : Own w lo 26 6 ad n c cs) :
    Calls Tryd.prog 21 #[.slice ad n c, .int .i64 k0] w fun e w' => e = .returned (.int .i64 (k0 + (n * 6 : Nat))) ∧ Own w' lo 26 6 ad n c (I64 (seqI k0 (n * 6))) ∧ w.grownBy w' (ad.map (·.block)) := by
  have hlen : cs.length = n * 6 := by have := ho.len; omega
  have HL := Lib.hid hlen
  clear hlen
  go_enter Tryd.func21, Tryd.ntmps21
  go_wp2_with fail
  go_loopw [1, 5] (fun kk i wr => ∃ j : Nat, ∃ q : Int, j ≤ n ∧ i = .int .i64 j ∧ kk = .int .i64 q ∧ q = k0 + (j * 6 : Nat) ∧ Own wr lo 26 6 ad n c (I64 (seqI k0 (j * 6)) ++ cs.drop (j * 6)) ∧ w.grownBy wr (ad.map (·.block))) (fun _ i _ => n - (intOf i).toNat)
  case atStart => exact ⟨0, k0, Nat.zero_le _, rfl, rfl, by omega, by (rw [Nat.zero_mul]; simpa [seqI] using ho), grown_refl _ _⟩
  case round =>
    obtain ⟨j, q, hj, rfl, rfl, hq, hown, hgr⟩ := hrel
    have hq0 : 0 ≤ q := by omega
    have hq1 : q ≤ 1099528000000 := by omega
    have HQ := Lib.hid hq
    clear hq
    by_cases hlt : j < n
    · obtain ⟨g, rfl, _, _⟩ := hown.addr (by omega)
      have hl : (I64 (seqI k0 (j * 6)) ++ cs.drop (j * 6)).length = n * 6 := by have := HL.out; simp; omega
      obtain ⟨a0, f0⟩ := hown.get (j * 6) (by omega)
      obtain ⟨a1, f1⟩ := hown.get (j * 6 + 1) (by omega)
      obtain ⟨a2, f2⟩ := hown.get (j * 6 + 2) (by omega)
      obtain ⟨a3, f3⟩ := hown.get (j * 6 + 3) (by omega)
      obtain ⟨a4, f4⟩ := hown.get (j * 6 + 4) (by omega)
      obtain ⟨a5, f5⟩ := hown.get (j * 6 + 5) (by omega)
      generalize (I64 (seqI k0 (j * 6)) ++ cs.drop (j * 6))[j * 6] = u0 at a0
      generalize (I64 (seqI k0 (j * 6)) ++ cs.drop (j * 6))[j * 6 + 1] = u1 at a1
      generalize (I64 (seqI k0 (j * 6)) ++ cs.drop (j * 6))[j * 6 + 2] = u2 at a2
      generalize (I64 (seqI k0 (j * 6)) ++ cs.drop (j * 6))[j * 6 + 3] = u3 at a3
      generalize (I64 (seqI k0 (j * 6)) ++ cs.drop (j * 6))[j * 6 + 4] = u4 at a4
      generalize (I64 (seqI k0 (j * 6)) ++ cs.drop (j * 6))[j * 6 + 5] = u5 at a5
      have HO := Lib.hid hown
      have HG := Lib.hid hgr
      have HLL := Lib.hid hl
      clear hown hgr ho hl
      go_wp2_with fail
      go_roundw
      case rel =>
        have hn := HL.out
        have hq := HQ.out
        have o0 := own_markS (q := q) HO.out (by omega) (by omega)
        have o1 := own_markS (q := q + 1) o0 (by omega) (by omega)
        have o2 := own_markS (q := q + 1 + 1) o1 (by omega) (by omega)
        have o3 := own_markS (q := q + 1 + 1 + 1) o2 (by omega) (by omega)
        have o4 := own_markS (q := q + 1 + 1 + 1 + 1) o3 (by omega) (by omega)
        have o5 := own_markS (q := q + 1 + 1 + 1 + 1 + 1) o4 (by omega) (by omega)
        rw [show j * 6 + 5 + 1 = (j + 1) * 6 from by omega] at o5
        exact ⟨j + 1, _, by omega, by go_num, rfl, by omega, o5, grown_setCell _ (grown_setCell _ (grown_setCell _ (grown_setCell _ (grown_setCell _ (grown_setCell _ (HG.out))))))⟩
      case measure => simp [intOf]; omega
    · have hjn : n = j := by omega
      have HJ := Lib.hid hjn
      clear hjn
      go_wp2_with fail
      go_ret
      refine ⟨ret_int (by rw [HJ.out]; exact HQ.out), ?_, hgr⟩
      have e : I64 (seqI k0 (j * 6)) ++ cs.drop (j * 6) = I64 (seqI k0 (n * 6)) := by rw [List.drop_eq_nil_of_le (by have := HL.out; have := HJ.out; omega), List.append_nil, ← HJ.out]
      rw [← e]; exact hown
theorem markStmtS_rng (n : Nat) (cs : List Value) (lo l h : Nat) (k0 : Int) (ad : Option Addr) (c : Nat) (w : World) (hk0 : 0 ≤ k0) (hk1 : k0 ≤ 1099511627776) (hm : n ≤ 1048576) (ho : Own w lo 26 6 ad n c cs) (hi' : Ins ad l h) (hl : l ≤ w.heap.size) :
    Calls Tryd.prog 21 #[.slice ad n c, .int .i64 k0] w fun e w' => e = .returned (.int .i64 (k0 + (n * 6 : Nat))) ∧ Own w' lo 26 6 ad n c (I64 (seqI k0 (n * 6))) ∧ Below l w w' ∧ Rng l h w w' :=
  (markStmtS_any n cs lo k0 ad c w hk0 hk1 hm ho).mono fun _ _ ⟨h1, h2, h3⟩ => ⟨h1, h2, below_of_grown hi' hl h3, Rng.of_grown hi' h3⟩

set_option maxHeartbeats 1000000 in
theorem heldStmtS_any (n : Nat) (k0 : Int) (ad : Option Addr) (c : Nat) (w : World) (hk0 : 0 ≤ k0) (hk1 : k0 ≤ 1099511627776) (hm : n ≤ 1048576) (hr : RdC w ad (I64 (seqI k0 (n * 6)))) :
    Calls Tryd.prog 22 #[.slice ad n c, .int .i64 k0] w fun e w' => e = .returned (.int .i64 (k0 + (n * 6 : Nat))) ∧ w = w' := by
  go_enter Tryd.func22, Tryd.ntmps22
  go_wp2_with fail
  go_loop [1, 5] (fun kk i => ∃ j : Nat, ∃ q : Int, j ≤ n ∧ i = .int .i64 j ∧ kk = .int .i64 q ∧ q = k0 + (j * 6 : Nat)) (fun _ i => n - (intOf i).toNat)
  case atStart => exact ⟨0, k0, Nat.zero_le _, rfl, rfl, by omega⟩
  case round =>
    obtain ⟨j, q, hj, rfl, rfl, hq⟩ := hrel
    have hq0 : 0 ≤ q := by omega
    have hq1 : q ≤ 1099528000000 := by omega
    by_cases hlt : j < n
    · obtain ⟨b, off, rfl, hcell⟩ := hr.at (j * 6) (by simp; omega)
      have a0 : w.cell? ⟨b, off + j * 6, none⟩ = some (.int .i64 (q)) := by have := hcell (j * 6) (by simp; omega); rw [seqI_get k0 _ _ (by omega)] at this; rw [show off + j * 6 = off + (j * 6) from by omega, this]; congr 2; omega
      have a1 : w.cell? ⟨b, off + j * 6 + 1, none⟩ = some (.int .i64 (q + 1)) := by have := hcell (j * 6 + 1) (by simp; omega); rw [seqI_get k0 _ _ (by omega)] at this; rw [show off + j * 6 + 1 = off + (j * 6 + 1) from by omega, this]; congr 2; omega
      have a2 : w.cell? ⟨b, off + j * 6 + 2, none⟩ = some (.int .i64 (q + 1 + 1)) := by have := hcell (j * 6 + 2) (by simp; omega); rw [seqI_get k0 _ _ (by omega)] at this; rw [show off + j * 6 + 2 = off + (j * 6 + 2) from by omega, this]; congr 2; omega
      have a3 : w.cell? ⟨b, off + j * 6 + 3, none⟩ = some (.int .i64 (q + 1 + 1 + 1)) := by have := hcell (j * 6 + 3) (by simp; omega); rw [seqI_get k0 _ _ (by omega)] at this; rw [show off + j * 6 + 3 = off + (j * 6 + 3) from by omega, this]; congr 2; omega
      have a4 : w.cell? ⟨b, off + j * 6 + 4, none⟩ = some (.int .i64 (q + 1 + 1 + 1 + 1)) := by have := hcell (j * 6 + 4) (by simp; omega); rw [seqI_get k0 _ _ (by omega)] at this; rw [show off + j * 6 + 4 = off + (j * 6 + 4) from by omega, this]; congr 2; omega
      have a5 : w.cell? ⟨b, off + j * 6 + 5, none⟩ = some (.int .i64 (q + 1 + 1 + 1 + 1 + 1)) := by have := hcell (j * 6 + 5) (by simp; omega); rw [seqI_get k0 _ _ (by omega)] at this; rw [show off + j * 6 + 5 = off + (j * 6 + 5) from by omega, this]; congr 2; omega
      have HQ := Lib.hid hq
      clear hq hcell hr
      go_wp2_with fail
      go_round
      case rel => exact ⟨j + 1, _, by omega, by go_num, rfl, by have := HQ.out; omega⟩
      case measure => simp [intOf]; omega
    · have hjn : n = j := by omega
      have HJ := Lib.hid hjn
      have HQ := Lib.hid hq
      clear hjn hq
      go_wp2_with fail
      go_ret
      exact ⟨ret_int (by rw [HJ.out]; exact HQ.out), rfl⟩

set_option maxHeartbeats 1000000 in
theorem toStmtS_any (xs : List St) (ad : Option Addr) (c : Nat) (w : World) (hm : xs.length ≤ 1048576) (hr : RdC w ad (stCells xs)) :
    Calls Tryd.prog 13 #[.slice ad xs.length c] w fun e w' => ∃ g, e = .returned (.slice (some ⟨g, 0, none⟩) xs.length xs.length) ∧
      Own w' w.heap.size 26 6 (some ⟨g, 0, none⟩) xs.length xs.length (stCells xs) ∧ w.heap.size ≤ g ∧ g < w'.heap.size ∧ Below w.heap.size w w' := by
  obtain ⟨i0, hi, hz0, hz1, hz2⟩ := info_parts info_st
  go_enter Tryd.func13, Tryd.ntmps13
  go_wp2_with (at_make; refine wpList_make_full _ rfl _ _ 32 rfl w.heap.size 26 i0 (.agg #[.int .i64 0, .int .i64 0, .int .i64 0, .int .i64 0, .int .i64 0, .int .i64 0]) 6 Tryd.underlying32 hi hz0 hz1 .i64 .i64 _ _ xs.length rfl rfl rfl rfl ?b2 ?b3 ?b4 ?_)
  case b2 => rw [hz2]; omega
  case b3 => unfold maxLen; omega
  case b4 => exact Nat.le_refl _
  intro w1 hown1 hgr1
  have hb1 : Below w.heap.size w w1 := (Below.refl _ _).grown hgr1 (Nat.le_refl _) (by simp)
  obtain ⟨ys, hys, ho⟩ : ∃ ys : List St, ys.length = xs.length ∧ Own w1 w.heap.size 26 6 (some ⟨w.heap.size, 0, none⟩) xs.length xs.length (stCells ys) := by
    refine ⟨List.replicate xs.length zero_st, by simp, ?_⟩
    rw [← st_made]
    exact hown1
  have hz := (ho.blk _ rfl).2.2.2
  have HY := Lib.hid hys
  clear hys hown1 hgr1
  go_wp2_with fail
  go_loopw [4] (fun i wr => ∃ k : Nat, k ≤ xs.length ∧ i = .int .i64 k ∧ Own wr w.heap.size 26 6 (some ⟨w.heap.size, 0, none⟩) xs.length xs.length (stCells (xs.take k ++ ys.drop k)) ∧ Below w.heap.size w wr ∧ w.heap.size < wr.heap.size) (fun i _ => xs.length - (intOf i).toNat)
  case atStart => exact ⟨0, Nat.zero_le _, rfl, ho, hb1, hz⟩
  case round =>
    obtain ⟨k, hk, rfl, hown, hbw, hsz⟩ := hrel
    by_cases hlt : k < xs.length
    · obtain ⟨b, off, op, dst, a, b, c, n, rfl, hbl, hx, c0, c1, c2, c3, c4, c5⟩ := (hr.below hbw).st k hlt
      have HX := Lib.hid hx
      have HR := Lib.hid hr
      clear hx hr ho hb1
      go_wp2_with fail
      refine (toStmt_any ⟨op, dst, a, b, c, n⟩ _).mono ?_
      rintro e w2 ⟨rfl, hb⟩
      have hsz2 := hb.size
      have ho2 := hown.later (w' := w2) ((Kp.refl _ _).below hb)
      have hl : (stCells (xs.take k ++ ys.drop k)).length = xs.length * 6 := by rw [stCells_length]; have := HY.out; simp; omega
      obtain ⟨a0, f0⟩ := ho2.get (k * 6) (by omega)
      obtain ⟨a1, f1⟩ := ho2.get (k * 6 + 1) (by omega)
      obtain ⟨a2, f2⟩ := ho2.get (k * 6 + 2) (by omega)
      obtain ⟨a3, f3⟩ := ho2.get (k * 6 + 3) (by omega)
      obtain ⟨a4, f4⟩ := ho2.get (k * 6 + 4) (by omega)
      obtain ⟨a5, f5⟩ := ho2.get (k * 6 + 5) (by omega)
      generalize (stCells (xs.take k ++ ys.drop k))[k * 6] = u0 at a0
      generalize (stCells (xs.take k ++ ys.drop k))[k * 6 + 1] = u1 at a1
      generalize (stCells (xs.take k ++ ys.drop k))[k * 6 + 2] = u2 at a2
      generalize (stCells (xs.take k ++ ys.drop k))[k * 6 + 3] = u3 at a3
      generalize (stCells (xs.take k ++ ys.drop k))[k * 6 + 4] = u4 at a4
      generalize (stCells (xs.take k ++ ys.drop k))[k * 6 + 5] = u5 at a5
      have HO := Lib.hid ho2
      have HBB : Hid (Below w.heap.size w w2) := hbw.trans (hb.mono (by omega))
      clear hown ho2 hl hbw
      unfold stV
      go_wp2_with fail
      go_roundw
      case rel =>
        have o0 := HO.out.put (k * 6) (.int .i64 op)
        have o1 := o0.put (k * 6 + 1) (.int .i64 dst)
        have o2 := o1.put (k * 6 + 2) (.int .i64 a)
        have o3 := o2.put (k * 6 + 3) (.int .i64 b)
        have o4 := o3.put (k * 6 + 4) (.int .i64 c)
        have o5 := o4.put (k * 6 + 5) (.int .i64 n)
        rw [st_set (xs.take k ++ ys.drop k) k ⟨op, dst, a, b, c, n⟩] at o5
        have e : (xs.take k ++ ys.drop k).set k ⟨op, dst, a, b, c, n⟩ = xs.take (k + 1) ++ ys.drop (k + 1) := by
          have hy := HY.out
          have hx := HX.out
          have hl : (xs.take k).length = k := by simp; omega
          rw [List.set_append, if_neg (by omega), hl, Nat.sub_self, List.drop_eq_getElem_cons (by omega : k < ys.length), List.set_cons_zero, List.take_add_one, hx]
          simp
        rw [e] at o5
        exact ⟨k + 1, by omega, by go_num, o5, ((((((HBB.out.setCell (show w.heap.size ≤ w.heap.size from Nat.le_refl _) _).setCell (show w.heap.size ≤ w.heap.size from Nat.le_refl _) _).setCell (show w.heap.size ≤ w.heap.size from Nat.le_refl _) _).setCell (show w.heap.size ≤ w.heap.size from Nat.le_refl _) _).setCell (show w.heap.size ≤ w.heap.size from Nat.le_refl _) _).setCell (show w.heap.size ≤ w.heap.size from Nat.le_refl _) _), by simp [World.setCell]; omega⟩
      case measure => simp [intOf]; omega
    · have e : stCells (xs.take k ++ ys.drop k) = stCells xs := by rw [List.take_of_length_le (by omega), List.drop_eq_nil_of_le (by have := HY.out; omega), List.append_nil]
      rw [e] at hown
      have H := Lib.hid (And.intro hown hbw)
      clear hown hbw e
      go_wp2_with fail
      go_ret
      exact ⟨_, rfl, H.out.1, Nat.le_refl _, hsz, H.out.2⟩
end Go.Proofs.YtigefmobejclaaaDoor
