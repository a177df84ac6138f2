/- The laws' helpers over lists of the struct Gate. -/
import Derived.Test.YtfcijloiebnloaaGts
import Derived.Test.YtfcijloiebnloaaQuiet
import Derived.Test.YtfcijloiebnloaaList
namespace Go.Proofs.Ytfcijloiebnloaa
open Go.RowKit

theorem gt_set (ys : List Gt) (k : Nat) (s : Gt) : ((((gtCells ys).set (k * 3) (.int .i64 s.kd)).set (k * 3 + 1) (.int .i64 s.ga)).set (k * 3 + 2) (.int .i64 s.gb)) = gtCells (ys.set k s) := by
  induction ys generalizing k with
  | nil => simp [gtCells]
  | cons y r ih =>
    rw [gtCells_cons]
    cases k with
    | zero => simp [Gt.cells, gtCells_cons]
    | succ k =>
      have e : ∀ i (l : List Value) v, (y.cells ++ l).set ((k + 1) * 3 + i) v = y.cells ++ l.set (k * 3 + i) v := by
        intro i l v
        have hy : y.cells.length = 3 := rfl
        rw [List.set_append, if_neg (by omega)]
        congr 2; omega
      have e0 := fun l v => e 0 l v
      simp only [Nat.add_zero] at e0
      rw [e0, e, e, ih k, List.set_cons_succ, gtCells_cons]

theorem info_gt : (Try.prog.info? 109).map (fun i => (i.zero, i.size, i.bytes)) = some (some (.agg #[.int .i64 0, .int .i64 0, .int .i64 0]), 3, 24) := by kernel_rfl
def zero_gt : Gt := ⟨0, 0, 0⟩
theorem gt_zeros (n : Nat) : gtCells (List.replicate n zero_gt) = List.replicate (n * 3) (.int .i64 0) := by
  induction n with
  | zero => rfl
  | succ n ih => rw [List.replicate_succ, gtCells_cons, ih, show (n + 1) * 3 = 3 + n * 3 from by omega, ← List.replicate_append_replicate]; rfl
theorem gt_made (n : Nat) : (madeCells #[Value.int .i64 0, Value.int .i64 0, Value.int .i64 0] (n * 3)).toList = gtCells (List.replicate n zero_gt) := by
  rw [gt_zeros]
  refine List.ext_getElem (by simp [madeCells]) fun i h1 h2 => ?_
  have h : i % 3 < 3 := Nat.mod_lt _ (by omega)
  simp only [madeCells, List.size_toArray, List.length_cons, List.length_nil, Array.toList_map, Array.toList_range, List.getElem_map, List.getElem_range, List.getElem_replicate]
  match i % 3, h with
  
  | 0, _ => rfl 
  | 1, _ => rfl 
  | 2, _ => rfl

theorem own_mark {w : World} {lo e size g n c p : Nat} {k q : Int} {cs : List Value} (h : Own w lo e size (some ⟨g, 0, none⟩) n c (I64 (seqI k p) ++ cs.drop p)) (hp : p < cs.length) (hq : q = k + p) :
    Own (w.setCell ⟨g, p, none⟩ (.int .i64 q)) lo e size (some ⟨g, 0, none⟩) n c (I64 (seqI k (p + 1)) ++ cs.drop (p + 1)) := by
  subst hq
  rw [← mark_step hp]
  exact h.put p _

set_option maxHeartbeats 1000000 in
theorem toGateV_any (s : Gt) (w : World) :
    Calls Try.prog 95 #[gtV s] w fun e w' => e = .returned (gtV s) ∧ Below w.heap.size w w' := by
  obtain ⟨kd, ga, gb⟩ := s
  unfold gtV
  go_enter Try.func95, Try.ntmps95
  go_wp2_with fail
  exact bodyPost_ret (v := .agg #[.int .i64 kd, .int .i64 ga, .int .i64 gb]) (by simp [results, Try.results95, go_sem]) rfl ⟨rfl, (by (repeat (first | with_reducible exact Below.refl _ _ | (with_reducible refine bel_next ?_ ?_ (by assumption)) | (with_reducible refine Below.alloc ?_ ?_ _) | (with_reducible refine Below.drew ?_) | (with_reducible refine below_drewN ?_ _) | (with_reducible refine Below.setCell ?_ ?_ _))) <;> (first | omega | (simp; done) | (simp; omega)))⟩

set_option maxHeartbeats 1000000 in
theorem eqGate_same (s : Gt) (w : World) :
    Calls Try.prog 97 #[gtV s, gtV s] w fun e w' => e = .returned (.bool true) ∧ Below w.heap.size w w' := by
  obtain ⟨kd, ga, gb⟩ := s
  unfold gtV
  go_enter Try.func97, Try.ntmps97
  go_wp2_with fail
  go_ret
  exact ⟨rfl, (by (repeat (first | with_reducible exact Below.refl _ _ | (with_reducible refine bel_next ?_ ?_ (by assumption)) | (with_reducible refine Below.alloc ?_ ?_ _) | (with_reducible refine Below.drew ?_) | (with_reducible refine below_drewN ?_ _) | (with_reducible refine Below.setCell ?_ ?_ _))) <;> (first | omega | (simp; done) | (simp; omega)))⟩

theorem szGateS_any (n : Nat) (ad : Option Addr) (c : Nat) (l : Int) (w : World) (hm : n ≤ maxLen) (h0 : 0 ≤ l) (h1 : l ≤ 1048576) :
    Calls Try.prog 49 #[.slice ad n c, .int .i64 l] w fun e w' => e = .returned (.int .i64 (if (n : Int) ≤ l then l - n else -1)) ∧ w = w' := by
  unfold maxLen at hm
  by_cases h : (n : Int) ≤ l
  · rw [if_pos h]
    go_enter Try.func49, Try.ntmps49
    go_wp2
    go_ret
    exact ⟨rfl, rfl⟩
  · rw [if_neg h]
    go_enter Try.func49, Try.ntmps49
    go_wp2
    go_ret
    exact ⟨rfl, rfl⟩

set_option maxHeartbeats 1000000 in
theorem eqGateS_same (xs : List Gt) (ad ad' : Option Addr) (c c' : Nat) (w : World) (hm : xs.length ≤ 1048576) (hr : RdC w ad (gtCells xs)) (hr' : RdC w ad' (gtCells xs)) :
    Calls Try.prog 60 #[.slice ad xs.length c, .slice ad' xs.length c'] w fun e w' => e = .returned (.bool true) ∧ Below w.heap.size w w' := by
  go_enter Try.func60, Try.ntmps60
  go_wp2_with fail
  go_loopw [5] (fun i wr => ∃ k : Nat, k ≤ xs.length ∧ i = .int .i64 k ∧ Below w.heap.size w wr) (fun i _ => xs.length - (intOf i).toNat)
  case atStart => exact ⟨0, Nat.zero_le _, rfl, Below.refl _ _⟩
  case round =>
    obtain ⟨k, hk, rfl, hbw⟩ := hrel
    by_cases hlt : k < xs.length
    · obtain ⟨b, off, kd, ga, gb, rfl, hbl, hx, c0, c1, c2⟩ := (hr.below hbw).gt k hlt
      obtain ⟨b', off', kd', ga', gb', rfl, hbl', hx', c0', c1', c2'⟩ := (hr'.below hbw).gt k hlt
      rw [hx] at hx'
      simp only [Option.some.injEq, Gt.mk.injEq] at hx'
      obtain ⟨rfl, rfl, rfl⟩ := hx'
      have hi : (k : Int) < (xs.length : Int) := by omega
      have hbs := hbw.size
      clear hr hr' hx
      go_wp2_with fail
      refine wp_region_bel (by kernel_rfl) (by kernel_rfl) ?_
      have e0 := in_cell c0; have e1 := in_cell c1; have e2 := in_cell c2
      have e0' := in_cell c0'; have e1' := in_cell c1'; have e2' := in_cell c2'
      repeat (go_big_quiet_step ((go_at_call 97; exact Calls.inb (eqGate_same ⟨kd, ga, gb⟩ _))))
      refine wpQuiet_nil ?_
      rintro _ ⟨x, rfl⟩
      have hb : Below wr.heap.size wr x.w := x.ok
      clear e0 e1 e2 e0' e1' e2'
      go_wp2_with fail
      go_roundw
      case rel => exact ⟨k + 1, by omega, by go_num, (by (repeat (first | with_reducible exact Below.refl _ _ | (with_reducible refine bel_next ?_ ?_ (by assumption)) | (with_reducible refine Below.alloc ?_ ?_ _) | (with_reducible refine Below.drew ?_) | (with_reducible refine below_drewN ?_ _) | (with_reducible refine Below.setCell ?_ ?_ _))) <;> (first | omega | (simp; done) | (simp; omega)))⟩
      case measure => simp [intOf]; omega
    · go_wp2_with fail
      go_ret
      exact ⟨rfl, hbw⟩

set_option maxHeartbeats 1000000 in
theorem markGateS_any (n : Nat) (cs : List Value) (lo : Nat) (k0 : Int) (ad : Option Addr) (c : Nat) (w : World) (hk0 : 0 ≤ k0) (hk1 : k0 ≤ 1099511627776) (hm : n ≤ 1048576) (ho : Own w lo 109 3 ad n c cs) :
    Calls Try.prog 61 #[.slice ad n c, .int .i64 k0] w fun e w' => e = .returned (.int .i64 (k0 + (n * 3 : Nat))) ∧ Own w' lo 109 3 ad n c (I64 (seqI k0 (n * 3))) ∧ w.grownBy w' (ad.map (·.block)) := by
  have hlen : cs.length = n * 3 := by have := ho.len; omega
  have HL := Lib.hid hlen
  clear hlen
  go_enter Try.func61, Try.ntmps61
  go_wp2_with fail
  go_loopw [1, 5] (fun kk i wr => ∃ j : Nat, ∃ q : Int, j ≤ n ∧ i = .int .i64 j ∧ kk = .int .i64 q ∧ q = k0 + (j * 3 : Nat) ∧ Own wr lo 109 3 ad n c (I64 (seqI k0 (j * 3)) ++ cs.drop (j * 3)) ∧ w.grownBy wr (ad.map (·.block))) (fun _ i _ => n - (intOf i).toNat)
  case atStart => exact ⟨0, k0, Nat.zero_le _, rfl, rfl, by omega, by (rw [Nat.zero_mul]; simpa [seqI] using ho), grown_refl _ _⟩
  case round =>
    obtain ⟨j, q, hj, rfl, rfl, hq, hown, hgr⟩ := hrel
    have hq0 : 0 ≤ q := by omega
    have hq1 : q ≤ 1099528000000 := by omega
    have HQ := Lib.hid hq
    clear hq
    by_cases hlt : j < n
    · obtain ⟨g, rfl, _, _⟩ := hown.addr (by omega)
      have hl : (I64 (seqI k0 (j * 3)) ++ cs.drop (j * 3)).length = n * 3 := by have := HL.out; simp; omega
      obtain ⟨a0, f0⟩ := hown.get (j * 3) (by omega)
      obtain ⟨a1, f1⟩ := hown.get (j * 3 + 1) (by omega)
      obtain ⟨a2, f2⟩ := hown.get (j * 3 + 2) (by omega)
      generalize (I64 (seqI k0 (j * 3)) ++ cs.drop (j * 3))[j * 3] = u0 at a0
      generalize (I64 (seqI k0 (j * 3)) ++ cs.drop (j * 3))[j * 3 + 1] = u1 at a1
      generalize (I64 (seqI k0 (j * 3)) ++ cs.drop (j * 3))[j * 3 + 2] = u2 at a2
      have HO := Lib.hid hown
      have HG := Lib.hid hgr
      have HLL := Lib.hid hl
      clear hown hgr ho hl
      go_wp2_with fail
      go_roundw
      case rel =>
        have hn := HL.out
        have hq := HQ.out
        have o0 := own_mark (q := q) HO.out (by omega) (by omega)
        have o1 := own_mark (q := q + 1) o0 (by omega) (by omega)
        have o2 := own_mark (q := q + 1 + 1) o1 (by omega) (by omega)
        rw [show j * 3 + 2 + 1 = (j + 1) * 3 from by omega] at o2
        exact ⟨j + 1, _, by omega, by go_num, rfl, by omega, o2, grown_setCell _ (grown_setCell _ (grown_setCell _ (HG.out)))⟩
      case measure => simp [intOf]; omega
    · have hjn : n = j := by omega
      have HJ := Lib.hid hjn
      clear hjn
      go_wp2_with fail
      go_ret
      refine ⟨ret_int (by rw [HJ.out]; exact HQ.out), ?_, hgr⟩
      have e : I64 (seqI k0 (j * 3)) ++ cs.drop (j * 3) = I64 (seqI k0 (n * 3)) := by rw [List.drop_eq_nil_of_le (by have := HL.out; have := HJ.out; omega), List.append_nil, ← HJ.out]
      rw [← e]; exact hown
theorem markGateS_rng (n : Nat) (cs : List Value) (lo l h : Nat) (k0 : Int) (ad : Option Addr) (c : Nat) (w : World) (hk0 : 0 ≤ k0) (hk1 : k0 ≤ 1099511627776) (hm : n ≤ 1048576) (ho : Own w lo 109 3 ad n c cs) (hi' : Ins ad l h) (hl : l ≤ w.heap.size) :
    Calls Try.prog 61 #[.slice ad n c, .int .i64 k0] w fun e w' => e = .returned (.int .i64 (k0 + (n * 3 : Nat))) ∧ Own w' lo 109 3 ad n c (I64 (seqI k0 (n * 3))) ∧ Below l w w' ∧ Rng l h w w' :=
  (markGateS_any n cs lo k0 ad c w hk0 hk1 hm ho).mono fun _ _ ⟨h1, h2, h3⟩ => ⟨h1, h2, below_of_grown hi' hl h3, Rng.of_grown hi' h3⟩

set_option maxHeartbeats 1000000 in
theorem heldGateS_any (n : Nat) (k0 : Int) (ad : Option Addr) (c : Nat) (w : World) (hk0 : 0 ≤ k0) (hk1 : k0 ≤ 1099511627776) (hm : n ≤ 1048576) (hr : RdC w ad (I64 (seqI k0 (n * 3)))) :
    Calls Try.prog 62 #[.slice ad n c, .int .i64 k0] w fun e w' => e = .returned (.int .i64 (k0 + (n * 3 : Nat))) ∧ w = w' := by
  go_enter Try.func62, Try.ntmps62
  go_wp2_with fail
  go_loop [1, 5] (fun kk i => ∃ j : Nat, ∃ q : Int, j ≤ n ∧ i = .int .i64 j ∧ kk = .int .i64 q ∧ q = k0 + (j * 3 : Nat)) (fun _ i => n - (intOf i).toNat)
  case atStart => exact ⟨0, k0, Nat.zero_le _, rfl, rfl, by omega⟩
  case round =>
    obtain ⟨j, q, hj, rfl, rfl, hq⟩ := hrel
    have hq0 : 0 ≤ q := by omega
    have hq1 : q ≤ 1099528000000 := by omega
    by_cases hlt : j < n
    · obtain ⟨b, off, rfl, hcell⟩ := hr.at (j * 3) (by simp; omega)
      have a0 : w.cell? ⟨b, off + j * 3, none⟩ = some (.int .i64 (q)) := by have := hcell (j * 3) (by simp; omega); rw [seqI_get k0 _ _ (by omega)] at this; rw [show off + j * 3 = off + (j * 3) from by omega, this]; congr 2; omega
      have a1 : w.cell? ⟨b, off + j * 3 + 1, none⟩ = some (.int .i64 (q + 1)) := by have := hcell (j * 3 + 1) (by simp; omega); rw [seqI_get k0 _ _ (by omega)] at this; rw [show off + j * 3 + 1 = off + (j * 3 + 1) from by omega, this]; congr 2; omega
      have a2 : w.cell? ⟨b, off + j * 3 + 2, none⟩ = some (.int .i64 (q + 1 + 1)) := by have := hcell (j * 3 + 2) (by simp; omega); rw [seqI_get k0 _ _ (by omega)] at this; rw [show off + j * 3 + 2 = off + (j * 3 + 2) from by omega, this]; congr 2; omega
      have HQ := Lib.hid hq
      clear hq hcell hr
      go_wp2_with fail
      go_round
      case rel => exact ⟨j + 1, _, by omega, by go_num, rfl, by have := HQ.out; omega⟩
      case measure => simp [intOf]; omega
    · have hjn : n = j := by omega
      have HJ := Lib.hid hjn
      have HQ := Lib.hid hq
      clear hjn hq
      go_wp2_with fail
      go_ret
      exact ⟨ret_int (by rw [HJ.out]; exact HQ.out), rfl⟩

set_option maxHeartbeats 1000000 in
theorem toGateS_any (xs : List Gt) (ad : Option Addr) (c : Nat) (w : World) (hm : xs.length ≤ 1048576) (hr : RdC w ad (gtCells xs)) :
    Calls Try.prog 55 #[.slice ad xs.length c] w fun e w' => ∃ g, e = .returned (.slice (some ⟨g, 0, none⟩) xs.length xs.length) ∧
      Own w' w.heap.size 109 3 (some ⟨g, 0, none⟩) xs.length xs.length (gtCells xs) ∧ w.heap.size ≤ g ∧ g < w'.heap.size ∧ Below w.heap.size w w' := by
  obtain ⟨i0, hi, hz0, hz1, hz2⟩ := info_parts info_gt
  go_enter Try.func55, Try.ntmps55
  go_wp2_with (at_make; refine wpList_make_full _ rfl _ _ 27 rfl w.heap.size 109 i0 (.agg #[.int .i64 0, .int .i64 0, .int .i64 0]) 3 Try.underlying27 hi hz0 hz1 .i64 .i64 _ _ xs.length rfl rfl rfl rfl ?b2 ?b3 ?b4 ?_)
  case b2 => rw [hz2]; omega
  case b3 => unfold maxLen; omega
  case b4 => exact Nat.le_refl _
  intro w1 hown1 hgr1
  have hb1 : Below w.heap.size w w1 := (Below.refl _ _).grown hgr1 (Nat.le_refl _) (by simp)
  obtain ⟨ys, hys, ho⟩ : ∃ ys : List Gt, ys.length = xs.length ∧ Own w1 w.heap.size 109 3 (some ⟨w.heap.size, 0, none⟩) xs.length xs.length (gtCells ys) := by
    refine ⟨List.replicate xs.length zero_gt, by simp, ?_⟩
    rw [← gt_made]
    exact hown1
  have hz := (ho.blk _ rfl).2.2.2
  have HY := Lib.hid hys
  clear hys hown1 hgr1
  go_wp2_with fail
  go_loopw [4] (fun i wr => ∃ k : Nat, k ≤ xs.length ∧ i = .int .i64 k ∧ Own wr w.heap.size 109 3 (some ⟨w.heap.size, 0, none⟩) xs.length xs.length (gtCells (xs.take k ++ ys.drop k)) ∧ Below w.heap.size w wr ∧ w.heap.size < wr.heap.size) (fun i _ => xs.length - (intOf i).toNat)
  case atStart => exact ⟨0, Nat.zero_le _, rfl, ho, hb1, hz⟩
  case round =>
    obtain ⟨k, hk, rfl, hown, hbw, hsz⟩ := hrel
    by_cases hlt : k < xs.length
    · obtain ⟨b, off, kd, ga, gb, rfl, hbl, hx, c0, c1, c2⟩ := (hr.below hbw).gt k hlt
      have HX := Lib.hid hx
      have HR := Lib.hid hr
      clear hx hr ho hb1
      go_wp2_with fail
      refine (toGateV_any ⟨kd, ga, gb⟩ _).mono ?_
      rintro e w2 ⟨rfl, hb⟩
      have hsz2 := hb.size
      have ho2 := hown.later (w' := w2) ((Kp.refl _ _).below hb)
      have hl : (gtCells (xs.take k ++ ys.drop k)).length = xs.length * 3 := by rw [gtCells_length]; have := HY.out; simp; omega
      obtain ⟨a0, f0⟩ := ho2.get (k * 3) (by omega)
      obtain ⟨a1, f1⟩ := ho2.get (k * 3 + 1) (by omega)
      obtain ⟨a2, f2⟩ := ho2.get (k * 3 + 2) (by omega)
      generalize (gtCells (xs.take k ++ ys.drop k))[k * 3] = u0 at a0
      generalize (gtCells (xs.take k ++ ys.drop k))[k * 3 + 1] = u1 at a1
      generalize (gtCells (xs.take k ++ ys.drop k))[k * 3 + 2] = u2 at a2
      have HO := Lib.hid ho2
      have HBB : Hid (Below w.heap.size w w2) := hbw.trans (hb.mono (by omega))
      clear hown ho2 hl hbw
      unfold gtV
      go_wp2_with fail
      go_roundw
      case rel =>
        have o0 := HO.out.put (k * 3) (.int .i64 kd)
        have o1 := o0.put (k * 3 + 1) (.int .i64 ga)
        have o2 := o1.put (k * 3 + 2) (.int .i64 gb)
        rw [gt_set (xs.take k ++ ys.drop k) k ⟨kd, ga, gb⟩] at o2
        have e : (xs.take k ++ ys.drop k).set k ⟨kd, ga, gb⟩ = xs.take (k + 1) ++ ys.drop (k + 1) := by
          have hy := HY.out
          have hx := HX.out
          have hl : (xs.take k).length = k := by simp; omega
          rw [List.set_append, if_neg (by omega), hl, Nat.sub_self, List.drop_eq_getElem_cons (by omega : k < ys.length), List.set_cons_zero, List.take_add_one, hx]
          simp
        rw [e] at o2
        exact ⟨k + 1, by omega, by go_num, o2, (((HBB.out.setCell (show w.heap.size ≤ w.heap.size from Nat.le_refl _) _).setCell (show w.heap.size ≤ w.heap.size from Nat.le_refl _) _).setCell (show w.heap.size ≤ w.heap.size from Nat.le_refl _) _), by simp [World.setCell]; omega⟩
      case measure => simp [intOf]; omega
    · have e : gtCells (xs.take k ++ ys.drop k) = gtCells xs := by rw [List.take_of_length_le (by omega), List.drop_eq_nil_of_le (by have := HY.out; omega), List.append_nil]
      rw [e] at hown
      have H := Lib.hid (And.intro hown hbw)
      clear hown hbw e
      go_wp2_with fail
      go_ret
      exact ⟨_, rfl, H.out.1, Nat.le_refl _, hsz, H.out.2⟩
end Go.Proofs.Ytfcijloiebnloaa
