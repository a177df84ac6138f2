/- Contracts of WordsOf: four bits make a word. -/
import Derived.Test.YtfpblgbokmpmjaaList
import Derived.Deep.RegionHeld3
import Derived.Deep.AppendLies
namespace Go.Proofs.Ytfpblgbokmpmjaa
open Go.RowKit

def words : List Int → List Int
  | a :: b :: c :: d :: r => (a + 2 * b + 4 * c + 8 * d) :: words r
  | _ => []
def wordsOf (xs : List Int) : List Int := if xs.length % 4 = 0 ∧ allB xs 0 1 = true then words xs else []

theorem words_len (xs : List Int) : 4 * (words xs).length ≤ xs.length := by
  match xs with
  | a :: b :: c :: d :: r => have := words_len r; simp [words]; omega
  | [] => simp [words]
  | [_] => simp [words]
  | [_, _] => simp [words]
  | [_, _, _] => simp [words]

theorem words_step (xs : List Int) (j : Nat) (h : 4 * j + 3 < xs.length) :
    words (xs.take (4 * (j + 1))) = words (xs.take (4 * j)) ++ [xs[4 * j] + 2 * xs[4 * j + 1] + 4 * xs[4 * j + 2] + 8 * xs[4 * j + 3]] := by
  induction j generalizing xs with
  | zero =>
    match xs, h with
    | a :: b :: c :: d :: r, _ => simp [words]
  | succ j ih =>
    match xs, h with
    | a :: b :: c :: d :: r, h =>
      have h' : 4 * j + 3 < r.length := by simp at h; omega
      have := ih r h'
      simp only [show 4 * (j + 1 + 1) = 4 * (j + 1) + 4 by omega, show 4 * (j + 1) = 4 * j + 4 by omega, List.take_succ_cons, words, List.cons_append] at this ⊢
      rw [this]
      simp [List.getElem_cons_succ]

theorem words_full (xs : List Int) (j : Nat) (h : xs.length ≤ 4 * j) : words (xs.take (4 * j)) = words xs := by rw [List.take_of_length_le h]

theorem words_take_len (xs : List Int) (j : Nat) (h : 4 * j ≤ xs.length) : (words (xs.take (4 * j))).length = j := by
  induction j generalizing xs with
  | zero => simp [words]
  | succ j ih =>
    match xs, h with
    | a :: b :: c :: d :: r, h =>
      have h' : 4 * j ≤ r.length := by simp at h; omega
      have := ih r h'
      simp only [show 4 * (j + 1) = 4 * j + 4 by omega, List.take_succ_cons, words, List.length_cons, this]

theorem words_stepq (xs : List Int) (q : Nat) (hq : q % 4 = 0) (h : q + 3 < xs.length) :
    words (xs.take (q + 4)) = words (xs.take q) ++ [xs[q] + 2 * xs[q + 1] + 4 * xs[q + 2] + 8 * xs[q + 3]] := by
  obtain ⟨j, rfl⟩ : ∃ j, q = 4 * j := ⟨q / 4, by omega⟩
  exact words_step xs j h
theorem words_takeq (xs : List Int) (q : Nat) (hq : q % 4 = 0) (h : q ≤ xs.length) : 4 * (words (xs.take q)).length = q := by
  obtain ⟨j, rfl⟩ : ∃ j, q = 4 * j := ⟨q / 4, by omega⟩
  rw [words_take_len xs j h]

set_option maxHeartbeats 1000000 in
theorem iWordsOf_any (xs : List Int) (ad : Option Addr) (c : Nat) (w : World) (hm : xs.length ≤ 1048576) (hr : RdC w ad (I64 xs)) :
    Calls Try.prog 86 #[.slice ad xs.length c] w fun e w' => ∃ a' c', e = .returned (.slice a' (wordsOf xs).length c') ∧
      Own w' w.heap.size 3 1 a' (wordsOf xs).length c' (I64 (wordsOf xs)) ∧ Below w.heap.size w w' := by
  obtain ⟨i0, hi, hz0, hz1, hz2⟩ := info_parts info_int
  by_cases h4 : xs.length % 4 = 0
  · cases hall : allB xs 0 1
    · have hwf : wordsOf xs = [] := by unfold wordsOf; rw [if_neg (fun h => by simp [hall] at h)]
      rw [hwf]
      have t1 : (((xs.length : Int) % 4) != 0) = false := by simp; omega
      clear h4
      go_enter Try.func86, Try.ntmps86
      go_wp2_with (go_at_call 63; refine (areBits_any xs _ _ _ (by unfold maxLen; omega) hr).mono ?_; rintro e w' ⟨rfl, rfl⟩)
      go_ret
      exact ⟨none, 0, rfl, Own.nil _ _ _ _, Below.refl _ _⟩
    · have hwf : wordsOf xs = words xs := by unfold wordsOf; rw [if_pos ⟨h4, hall⟩]
      rw [hwf]
      have t1 : (((xs.length : Int) % 4) != 0) = false := by simp; omega
      go_enter Try.func86, Try.ntmps86
      go_wp2_with (go_at_call 63; refine (areBits_any xs _ _ _ (by unfold maxLen; omega) hr).mono ?_; rintro e w' ⟨rfl, rfl⟩)
      have hB := allB_iff.1 hall
      have hr0 : RdC (w.alloc (.cells #[] 3)) ad (I64 xs) := hr.below ((Below.refl _ _).alloc (Nat.le_refl _) _)
      have H4 := Lib.hid h4
      clear h4 hall t1
      go_loopw [3, 4] (fun v i wr => ∃ (q : Nat) (a' : Option Addr) (c' : Nat), q % 4 = 0 ∧ q ≤ xs.length ∧ i = .int .i64 q ∧ v = .slice a' (words (xs.take q)).length c' ∧
        Own wr w.heap.size 3 1 a' (words (xs.take q)).length c' (I64 (words (xs.take q))) ∧ Below w.heap.size w wr) (fun _ i _ => xs.length - (intOf i).toNat)
      case atStart =>
        refine ⟨0, _, _, by omega, Nat.zero_le _, rfl, rfl, ?_, (Below.refl _ _).alloc (Nat.le_refl _) _⟩
        exact World.ownsRow_lit w #[] 0 (Nat.le_refl _) (by simp [maxLen]) rfl
      case round =>
        obtain ⟨q, a', c', hq4, hq, rfl, rfl, hown, hbw⟩ := hrel
        have HQ := Lib.hid hq4
        by_cases hlt : q < xs.length
        · have h3 : q + 3 < xs.length := by have := H4.out; omega
          obtain ⟨b, off, rfl, hcell0⟩ := hr.at q hlt
          have hlb : b < w.heap.size := lt_of_cell (hcell0 q hlt)
          have hcell : ∀ i (h : i < xs.length), wr.cell? ⟨b, off + i, none⟩ = some (.int .i64 xs[i]) := fun i h => (hbw.cell (p := ⟨b, off + i, none⟩) hlb).trans (hcell0 i h)
          clear hcell0
          have hws := Lib.hid (words_stepq xs q hq4 h3)
          have hwl := Lib.hid (words_takeq xs q hq4 hq)
          have hc0 := hcell q (by omega)
          have hc1 := hcell (q + 1) (by omega)
          have hc2 := hcell (q + 2) (by omega)
          have hc3 := hcell (q + 3) (by omega)
          obtain ⟨b00, b01⟩ := hB xs[q] (List.getElem_mem _)
          obtain ⟨b10, b11⟩ := hB xs[q + 1] (List.getElem_mem _)
          obtain ⟨b20, b21⟩ := hB xs[q + 2] (List.getElem_mem _)
          obtain ⟨b30, b31⟩ := hB xs[q + 3] (List.getElem_mem _)
          generalize xs[q] = x0 at *
          generalize xs[q + 1] = x1 at *
          generalize xs[q + 2] = x2 at *
          generalize xs[q + 3] = x3 at *
          clear hcell hB hr hr0 hq4
          have q1 : IntKind.i64.wrap ((q : Int) + 1) = q + 1 := wrap_i64_id (by omega) (by omega)
          have q2 : IntKind.i64.wrap ((q : Int) + 2) = q + 2 := wrap_i64_id (by omega) (by omega)
          have q3 : IntKind.i64.wrap ((q : Int) + 3) = q + 3 := wrap_i64_id (by omega) (by omega)
          have p1 : (0 : Int) ≤ (q : Int) + 1 := by omega
          have p2 : (0 : Int) ≤ (q : Int) + 2 := by omega
          have p3 : (0 : Int) ≤ (q : Int) + 3 := by omega
          have l1 : (q : Int) + 1 < (xs.length : Int) := by omega
          have l2 : (q : Int) + 2 < (xs.length : Int) := by omega
          have l3 : (q : Int) + 3 < (xs.length : Int) := by omega
          have n1 : ((q : Int) + 1).toNat = q + 1 := by omega
          have n2 : ((q : Int) + 2).toNat = q + 2 := by omega
          have n3 : ((q : Int) + 3).toNat = q + 3 := by omega
          have m1 : IntKind.i64.wrap (2 * x1) = 2 * x1 := wrap_i64_id (by omega) (by omega)
          have m2 : IntKind.i64.wrap (4 * x2) = 4 * x2 := wrap_i64_id (by omega) (by omega)
          have m3 : IntKind.i64.wrap (8 * x3) = 8 * x3 := wrap_i64_id (by omega) (by omega)
          have s1 : IntKind.i64.wrap (x0 + 2 * x1) = x0 + 2 * x1 := wrap_i64_id (by omega) (by omega)
          have s2 : IntKind.i64.wrap (x0 + 2 * x1 + 4 * x2) = x0 + 2 * x1 + 4 * x2 := wrap_i64_id (by omega) (by omega)
          have s3 : IntKind.i64.wrap (x0 + 2 * x1 + 4 * x2 + 8 * x3) = x0 + 2 * x1 + 4 * x2 + 8 * x3 := wrap_i64_id (by omega) (by omega)
          go_wp2_with fail
          go_region_held3 (fun w' => w'.cell? ⟨b, off + q, none⟩ = some (.int .i64 x0) ∧ w'.cell? ⟨b, off + (q + 1), none⟩ = some (.int .i64 x1) ∧ w'.cell? ⟨b, off + (q + 2), none⟩ = some (.int .i64 x2) ∧ w'.cell? ⟨b, off + (q + 3), none⟩ = some (.int .i64 x3))
            (first | go_keep | (go_split_ands; refine ⟨?_, ?_, ?_, ?_⟩ <;> (rw [hb1.cell (by exact hlb)]; assumption)))
            ((refine step_app1 _ (by rfl) _ _ (by rfl) w.heap.size _ _ _ (words (xs.take q)) (x0 + 2 * x1 + 4 * x2 + 8 * x3) wr.heap.size 1 (by rfl) (by rfl) ((hown.alloc _).drew) (by simp) (by have := hwl.out; omega) (by have := hbw.size; simp; omega) ?_; intro gg cap w1 hown1 hb1 hgrow))
          clear q1 q2 q3 n1 n2 n3 m1 m2 m3 s1 s2 s3
          have R : Hid (Own w1 w.heap.size 3 1 (some ⟨gg, 0, none⟩) (words (xs.take (q + 4))).length cap (I64 (words (xs.take (q + 4)))) ∧ Below w.heap.size w w1) := by
            refine ⟨?_, (hbw.alloc hbw.size _).drew.trans hb1⟩
            rw [hws.out]; simpa using hown1
          have RL : Hid ((words (xs.take q)).length + 1 = (words (xs.take (q + 4))).length) := by show _ = _; rw [hws.out]; simp
          clear hown1 hb1 hgrow hown hbw hc0 hc1 hc2 hc3
          go_wp2_with fail
          go_roundw
          case rel => exact ⟨q + 4, _, _, by have := HQ.out; omega, by omega, by go_num, by rw [RL.out], R.out.1, R.out.2⟩
          case measure => simp [intOf]; omega
        · have e : words (xs.take q) = words xs := by rw [List.take_of_length_le (by omega)]
          rw [e] at hown
          have H := Lib.hid (And.intro hown hbw)
          have E := Lib.hid e
          clear hown hbw e hr0 hr hB
          go_wp2_with fail
          go_ret
          exact ⟨a', c', (by rw [E.out]; rfl), H.out.1, H.out.2⟩
  · have hwf : wordsOf xs = [] := by unfold wordsOf; rw [if_neg (fun h => h4 h.1)]
    rw [hwf]
    have t1 : (((xs.length : Int) % 4) != 0) = true := by simp; omega
    clear h4
    go_enter Try.func86, Try.ntmps86
    go_wp2_with fail
    go_ret
    exact ⟨none, 0, rfl, Own.nil _ _ _ _, Below.refl _ _⟩
set_option maxHeartbeats 1000000 in
theorem sWordsOf_any (xs : List Int) (ad : Option Addr) (c : Nat) (w : World) (hm : xs.length ≤ 1048576) (hr : RdC w ad (I64 xs)) :
    Calls Try.prog 83 #[.slice ad xs.length c] w fun e w' => ∃ a' c', e = .returned (.slice a' (wordsOf xs).length c') ∧
      Own w' w.heap.size 3 1 a' (wordsOf xs).length c' (I64 (wordsOf xs)) ∧ Below w.heap.size w w' := by
  obtain ⟨i0, hi, hz0, hz1, hz2⟩ := info_parts info_int
  by_cases h4 : xs.length % 4 = 0
  · cases hall : allB xs 0 1
    · have hwf : wordsOf xs = [] := by unfold wordsOf; rw [if_neg (fun h => by simp [hall] at h)]
      rw [hwf]
      have t1 : (((xs.length : Int) % 4) != 0) = false := by simp; omega
      clear h4
      go_enter Try.func83, Try.ntmps83
      go_wp2_with (go_at_call 62; refine (l13Bits_any xs _ _ _ _ (by unfold maxLen; omega) (hr.below ((Below.refl _ _).alloc (Nat.le_refl _) _))).mono ?_; rintro e w' ⟨rfl, rfl⟩)
      go_ret
      exact ⟨_, _, rfl, World.ownsRow_lit w #[] 0 (Nat.le_refl _) (by simp [maxLen]) rfl, (Below.refl _ _).alloc (Nat.le_refl _) _⟩
    · have hwf : wordsOf xs = words xs := by unfold wordsOf; rw [if_pos ⟨h4, hall⟩]
      rw [hwf]
      have t1 : (((xs.length : Int) % 4) != 0) = false := by simp; omega
      go_enter Try.func83, Try.ntmps83
      go_wp2_with (go_at_call 62; refine (l13Bits_any xs _ _ _ _ (by unfold maxLen; omega) (hr.below ((Below.refl _ _).alloc (Nat.le_refl _) _))).mono ?_; rintro e w' ⟨rfl, rfl⟩)
      have hB := allB_iff.1 hall
      have hr0 : RdC (w.alloc (.cells #[] 3)) ad (I64 xs) := hr.below ((Below.refl _ _).alloc (Nat.le_refl _) _)
      have H4 := Lib.hid h4
      clear h4 hall t1
      go_loopw [3, 4] (fun v i wr => ∃ (q : Nat) (a' : Option Addr) (c' : Nat), q % 4 = 0 ∧ q ≤ xs.length ∧ i = .int .i64 q ∧ v = .slice a' (words (xs.take q)).length c' ∧
        Own wr w.heap.size 3 1 a' (words (xs.take q)).length c' (I64 (words (xs.take q))) ∧ Below w.heap.size w wr) (fun _ i _ => xs.length - (intOf i).toNat)
      case atStart =>
        refine ⟨0, _, _, by omega, Nat.zero_le _, rfl, rfl, ?_, (Below.refl _ _).alloc (Nat.le_refl _) _⟩
        exact World.ownsRow_lit w #[] 0 (Nat.le_refl _) (by simp [maxLen]) rfl
      case round =>
        obtain ⟨q, a', c', hq4, hq, rfl, rfl, hown, hbw⟩ := hrel
        have HQ := Lib.hid hq4
        by_cases hlt : q < xs.length
        · have h3 : q + 3 < xs.length := by have := H4.out; omega
          obtain ⟨b, off, rfl, hcell0⟩ := hr.at q hlt
          have hlb : b < w.heap.size := lt_of_cell (hcell0 q hlt)
          have hcell : ∀ i (h : i < xs.length), wr.cell? ⟨b, off + i, none⟩ = some (.int .i64 xs[i]) := fun i h => (hbw.cell (p := ⟨b, off + i, none⟩) hlb).trans (hcell0 i h)
          clear hcell0
          have hws := Lib.hid (words_stepq xs q hq4 h3)
          have hwl := Lib.hid (words_takeq xs q hq4 hq)
          have hc0 := hcell q (by omega)
          have hc1 := hcell (q + 1) (by omega)
          have hc2 := hcell (q + 2) (by omega)
          have hc3 := hcell (q + 3) (by omega)
          obtain ⟨b00, b01⟩ := hB xs[q] (List.getElem_mem _)
          obtain ⟨b10, b11⟩ := hB xs[q + 1] (List.getElem_mem _)
          obtain ⟨b20, b21⟩ := hB xs[q + 2] (List.getElem_mem _)
          obtain ⟨b30, b31⟩ := hB xs[q + 3] (List.getElem_mem _)
          generalize xs[q] = x0 at *
          generalize xs[q + 1] = x1 at *
          generalize xs[q + 2] = x2 at *
          generalize xs[q + 3] = x3 at *
          clear hcell hB hr hr0 hq4
          have q1 : IntKind.i64.wrap ((q : Int) + 1) = q + 1 := wrap_i64_id (by omega) (by omega)
          have q2 : IntKind.i64.wrap ((q : Int) + 2) = q + 2 := wrap_i64_id (by omega) (by omega)
          have q3 : IntKind.i64.wrap ((q : Int) + 3) = q + 3 := wrap_i64_id (by omega) (by omega)
          have p1 : (0 : Int) ≤ (q : Int) + 1 := by omega
          have p2 : (0 : Int) ≤ (q : Int) + 2 := by omega
          have p3 : (0 : Int) ≤ (q : Int) + 3 := by omega
          have l1 : (q : Int) + 1 < (xs.length : Int) := by omega
          have l2 : (q : Int) + 2 < (xs.length : Int) := by omega
          have l3 : (q : Int) + 3 < (xs.length : Int) := by omega
          have n1 : ((q : Int) + 1).toNat = q + 1 := by omega
          have n2 : ((q : Int) + 2).toNat = q + 2 := by omega
          have n3 : ((q : Int) + 3).toNat = q + 3 := by omega
          have m1 : IntKind.i64.wrap (2 * x1) = 2 * x1 := wrap_i64_id (by omega) (by omega)
          have m2 : IntKind.i64.wrap (4 * x2) = 4 * x2 := wrap_i64_id (by omega) (by omega)
          have m3 : IntKind.i64.wrap (8 * x3) = 8 * x3 := wrap_i64_id (by omega) (by omega)
          have s1 : IntKind.i64.wrap (x0 + 2 * x1) = x0 + 2 * x1 := wrap_i64_id (by omega) (by omega)
          have s2 : IntKind.i64.wrap (x0 + 2 * x1 + 4 * x2) = x0 + 2 * x1 + 4 * x2 := wrap_i64_id (by omega) (by omega)
          have s3 : IntKind.i64.wrap (x0 + 2 * x1 + 4 * x2 + 8 * x3) = x0 + 2 * x1 + 4 * x2 + 8 * x3 := wrap_i64_id (by omega) (by omega)
          go_wp2_with fail
          go_region_held3 (fun w' => w'.cell? ⟨b, off + q, none⟩ = some (.int .i64 x0) ∧ w'.cell? ⟨b, off + (q + 1), none⟩ = some (.int .i64 x1) ∧ w'.cell? ⟨b, off + (q + 2), none⟩ = some (.int .i64 x2) ∧ w'.cell? ⟨b, off + (q + 3), none⟩ = some (.int .i64 x3))
            (first | go_keep | (go_split_ands; refine ⟨?_, ?_, ?_, ?_⟩ <;> (rw [hb1.cell (by exact hlb)]; assumption)))
            ((refine step_app1 _ (by rfl) _ _ (by rfl) w.heap.size _ _ _ (words (xs.take q)) (x0 + 2 * x1 + 4 * x2 + 8 * x3) wr.heap.size 1 (by rfl) (by rfl) ((hown.alloc _).drew) (by simp) (by have := hwl.out; omega) (by have := hbw.size; simp; omega) ?_; intro gg cap w1 hown1 hb1 hgrow))
          clear q1 q2 q3 n1 n2 n3 m1 m2 m3 s1 s2 s3
          have R : Hid (Own w1 w.heap.size 3 1 (some ⟨gg, 0, none⟩) (words (xs.take (q + 4))).length cap (I64 (words (xs.take (q + 4)))) ∧ Below w.heap.size w w1) := by
            refine ⟨?_, (hbw.alloc hbw.size _).drew.trans hb1⟩
            rw [hws.out]; simpa using hown1
          have RL : Hid ((words (xs.take q)).length + 1 = (words (xs.take (q + 4))).length) := by show _ = _; rw [hws.out]; simp
          clear hown1 hb1 hgrow hown hbw hc0 hc1 hc2 hc3
          go_wp2_with fail
          go_roundw
          case rel => exact ⟨q + 4, _, _, by have := HQ.out; omega, by omega, by go_num, by rw [RL.out], R.out.1, R.out.2⟩
          case measure => simp [intOf]; omega
        · have e : words (xs.take q) = words xs := by rw [List.take_of_length_le (by omega)]
          rw [e] at hown
          have H := Lib.hid (And.intro hown hbw)
          have E := Lib.hid e
          clear hown hbw e hr0 hr hB
          go_wp2_with fail
          go_ret
          exact ⟨a', c', (by rw [E.out]; rfl), H.out.1, H.out.2⟩
  · have hwf : wordsOf xs = [] := by unfold wordsOf; rw [if_neg (fun h => h4 h.1)]
    rw [hwf]
    have t1 : (((xs.length : Int) % 4) != 0) = true := by simp; omega
    clear h4
    go_enter Try.func83, Try.ntmps83
    go_wp2_with fail
    go_ret
    exact ⟨_, _, rfl, World.ownsRow_lit w #[] 0 (Nat.le_refl _) (by simp [maxLen]) rfl, (Below.refl _ _).alloc (Nat.le_refl _) _⟩
end Go.Proofs.Ytfpblgbokmpmjaa
