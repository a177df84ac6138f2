/- Contracts over slices of slices of numbers: the laws' helpers, InputsOk. -/
import Derived.Test.YtfpblgbokmpmjaaList
import Derived.Test.YtfpblgbokmpmjaaOpen
namespace Go.Proofs.Ytfpblgbokmpmjaa
open Go.RowKit

/-- The rows read as they say. -/
def RdR (w : World) (ad : Option Addr) (rs : List Rw) : Prop := RdC w ad (rs.map Rw.val) ∧ ∀ r ∈ rs, RdC w r.ad (I64 r.xs)
theorem RdR.at {w : World} {ad : Option Addr} {rs : List Rw} (h : RdR w ad rs) (k : Nat) (hk : k < rs.length) :
    ∃ b off, ad = some ⟨b, off, none⟩ ∧ w.cell? ⟨b, off + k, none⟩ = some rs[k].val ∧ RdC w rs[k].ad (I64 rs[k].xs) := by
  rcases h.1 with h1 | ⟨b, off, h1, h2⟩
  · have := congrArg List.length h1; simp only [List.length_map, List.length_nil] at this; omega
  · exact ⟨b, off, h1, by rw [h2 k (by simpa using hk)]; simp, h.2 _ (List.getElem_mem _)⟩
theorem RdR.of_cell {w w' : World} {ad : Option Addr} {rs : List Rw} (h : RdR w ad rs) (hc : ∀ a v, w.cell? a = some v → w'.cell? a = some v) : RdR w' ad rs :=
  ⟨h.1.of_cell hc, fun r hr => (h.2 r hr).of_cell hc⟩
theorem RdR.below {w w' : World} {ad : Option Addr} {rs : List Rw} (h : RdR w ad rs) (hb : Below w.heap.size w w') : RdR w' ad rs :=
  h.of_cell fun _ _ ha => (hb.cell (lt_of_cell ha)).trans ha

def rowsLe (rs : List Rw) : Prop := ∀ r ∈ rs, r.xs.length ≤ maxLen
def rowOk (xs : List Int) : Bool := ((xs.length : Int) == 4) && allB xs 0 15
def rowsOk (xss : List (List Int)) : Bool := xss.all rowOk
def inputsOk (xss : List (List Int)) : Bool := rowsOk xss && ((xss.length : Int) == 5)
theorem rowOk_len {xs : List Int} (h : ((xs.length : Int) != 4) = true) : rowOk xs = false := by
  have q : ((xs.length : Int) == 4) = false := by simpa [bne] using h
  simp [rowOk, q]
theorem rowOk_bad {xs : List Int} (h : allB xs 0 15 = false) : rowOk xs = false := by simp [rowOk, h]
theorem rowOk_yes {xs : List Int} (h : ((xs.length : Int) != 4) = false) (h2 : allB xs 0 15 = true) : rowOk xs = true := by
  have q : ((xs.length : Int) == 4) = true := by simpa [bne] using h
  simp [rowOk, q, h2]
theorem rowsOk_snoc {rs : List Rw} {k : Nat} (hk : k < rs.length) (h : rowsOk ((rs.take k).map Rw.xs) = true) (h2 : rowOk rs[k].xs = true) : rowsOk ((rs.take (k + 1)).map Rw.xs) = true := by
  rw [List.take_succ_eq_append_getElem hk]
  simp only [rowsOk, List.map_append, List.all_append, List.map_cons, List.map_nil, List.all_cons, List.all_nil, Bool.and_true, Bool.and_eq_true] at *
  exact ⟨h, h2⟩
theorem rowsOk_fail {rs : List Rw} {k : Nat} (hk : k < rs.length) (h2 : rowOk rs[k].xs = false) : rowsOk (rs.map Rw.xs) = false := by
  simp only [rowsOk, List.all_eq_false, List.mem_map]
  exact ⟨_, ⟨rs[k], List.getElem_mem _, rfl⟩, by simp [h2]⟩
theorem rowsOk_full {rs : List Rw} {k : Nat} (hk : rs.length ≤ k) (h : rowsOk ((rs.take k).map Rw.xs) = true) : rowsOk (rs.map Rw.xs) = true := by rwa [List.take_of_length_le hk] at h

set_option maxHeartbeats 1000000 in
theorem sInputsOk_any (rs : List Rw) (ad : Option Addr) (cp : Nat) (w : World) (hm : rs.length ≤ maxLen) (hml : rowsLe rs) (hr : RdR w ad rs) :
    Calls Try.prog 81 #[.slice ad rs.length cp] w fun e w' => e = .returned (.bool (inputsOk (rs.map Rw.xs))) ∧ w = w' := by
  unfold maxLen at hm
  go_enter Try.func81, Try.ntmps81
  go_wp2_with fail
  go_loop [3] (fun i => ∃ k : Nat, k ≤ rs.length ∧ i = .int .i64 k ∧ rowsOk ((rs.take k).map Rw.xs) = true) (fun i => rs.length - (intOf i).toNat)
  case atStart => exact ⟨0, Nat.zero_le _, rfl, rfl⟩
  case round =>
    obtain ⟨k, hk, rfl, hall⟩ := hrel
    by_cases hlt : k < rs.length
    · obtain ⟨b, off, rfl, hcell, hrk⟩ := hr.at k hlt
      have hlen := hml _ (List.getElem_mem hlt)
      unfold maxLen at hlen
      have HA := Lib.hid hall
      have HS := Lib.hid (fun h => rowsOk_snoc hlt HA.out h)
      have HF := Lib.hid (fun h => rowsOk_fail (rs := rs) hlt h)
      clear hall hr hml
      generalize hrr : rs[k] = r at *
      clear hrr
      have hcell' : _ = some (Value.slice r.ad r.xs.length r.cap) := hcell
      clear hcell
      cases q5 : ((r.xs.length : Int) != 4) <;> cases qa : allB r.xs 0 15
      case false.true =>
        have HR := Lib.hid (HS.out (rowOk_yes q5 qa))
        clear HS HF
        go_wp2_with (go_at_call 95; refine (l12All_any r.xs _ _ _ (by unfold maxLen; omega) hrk).mono ?_; rintro e w' ⟨rfl, rfl⟩)
        go_round
        case rel => exact ⟨k + 1, by omega, by go_num, HR.out⟩
        case measure => simp [intOf]; omega
      all_goals
        have HR := Lib.hid (HF.out (by first | exact rowOk_bad qa | exact rowOk_len q5))
        clear HS HF
        go_wp2_with (go_at_call 95; refine (l12All_any r.xs _ _ _ (by unfold maxLen; omega) hrk).mono ?_; rintro e w' ⟨rfl, rfl⟩)
        go_ret
        exact ⟨ret_bool (by simp [inputsOk, HR.out]), rfl⟩
    · have HF := Lib.hid (rowsOk_full (by omega) hall)
      clear hall
      go_wp2_with fail
      go_ret
      exact ⟨ret_bool (by simp [inputsOk, HF.out]), rfl⟩
set_option maxHeartbeats 1000000 in
theorem iInputsOk_any (rs : List Rw) (ad : Option Addr) (cp : Nat) (w : World) (hm : rs.length ≤ maxLen) (hml : rowsLe rs) (hr : RdR w ad rs) :
    Calls Try.prog 84 #[.slice ad rs.length cp] w fun e w' => e = .returned (.bool (inputsOk (rs.map Rw.xs))) ∧ w = w' := by
  unfold maxLen at hm
  go_enter Try.func84, Try.ntmps84
  go_wp2_with fail
  go_loop [7] (fun i => ∃ k : Nat, k ≤ rs.length ∧ i = .int .i64 k ∧ rowsOk ((rs.take k).map Rw.xs) = true) (fun i => rs.length - (intOf i).toNat)
  case atStart => exact ⟨0, Nat.zero_le _, rfl, rfl⟩
  case round =>
    obtain ⟨k, hk, rfl, hall⟩ := hrel
    by_cases hlt : k < rs.length
    · obtain ⟨b, off, rfl, hcell, hrk⟩ := hr.at k hlt
      have hlen := hml _ (List.getElem_mem hlt)
      unfold maxLen at hlen
      have HA := Lib.hid hall
      have HS := Lib.hid (fun h => rowsOk_snoc hlt HA.out h)
      have HF := Lib.hid (fun h => rowsOk_fail (rs := rs) hlt h)
      clear hall hr hml
      generalize hrr : rs[k] = r at *
      clear hrr
      have hcell' : _ = some (Value.slice r.ad r.xs.length r.cap) := hcell
      clear hcell
      cases q5 : ((r.xs.length : Int) != 4) <;> cases qa : allB r.xs 0 15
      case false.true =>
        have HR := Lib.hid (HS.out (rowOk_yes q5 qa))
        clear HS HF
        go_wp2_with (go_at_call 96; refine (areNibbles_any r.xs _ _ _ (by unfold maxLen; omega) hrk).mono ?_; rintro e w' ⟨rfl, rfl⟩)
        go_round
        case rel => exact ⟨k + 1, by omega, by go_num, HR.out⟩
        case measure => simp [intOf]; omega
      all_goals
        have HR := Lib.hid (HF.out (by first | exact rowOk_bad qa | exact rowOk_len q5))
        clear HS HF
        go_wp2_with (go_at_call 96; refine (areNibbles_any r.xs _ _ _ (by unfold maxLen; omega) hrk).mono ?_; rintro e w' ⟨rfl, rfl⟩)
        go_ret
        exact ⟨ret_bool (by simp [inputsOk, HR.out]), rfl⟩
    · have HF := Lib.hid (rowsOk_full (by omega) hall)
      clear hall
      go_wp2_with fail
      go_ret
      exact ⟨ret_bool (by simp [inputsOk, HF.out]), rfl⟩

theorem info_ints : (Try.prog.info? 23).map (fun i => (i.zero, i.size, i.bytes)) = some (some (.slice none 0 0), 1, 24) := by kernel_rfl
theorem made_any (v : Value) (n : Nat) : (madeCells #[v] n).toList = List.replicate n v := by
  refine List.ext_getElem (by simp [madeCells]) fun i h1 h2 => ?_
  simp [madeCells, Nat.mod_one]

/-- Rows of the call's own, one behind the other. -/
def OwnR (w : World) (lo l h : Nat) (rs : List Rw) : Prop :=
  (∀ r ∈ rs, Own w lo 3 1 r.ad r.xs.length r.cap (I64 r.xs) ∧ Ins r.ad l h) ∧ rs.Pairwise (fun r r' => ∀ a a', r.ad = some a → r'.ad = some a' → a.block < a'.block)
theorem OwnR.keep {w w' : World} {lo l h : Nat} {rs : List Rw} (H : OwnR w lo l h rs) (hk : ∀ b, l ≤ b → b < h → Kp b w w') : OwnR w' lo l h rs :=
  ⟨fun r hr => ⟨(H.1 r hr).1.keep fun a ha => hk a.block ((H.1 r hr).2 a ha).1 ((H.1 r hr).2 a ha).2, (H.1 r hr).2⟩, H.2⟩
theorem OwnR.snoc {w : World} {lo l h h' : Nat} {rs : List Rw} {r : Rw} (H : OwnR w lo l h rs) (hr : Own w lo 3 1 r.ad r.xs.length r.cap (I64 r.xs)) (hi : Ins r.ad h h') (hl : l ≤ h) (hh : h ≤ h') : OwnR w lo l h' (rs ++ [r]) := by
  refine ⟨fun x hx => ?_, ?_⟩
  · rcases List.mem_append.1 hx with hx | hx
    · exact ⟨(H.1 x hx).1, fun a ha => ⟨((H.1 x hx).2 a ha).1, by have := ((H.1 x hx).2 a ha).2; omega⟩⟩
    · simp at hx; subst hx; exact ⟨hr, fun a ha => ⟨by have := (hi a ha).1; omega, (hi a ha).2⟩⟩
  · rw [List.pairwise_append]
    refine ⟨H.2, by simp, fun x hx y hy a a' ha ha' => ?_⟩
    simp at hy; subst hy
    have h1 := ((H.1 x hx).2 a ha).2
    have h2 := (hi a' ha').1
    omega

set_option maxHeartbeats 2000000 in
theorem toIntSS_any (rs : List Rw) (ad : Option Addr) (cp : Nat) (w : World) (hm : rs.length ≤ 1048576) (hml : ∀ r ∈ rs, r.xs.length ≤ 1048576) (hr : RdR w ad rs) :
    Calls Try.prog 51 #[.slice ad rs.length cp] w fun e w' => ∃ (g : Nat), e = .returned (.slice (some ⟨g, 0, none⟩) rs.length rs.length) ∧ w.heap.size ≤ g ∧ g < w'.heap.size ∧
      (∃ rs' : List Rw, rs'.map Rw.xs = rs.map Rw.xs ∧ Own w' w.heap.size 23 1 (some ⟨g, 0, none⟩) rs.length rs.length (rs'.map Rw.val) ∧ OwnR w' w.heap.size (g + 1) w'.heap.size rs') ∧ Below w.heap.size w w' := by
  obtain ⟨i0, hi, hz0, hz1, hz2⟩ := info_parts info_ints
  go_enter Try.func51, Try.ntmps51
  go_wp2_with (at_make; refine wpList_make_full _ rfl _ _ 53 rfl w.heap.size 23 i0 (.slice none 0 0) 1 Try.underlying53 hi hz0 hz1 .i64 .i64 _ _ rs.length rfl rfl rfl rfl ?b2 ?b3 ?b4 ?_)
  case b2 => rw [hz2]; omega
  case b3 => unfold maxLen; omega
  case b4 => exact Nat.le_refl _
  intro w1 hown1 hgr1
  have hb1 : Below w.heap.size w w1 := (Below.refl _ _).grown hgr1 (Nat.le_refl _) (by simp)
  have hown2 : Own w1 w.heap.size 23 1 (some ⟨w.heap.size, 0, none⟩) rs.length rs.length (List.replicate rs.length (.slice none 0 0)) := by
    have e : (madeCells #[Value.slice none 0 0] rs.length).toList = List.replicate rs.length (.slice none 0 0) := made_any _ _
    rw [← e]; exact hown1
  have hz := hown2.blk _ rfl
  have hgs : w.heap.size < w1.heap.size := hz.2.2.2
  clear hown1 hgr1 hz
  go_wp2_with fail
  go_loopw [4] (fun i wr => ∃ k : Nat, k ≤ rs.length ∧ i = .int .i64 k ∧ ∃ rs' : List Rw, rs'.map Rw.xs = (rs.take k).map Rw.xs ∧ Own wr w.heap.size 23 1 (some ⟨w.heap.size, 0, none⟩) rs.length rs.length (rs'.map Rw.val ++ List.replicate (rs.length - k) (.slice none 0 0)) ∧
      OwnR wr w.heap.size (w.heap.size + 1) wr.heap.size rs' ∧ Below w.heap.size w wr ∧ w.heap.size < wr.heap.size) (fun i _ => rs.length - (intOf i).toNat)
  case atStart => exact ⟨0, Nat.zero_le _, rfl, [], rfl, hown2, ⟨(by intro r hr; cases hr), List.Pairwise.nil⟩, hb1, hgs⟩
  case round =>
    obtain ⟨k, hk, rfl, rs', hmap, hown, hrows, hbw, hsz⟩ := hrel
    have HM := Lib.hid hmap
    clear hmap
    by_cases hlt : k < rs.length
    · obtain ⟨b, off, rfl, hcell, hrk⟩ := (hr.below hbw).at k hlt
      have hlen := hml _ (List.getElem_mem hlt)
      have HT := Lib.hid (List.take_succ_eq_append_getElem hlt)
      generalize hrr : rs[k] = r at *
      clear hrr
      have hcell' : wr.cell? ⟨b, off + k, none⟩ = some (Value.slice r.ad r.xs.length r.cap) := hcell
      clear hcell
      go_wp2_with fail
      refine (toIntS_own r.xs _ _ _ hlen hrk).mono ?_
      rintro e w2 ⟨gk, rfl, hok, l1, l2, hb2⟩
      have z2 := hb2.size
      have hownk := hown.later (w' := w2) ((Kp.refl _ _).below hb2)
      have hrowsk : OwnR w2 w.heap.size (w.heap.size + 1) wr.heap.size rs' := hrows.keep fun b _ _ => (Kp.refl _ _).below hb2
      have hkl : k < (rs'.map Rw.val ++ List.replicate (rs.length - k) (Value.slice none 0 0)).length := by
        have := congrArg List.length HM.out
        simp at this ⊢; omega
      obtain ⟨hc, hf⟩ := hownk.get k hkl
      have hl' : rs'.length = k := by have := congrArg List.length HM.out; simp at this; omega
      have R : Hid (Own (w2.setCell ⟨w.heap.size, k, none⟩ (.slice (some ⟨gk, 0, none⟩) r.xs.length r.xs.length)) w.heap.size 23 1 (some ⟨w.heap.size, 0, none⟩) rs.length rs.length ((rs' ++ [(⟨some ⟨gk, 0, none⟩, r.xs.length, r.xs⟩ : Rw)]).map Rw.val ++ List.replicate (rs.length - (k + 1)) (.slice none 0 0)) ∧
          OwnR (w2.setCell ⟨w.heap.size, k, none⟩ (.slice (some ⟨gk, 0, none⟩) r.xs.length r.xs.length)) w.heap.size (w.heap.size + 1) w2.heap.size (rs' ++ [(⟨some ⟨gk, 0, none⟩, r.xs.length, r.xs⟩ : Rw)])) := by
        refine ⟨?_, ?_⟩
        · have := hownk.put k (.slice (some ⟨gk, 0, none⟩) r.xs.length r.xs.length)
          have e : (rs'.map Rw.val ++ List.replicate (rs.length - k) (Value.slice none 0 0)).set k (.slice (some ⟨gk, 0, none⟩) r.xs.length r.xs.length) = (rs' ++ [(⟨some ⟨gk, 0, none⟩, r.xs.length, r.xs⟩ : Rw)]).map Rw.val ++ List.replicate (rs.length - (k + 1)) (.slice none 0 0) := by
            obtain ⟨m, hm'⟩ : ∃ m, rs.length - k = m + 1 := ⟨rs.length - k - 1, by omega⟩
            rw [hm', show rs.length - (k + 1) = m from by omega, List.replicate_succ, List.set_append, if_neg (by simp; omega)]
            simp [hl', Rw.val]
          rw [e] at this
          exact this
        · refine OwnR.snoc (h := wr.heap.size) ?_ ?_ ?_ (by omega) z2
          · exact hrowsk.keep fun b hb _ => (Kp.refl _ _).setCell _ (show b ≠ w.heap.size from (by omega))
          · exact (hok.lo (by omega)).later ((Kp.refl _ _).setCell _ (show gk ≠ w.heap.size from (by omega)))
          · intro a ha; obtain rfl : _ = a := Option.some.inj ha; exact ⟨l1, l2⟩
      have R2 : Hid ((rs' ++ [(⟨some ⟨gk, 0, none⟩, r.xs.length, r.xs⟩ : Rw)]).map Rw.xs = (rs.take (k + 1)).map Rw.xs) := by
        show _ = _
        rw [HT.out, List.map_append, List.map_append, HM.out]; rfl
      have R3 : Hid (Below w.heap.size w (w2.setCell ⟨w.heap.size, k, none⟩ (.slice (some ⟨gk, 0, none⟩) r.xs.length r.xs.length))) := by
        exact (hbw.trans (hb2.mono (by omega))).setCell (show w.heap.size ≤ w.heap.size from Nat.le_refl _) _
      obtain ⟨u, hu⟩ : ∃ u, u = (rs'.map Rw.val ++ List.replicate (rs.length - k) (Value.slice none 0 0))[k] := ⟨_, rfl⟩
      rw [← hu] at hc
      have hszz : w.heap.size < w2.heap.size := by omega
      clear hu hown hownk hrows hrowsk hbw hr hml hown2 hb1 hrk HT hok hb2 hl'
      go_wp2_with fail
      go_roundw
      case rel => exact ⟨k + 1, by omega, by go_num, _, R2.out, R.out.1, by simpa [World.setCell] using R.out.2, R3.out, by simp [World.setCell]; omega⟩
      case measure => simp [intOf]; omega
    · have hkk : k = rs.length := by omega
      have e : rs'.map Rw.val ++ List.replicate (rs.length - k) (Value.slice none 0 0) = rs'.map Rw.val := by rw [hkk]; simp
      rw [e] at hown
      have H := Lib.hid (And.intro hown (And.intro hrows hbw))
      have HK := Lib.hid hkk
      clear hown hrows hbw e hkk hr hml
      go_wp2_with fail
      go_ret
      exact ⟨_, rfl, Nat.le_refl _, hsz, ⟨rs', by rw [HM.out, HK.out, List.take_length], H.out.1, H.out.2.1⟩, H.out.2.2⟩


def tot (rs : List Rw) : Nat := (rs.map fun r => r.xs.length).sum
theorem tot_snoc {rs : List Rw} {k : Nat} (hk : k < rs.length) : tot (rs.take (k + 1)) = tot (rs.take k) + rs[k].xs.length := by
  rw [List.take_succ_eq_append_getElem hk]; simp only [tot, List.map_append, List.sum_append, List.map_cons, List.map_nil, List.sum_cons, List.sum_nil, Nat.add_zero]
theorem tot_take (rs : List Rw) (k : Nat) : tot (rs.take k) ≤ tot rs := by
  have h : rs = rs.take k ++ rs.drop k := (List.take_append_drop k rs).symm
  have : tot rs = tot (rs.take k) + tot (rs.drop k) := by
    conv => lhs; rw [h]
    simp only [tot, List.map_append, List.sum_append]
  omega
theorem tot_mem {rs : List Rw} {r : Rw} (h : r ∈ rs) : r.xs.length ≤ tot rs := by
  induction rs with
  | nil => cases h
  | cons a t ih =>
    have e : tot (a :: t) = a.xs.length + tot t := by simp [tot]
    rcases List.mem_cons.1 h with rfl | h
    · omega
    · have := ih h; omega
theorem tot_map {rs rs' : List Rw} (h : rs'.map Rw.xs = rs.map Rw.xs) : tot rs' = tot rs := by
  have e (l : List Rw) : tot l = ((l.map Rw.xs).map List.length).sum := by simp [tot, Function.comp_def]
  rw [e, e, h]

theorem rowsLe_of' {rs rs' : List Rw} (h : rs'.map Rw.xs = rs.map Rw.xs) (hl : ∀ r ∈ rs, r.xs.length ≤ 1048576) : ∀ r ∈ rs', r.xs.length ≤ 1048576 := by
  intro r hr
  have : r.xs ∈ rs.map Rw.xs := by rw [← h]; exact List.mem_map_of_mem hr
  obtain ⟨r', h1, h2⟩ := List.mem_map.1 this
  rw [← h2]; exact hl r' h1
theorem rowsLe_of {rs rs' : List Rw} (h : rs'.map Rw.xs = rs.map Rw.xs) (hl : ∀ r ∈ rs, r.xs.length ≤ 1048576) : rowsLe rs' := fun r hr => by
  have := rowsLe_of' h hl r hr; unfold maxLen; omega

set_option maxHeartbeats 1000000 in
theorem szIntSS_any (rs : List Rw) (ad : Option Addr) (cp : Nat) (w : World) (hm : rs.length ≤ maxLen) (hml : rowsLe rs) (hr : RdR w ad rs) :
    Calls Try.prog 49 #[.slice ad rs.length cp, .int .i64 1048576] w fun e w' => ∃ v : Int, e = .returned (.int .i64 v) ∧ -2 < v ∧ v ≤ 1048576 ∧ (v < 0 ∨ rs.length + tot rs ≤ 1048576) ∧ w = w' := by
  unfold maxLen at hm
  by_cases hl : rs.length ≤ 1048576
  · go_enter Try.func49, Try.ntmps49
    go_wp2_with fail
    go_loop [1, 5] (fun l i => ∃ (k : Nat) (v : Int), k ≤ rs.length ∧ i = .int .i64 k ∧ l = .int .i64 v ∧ 0 ≤ v ∧ v ≤ 1048576 ∧ v + (rs.length + tot (rs.take k)) = 1048576) (fun _ i => rs.length - (intOf i).toNat)
    case atStart => exact ⟨0, 1048576 - rs.length, Nat.zero_le _, rfl, by go_num, by omega, by omega, by simp [tot]⟩
    case round =>
      obtain ⟨k, v, hk, rfl, rfl, hv0, hv1, hsum⟩ := hrel
      by_cases hlt : k < rs.length
      · obtain ⟨b, off, rfl, hcell, hrk⟩ := hr.at k hlt
        have hlen := hml _ (List.getElem_mem hlt)
        unfold maxLen at hlen
        have HT := Lib.hid (tot_snoc hlt)
        have HS := Lib.hid hsum
        clear hml hr hsum hrk
        generalize hrr : rs[k] = r at *
        clear hrr
        have hcell' : _ = some (Value.slice r.ad r.xs.length r.cap) := hcell
        clear hcell
        by_cases q : (r.xs.length : Int) ≤ v
        · have e1 : (if (r.xs.length : Int) ≤ v then v - (r.xs.length : Int) else -1) = v - r.xs.length := if_pos q
          have E1 := Lib.hid e1
          clear e1
          go_wp2_with fail
          refine (szIntS_any r.xs.length _ _ v _ (by unfold maxLen; omega) hv0 hv1).mono ?_
          rintro e w' ⟨rfl, rfl⟩
          rw [E1.out]
          go_wp2_with fail
          go_round
          case rel => exact ⟨k + 1, v - r.xs.length, by omega, by go_num, by go_num, by omega, by omega, by have := HT.out; have := HS.out; omega⟩
          case measure => simp [intOf]; omega
        · have e1 : (if (r.xs.length : Int) ≤ v then v - (r.xs.length : Int) else -1) = -1 := if_neg q
          have E1 := Lib.hid e1
          clear e1
          go_wp2_with fail
          refine (szIntS_any r.xs.length _ _ v _ (by unfold maxLen; omega) hv0 hv1).mono ?_
          rintro e w' ⟨rfl, rfl⟩
          rw [E1.out]
          go_wp2_with fail
          go_ret
          exact ⟨-1, rfl, by omega, by omega, .inl (by omega), rfl⟩
      · have HS := Lib.hid hsum
        have HK := Lib.hid (List.take_of_length_le (l := rs) (i := k) (by omega))
        clear hsum hr hml
        go_wp2_with fail
        go_ret
        exact ⟨v, rfl, by omega, by omega, .inr (by have := HS.out; rw [HK.out] at this; omega), rfl⟩
  · go_enter Try.func49, Try.ntmps49
    have q : ((1048576 : Int) - rs.length) < 0 := by omega
    go_wp2_with fail
    go_ret
    exact ⟨-1, rfl, by omega, by omega, .inl (by omega), rfl⟩

set_option maxHeartbeats 1000000 in
theorem eqIntSS_same (rs rs' : List Rw) (ad ad' : Option Addr) (c c' : Nat) (w : World) (hm : rs.length ≤ 1048576) (hml : ∀ r ∈ rs, r.xs.length ≤ 1048576) (he : rs'.map Rw.xs = rs.map Rw.xs) (hr : RdR w ad rs) (hr' : RdR w ad' rs') :
    Calls Try.prog 53 #[.slice ad rs.length c, .slice ad' rs.length c'] w fun e w' => e = .returned (.bool true) ∧ ∃ n, w' = w.drewN n := by
  have HE := Lib.hid he
  have hl : rs'.length = rs.length := by have := congrArg List.length he; simpa using this
  have HL := Lib.hid hl
  clear hl he
  go_enter Try.func53, Try.ntmps53
  go_wp2_with fail
  go_loopw [5] (fun i wr => ∃ k : Nat, k ≤ rs.length ∧ i = .int .i64 k ∧ ∃ m, wr = w.drewN m) (fun i _ => rs.length - (intOf i).toNat)
  case atStart => exact ⟨0, Nat.zero_le _, rfl, 0, rfl⟩
  case round =>
    obtain ⟨k, hk, rfl, m, hw⟩ := hrel
    have HW := Lib.hid hw
    by_cases hlt : k < rs.length
    · have hr1 : RdR wr ad rs := (by rw [hw]; exact hr.of_cell fun _ _ h => h)
      have hr2 : RdR wr ad' rs' := (by rw [hw]; exact hr'.of_cell fun _ _ h => h)
      obtain ⟨b, off, rfl, hcell, hrk⟩ := hr1.at k hlt
      obtain ⟨b', off', rfl, hcell', hrk'⟩ := hr2.at k (by rw [HL.out]; exact hlt)
      have hlen := hml _ (List.getElem_mem hlt)
      have hx : (rs'[k]'(by rw [HL.out]; exact hlt)).xs = rs[k].xs := by
        have := congrArg (fun l : List (List Int) => l[k]?) HE.out
        simpa [hlt, HL.out] using this
      obtain ⟨ra, rc, ra', rc', rx', hlen', hc1, hc2, hrk1, hrk2⟩ : ∃ (ra : Option Addr) (rc : Nat) (ra' : Option Addr) (rc' : Nat) (rx : List Int), rx.length ≤ 1048576 ∧ wr.cell? ⟨b, off + k, none⟩ = some (Value.slice ra rx.length rc) ∧ wr.cell? ⟨b', off' + k, none⟩ = some (Value.slice ra' rx.length rc') ∧ RdC wr ra (I64 rx) ∧ RdC wr ra' (I64 rx) :=
        ⟨rs[k].ad, rs[k].cap, (rs'[k]'(by rw [HL.out]; exact hlt)).ad, (rs'[k]'(by rw [HL.out]; exact hlt)).cap, rs[k].xs, hlen, hcell, by rw [hcell', Rw.val, hx], hrk, by rw [← hx]; exact hrk'⟩
      clear hr hr' hr1 hr2 hml hw hcell hcell' hx hlen hrk hrk'
      have hi : (k : Int) < (rs.length : Int) := by omega
      go_wp2_with fail
      go_quiet ((go_at_call 29; exact Calls.quiet_of (eqIntS_same rx' _ _ _ _ _ hlen' (hrk1.of_cell fun _ _ h => h) (hrk2.of_cell fun _ _ h => h))))
      go_wp2_with fail
      go_roundw
      case rel => exact ⟨k + 1, by omega, by go_num, m + nq, by rw [HW.out, World.drewN_drewN]⟩
      case measure => simp [intOf]; omega
    · clear hw
      go_wp2_with fail
      go_ret
      exact ⟨rfl, m, HW.out⟩

set_option maxHeartbeats 1000000 in
theorem markIntSS_rng (rs : List Rw) (ad : Option Addr) (cp : Nat) (lo l h : Nat) (w : World) (hm : rs.length ≤ 1048576) (hml : tot rs ≤ 1048576) (hr : RdC w ad (rs.map Rw.val)) (hd : Ins ad 0 l) (ho : OwnR w lo l h rs) (hlw : h ≤ w.heap.size) (hlh : l ≤ h) :
    Calls Try.prog 54 #[.slice ad rs.length cp, .int .i64 1] w fun e w' => ∃ v : Int, e = .returned (.int .i64 v) ∧ 0 ≤ v ∧ v ≤ 2000000 ∧ Below l w w' ∧ Rng l h w w' := by
  go_enter Try.func54, Try.ntmps54
  go_wp2_with fail
  go_loopw [1, 5] (fun kk i wr => ∃ (k : Nat) (v : Int), k ≤ rs.length ∧ i = .int .i64 k ∧ kk = .int .i64 v ∧ v = 1 + tot (rs.take k) ∧ (∀ j, k ≤ j → ∀ hj : j < rs.length, Own wr lo 3 1 rs[j].ad rs[j].xs.length rs[j].cap (I64 rs[j].xs)) ∧ Below l w wr ∧ Rng l h w wr) (fun _ i _ => rs.length - (intOf i).toNat)
  case atStart => exact ⟨0, 1, Nat.zero_le _, rfl, rfl, by simp [tot], fun j _ hj => (ho.1 _ (List.getElem_mem hj)).1, Below.refl _ _, fun b _ => Kp.refl _ _⟩
  case round =>
    obtain ⟨k, v, hk, rfl, rfl, hv, hown, hb, hg⟩ := hrel
    have HV := Lib.hid hv
    have hvt := tot_take rs k
    have hv0 : 0 ≤ v := by omega
    have hv1 : v ≤ 1048577 := by omega
    clear hv
    by_cases hlt : k < rs.length
    · have hrw : RdC wr ad (rs.map Rw.val) := hr.keep fun b off e => (hg b (.inl (hd _ e).2))
      obtain ⟨b, off, rfl, hcell0⟩ : ∃ b off, ad = some ⟨b, off, none⟩ ∧ wr.cell? ⟨b, off + k, none⟩ = some rs[k].val := by
        rcases hrw with h1 | ⟨b, off, h1, h2⟩
        · have := congrArg List.length h1; simp only [List.length_map, List.length_nil] at this; omega
        · exact ⟨b, off, h1, by rw [h2 k (by simpa using hlt)]; simp⟩
      have hcell : wr.cell? ⟨b, off + k, none⟩ = some (Value.slice rs[k].ad rs[k].xs.length rs[k].cap) := hcell0
      have hlen := tot_mem (List.getElem_mem hlt)
      have HT := Lib.hid (tot_snoc hlt)
      have hownk := hown k (Nat.le_refl _) hlt
      have HO := Lib.hid (fun j (hj : k + 1 ≤ j) hl => hown j (by omega) hl)
      have HI := Lib.hid (ho.1 _ (List.getElem_mem hlt)).2
      have HP := Lib.hid (fun j (hj : k + 1 ≤ j) (hl : j < rs.length) => List.pairwise_iff_getElem.1 ho.2 k j hlt hl (by omega))
      clear hr ho hown hrw hcell0
      generalize rs[k] = r at *
      have hrl : r.xs.length ≤ 1048576 := by omega
      go_wp2_with fail
      refine (markIntS_any r.xs.length _ lo v r.ad r.cap _ hv0 (by omega) hrl hownk).mono ?_
      rintro e w2 ⟨rfl, -, hg2⟩
      have R1 : Hid (∀ j, k + 1 ≤ j → ∀ hj : j < rs.length, Own w2 lo 3 1 rs[j].ad rs[j].xs.length rs[j].cap (I64 rs[j].xs)) := by
        intro j hj hl
        refine (HO.out j hj hl).keep fun a ha => (Kp.refl _ _).grown hg2 ?_
        intro e
        obtain ⟨a', e1, e2⟩ := Option.map_eq_some_iff.1 e
        have := HP.out j hj hl a' a e1 ha
        omega
      have R2 : Hid (Below l w w2) := hb.trans (below_of_grown HI.out (by have := hb.size; omega) hg2)
      have R3 : Hid (Rng l h w w2) := fun b hb' => (hg b hb').trans (Rng.of_grown HI.out hg2 b hb')
      clear hownk hg2 hb hg HO HP HI
      go_wp2_with fail
      go_roundw
      case rel => exact ⟨k + 1, v + r.xs.length, by omega, by go_num, by go_num, by have := HT.out; have := HV.out; omega, R1.out, R2.out, R3.out⟩
      case measure => simp [intOf]; omega
    · clear hown hr ho
      go_wp2_with fail
      go_ret
      exact ⟨v, rfl, by omega, by omega, hb, hg⟩

end Go.Proofs.Ytfpblgbokmpmjaa
