/- Contracts over slices of slices of numbers: the laws' helpers, InputsOk. -/
import Derived.Test.YtfcijloiebnloaaList
import Derived.Test.YtfcijloiebnloaaOpen
namespace Go.Proofs.Ytfcijloiebnloaa
open Go.RowKit

/-- The rows read as they say. -/
def RdR (w : World) (ad : Option Addr) (rs : List Rw) : Prop := RdC w ad (rs.map Rw.val) ∧ ∀ r ∈ rs, RdC w r.ad (I64 r.xs)
theorem RdR.at {w : World} {ad : Option Addr} {rs : List Rw} (h : RdR w ad rs) (k : Nat) (hk : k < rs.length) :
    ∃ b off, ad = some ⟨b, off, none⟩ ∧ w.cell? ⟨b, off + k, none⟩ = some rs[k].val ∧ RdC w rs[k].ad (I64 rs[k].xs) := by
  rcases h.1 with h1 | ⟨b, off, h1, h2⟩
  · have := congrArg List.length h1; simp only [List.length_map, List.length_nil] at this; omega
  · exact ⟨b, off, h1, by rw [h2 k (by simpa using hk)]; simp, h.2 _ (List.getElem_mem _)⟩
theorem RdR.of_cell {w w' : World} {ad : Option Addr} {rs : List Rw} (h : RdR w ad rs) (hc : ∀ a v, w.cell? a = some v → w'.cell? a = some v) : RdR w' ad rs :=
  ⟨h.1.of_cell hc, fun r hr => (h.2 r hr).of_cell hc⟩
theorem RdR.below {w w' : World} {ad : Option Addr} {rs : List Rw} (h : RdR w ad rs) (hb : Below w.heap.size w w') : RdR w' ad rs :=
  h.of_cell fun _ _ ha => (hb.cell (lt_of_cell ha)).trans ha

def rowsLe (rs : List Rw) : Prop := ∀ r ∈ rs, r.xs.length ≤ maxLen
def rowOk (xs : List Int) : Bool := ((xs.length : Int) == 4) && allB xs 0 15
def rowsOk (xss : List (List Int)) : Bool := xss.all rowOk
def inputsOk (xss : List (List Int)) : Bool := rowsOk xss && ((xss.length : Int) == 5)
theorem rowOk_len {xs : List Int} (h : ((xs.length : Int) != 4) = true) : rowOk xs = false := by
  have q : ((xs.length : Int) == 4) = false := by simpa [bne] using h
  simp [rowOk, q]
theorem rowOk_bad {xs : List Int} (h : allB xs 0 15 = false) : rowOk xs = false := by simp [rowOk, h]
theorem rowOk_yes {xs : List Int} (h : ((xs.length : Int) != 4) = false) (h2 : allB xs 0 15 = true) : rowOk xs = true := by
  have q : ((xs.length : Int) == 4) = true := by simpa [bne] using h
  simp [rowOk, q, h2]
theorem rowsOk_snoc {rs : List Rw} {k : Nat} (hk : k < rs.length) (h : rowsOk ((rs.take k).map Rw.xs) = true) (h2 : rowOk rs[k].xs = true) : rowsOk ((rs.take (k + 1)).map Rw.xs) = true := by
  rw [List.take_succ_eq_append_getElem hk]
  simp only [rowsOk, List.map_append, List.all_append, List.map_cons, List.map_nil, List.all_cons, List.all_nil, Bool.and_true, Bool.and_eq_true] at *
  exact ⟨h, h2⟩
theorem rowsOk_fail {rs : List Rw} {k : Nat} (hk : k < rs.length) (h2 : rowOk rs[k].xs = false) : rowsOk (rs.map Rw.xs) = false := by
  simp only [rowsOk, List.all_eq_false, List.mem_map]
  exact ⟨_, ⟨rs[k], List.getElem_mem _, rfl⟩, by simp [h2]⟩
theorem rowsOk_full {rs : List Rw} {k : Nat} (hk : rs.length ≤ k) (h : rowsOk ((rs.take k).map Rw.xs) = true) : rowsOk (rs.map Rw.xs) = true := by rwa [List.take_of_length_le hk] at h

set_option maxHeartbeats 1000000 in
theorem sInputsOk_any (rs : List Rw) (ad : Option Addr) (cp : Nat) (w : World) (hm : rs.length ≤ maxLen) (hml : rowsLe rs) (hr : RdR w ad rs) :
    Calls Try.prog 83 #[.slice ad rs.length cp] w fun e w' => e = .returned (.bool (inputsOk (rs.map Rw.xs))) ∧ w = w' := by
  unfold maxLen at hm
  go_enter Try.func83, Try.ntmps83
  go_wp2_with fail
  go_loop [3] (fun i => ∃ k : Nat, k ≤ rs.length ∧ i = .int .i64 k ∧ rowsOk ((rs.take k).map Rw.xs) = true) (fun i => rs.length - (intOf i).toNat)
  case atStart => exact ⟨0, Nat.zero_le _, rfl, rfl⟩
  case round =>
    obtain ⟨k, hk, rfl, hall⟩ := hrel
    by_cases hlt : k < rs.length
    · obtain ⟨b, off, rfl, hcell, hrk⟩ := hr.at k hlt
      have hlen := hml _ (List.getElem_mem hlt)
      unfold maxLen at hlen
      have HA := Lib.hid hall
      have HS := Lib.hid (fun h => rowsOk_snoc hlt HA.out h)
      have HF := Lib.hid (fun h => rowsOk_fail (rs := rs) hlt h)
      clear hall hr hml
      generalize hrr : rs[k] = r at *
      clear hrr
      have hcell' : _ = some (Value.slice r.ad r.xs.length r.cap) := hcell
      clear hcell
      cases q5 : ((r.xs.length : Int) != 4) <;> cases qa : allB r.xs 0 15
      case false.true =>
        have HR := Lib.hid (HS.out (rowOk_yes q5 qa))
        clear HS HF
        go_wp2_with (go_at_call 109; refine (l12All_any r.xs _ _ _ (by unfold maxLen; omega) hrk).mono ?_; rintro e w' ⟨rfl, rfl⟩)
        go_round
        case rel => exact ⟨k + 1, by omega, by go_num, HR.out⟩
        case measure => simp [intOf]; omega
      all_goals
        have HR := Lib.hid (HF.out (by first | exact rowOk_bad qa | exact rowOk_len q5))
        clear HS HF
        go_wp2_with (go_at_call 109; refine (l12All_any r.xs _ _ _ (by unfold maxLen; omega) hrk).mono ?_; rintro e w' ⟨rfl, rfl⟩)
        go_ret
        exact ⟨ret_bool (by simp [inputsOk, HR.out]), rfl⟩
    · have HF := Lib.hid (rowsOk_full (by omega) hall)
      clear hall
      go_wp2_with fail
      go_ret
      exact ⟨ret_bool (by simp [inputsOk, HF.out]), rfl⟩
set_option maxHeartbeats 1000000 in
theorem iInputsOk_any (rs : List Rw) (ad : Option Addr) (cp : Nat) (w : World) (hm : rs.length ≤ maxLen) (hml : rowsLe rs) (hr : RdR w ad rs) :
    Calls Try.prog 88 #[.slice ad rs.length cp] w fun e w' => e = .returned (.bool (inputsOk (rs.map Rw.xs))) ∧ w = w' := by
  unfold maxLen at hm
  go_enter Try.func88, Try.ntmps88
  go_wp2_with fail
  go_loop [7] (fun i => ∃ k : Nat, k ≤ rs.length ∧ i = .int .i64 k ∧ rowsOk ((rs.take k).map Rw.xs) = true) (fun i => rs.length - (intOf i).toNat)
  case atStart => exact ⟨0, Nat.zero_le _, rfl, rfl⟩
  case round =>
    obtain ⟨k, hk, rfl, hall⟩ := hrel
    by_cases hlt : k < rs.length
    · obtain ⟨b, off, rfl, hcell, hrk⟩ := hr.at k hlt
      have hlen := hml _ (List.getElem_mem hlt)
      unfold maxLen at hlen
      have HA := Lib.hid hall
      have HS := Lib.hid (fun h => rowsOk_snoc hlt HA.out h)
      have HF := Lib.hid (fun h => rowsOk_fail (rs := rs) hlt h)
      clear hall hr hml
      generalize hrr : rs[k] = r at *
      clear hrr
      have hcell' : _ = some (Value.slice r.ad r.xs.length r.cap) := hcell
      clear hcell
      cases q5 : ((r.xs.length : Int) != 4) <;> cases qa : allB r.xs 0 15
      case false.true =>
        have HR := Lib.hid (HS.out (rowOk_yes q5 qa))
        clear HS HF
        go_wp2_with (go_at_call 58; refine (areNibbles_any r.xs _ _ _ (by unfold maxLen; omega) hrk).mono ?_; rintro e w' ⟨rfl, rfl⟩)
        go_round
        case rel => exact ⟨k + 1, by omega, by go_num, HR.out⟩
        case measure => simp [intOf]; omega
      all_goals
        have HR := Lib.hid (HF.out (by first | exact rowOk_bad qa | exact rowOk_len q5))
        clear HS HF
        go_wp2_with (go_at_call 58; refine (areNibbles_any r.xs _ _ _ (by unfold maxLen; omega) hrk).mono ?_; rintro e w' ⟨rfl, rfl⟩)
        go_ret
        exact ⟨ret_bool (by simp [inputsOk, HR.out]), rfl⟩
    · have HF := Lib.hid (rowsOk_full (by omega) hall)
      clear hall
      go_wp2_with fail
      go_ret
      exact ⟨ret_bool (by simp [inputsOk, HF.out]), rfl⟩

theorem info_ints : (Try.prog.info? 23).map (fun i => (i.zero, i.size, i.bytes)) = some (some (.slice none 0 0), 1, 24) := by kernel_rfl
theorem made_any (v : Value) (n : Nat) : (madeCells #[v] n).toList = List.replicate n v := by
  refine List.ext_getElem (by simp [madeCells]) fun i h1 h2 => ?_
  simp [madeCells, Nat.mod_one]

/-- Rows of the call's own, one behind the other. -/
def OwnR (w : World) (lo l h : Nat) (rs : List Rw) : Prop :=
  (∀ r ∈ rs, Own w lo 3 1 r.ad r.xs.length r.cap (I64 r.xs) ∧ Ins r.ad l h) ∧ rs.Pairwise (fun r r' => ∀ a a', r.ad = some a → r'.ad = some a' → a.block < a'.block)
theorem OwnR.keep {w w' : World} {lo l h : Nat} {rs : List Rw} (H : OwnR w lo l h rs) (hk : ∀ b, l ≤ b → b < h → Kp b w w') : OwnR w' lo l h rs :=
  ⟨fun r hr => ⟨(H.1 r hr).1.keep fun a ha => hk a.block ((H.1 r hr).2 a ha).1 ((H.1 r hr).2 a ha).2, (H.1 r hr).2⟩, H.2⟩
theorem OwnR.snoc {w : World} {lo l h h' : Nat} {rs : List Rw} {r : Rw} (H : OwnR w lo l h rs) (hr : Own w lo 3 1 r.ad r.xs.length r.cap (I64 r.xs)) (hi : Ins r.ad h h') (hl : l ≤ h) (hh : h ≤ h') : OwnR w lo l h' (rs ++ [r]) := by
  refine ⟨fun x hx => ?_, ?_⟩
  · rcases List.mem_append.1 hx with hx | hx
    · exact ⟨(H.1 x hx).1, fun a ha => ⟨((H.1 x hx).2 a ha).1, by have := ((H.1 x hx).2 a ha).2; omega⟩⟩
    · simp at hx; subst hx; exact ⟨hr, fun a ha => ⟨by have := (hi a ha).1; omega, (hi a ha).2⟩⟩
  · rw [List.pairwise_append]
    refine ⟨H.2, by simp, fun x hx y hy a a' ha ha' => ?_⟩
    simp at hy; subst hy
    have h1 := ((H.1 x hx).2 a ha).2
    have h2 := (hi a' ha').1
    omega



def tot (rs : List Rw) : Nat := (rs.map fun r => r.xs.length).sum
theorem tot_snoc {rs : List Rw} {k : Nat} (hk : k < rs.length) : tot (rs.take (k + 1)) = tot (rs.take k) + rs[k].xs.length := by
  rw [List.take_succ_eq_append_getElem hk]; simp only [tot, List.map_append, List.sum_append, List.map_cons, List.map_nil, List.sum_cons, List.sum_nil, Nat.add_zero]
theorem tot_take (rs : List Rw) (k : Nat) : tot (rs.take k) ≤ tot rs := by
  have h : rs = rs.take k ++ rs.drop k := (List.take_append_drop k rs).symm
  have : tot rs = tot (rs.take k) + tot (rs.drop k) := by
    conv => lhs; rw [h]
    simp only [tot, List.map_append, List.sum_append]
  omega
theorem tot_mem {rs : List Rw} {r : Rw} (h : r ∈ rs) : r.xs.length ≤ tot rs := by
  induction rs with
  | nil => cases h
  | cons a t ih =>
    have e : tot (a :: t) = a.xs.length + tot t := by simp [tot]
    rcases List.mem_cons.1 h with rfl | h
    · omega
    · have := ih h; omega
theorem tot_map {rs rs' : List Rw} (h : rs'.map Rw.xs = rs.map Rw.xs) : tot rs' = tot rs := by
  have e (l : List Rw) : tot l = ((l.map Rw.xs).map List.length).sum := by simp [tot, Function.comp_def]
  rw [e, e, h]

theorem rowsLe_of' {rs rs' : List Rw} (h : rs'.map Rw.xs = rs.map Rw.xs) (hl : ∀ r ∈ rs, r.xs.length ≤ 1048576) : ∀ r ∈ rs', r.xs.length ≤ 1048576 := by
  intro r hr
  have : r.xs ∈ rs.map Rw.xs := by rw [← h]; exact List.mem_map_of_mem hr
  obtain ⟨r', h1, h2⟩ := List.mem_map.1 this
  rw [← h2]; exact hl r' h1
theorem rowsLe_of {rs rs' : List Rw} (h : rs'.map Rw.xs = rs.map Rw.xs) (hl : ∀ r ∈ rs, r.xs.length ≤ 1048576) : rowsLe rs' := fun r hr => by
  have := rowsLe_of' h hl r hr; unfold maxLen; omega




end Go.Proofs.Ytfcijloiebnloaa
