/- markIntSS from any number on. -/
import Derived.Test.YtfpblgbokmpmjaaGrid
namespace Go.Proofs.Ytfpblgbokmpmjaa
open Go.RowKit
set_option linter.unusedVariables false
set_option maxHeartbeats 1000000 in
theorem markIntSS_k (k0 : Int) (h0 : 0 ≤ k0) (h1 : k0 ≤ 10000000) (rs : List Rw) (ad : Option Addr) (cp : Nat) (lo l h : Nat) (w : World) (hm : rs.length ≤ 1048576) (hml : tot rs ≤ 1048576) (hr : RdC w ad (rs.map Rw.val)) (hd : Ins ad 0 l) (ho : OwnR w lo l h rs) (hlw : h ≤ w.heap.size) (hlh : l ≤ h) :
    Calls Try.prog 54 #[.slice ad rs.length cp, .int .i64 k0] w fun e w' => ∃ v : Int, e = .returned (.int .i64 v) ∧ 0 ≤ v ∧ v ≤ 20000000 ∧ Below l w w' ∧ Rng l h w w' := by
  go_enter Try.func54, Try.ntmps54
  go_wp2_with fail
  go_loopw [1, 5] (fun kk i wr => ∃ (k : Nat) (v : Int), k ≤ rs.length ∧ i = .int .i64 k ∧ kk = .int .i64 v ∧ v = k0 + tot (rs.take k) ∧ (∀ j, k ≤ j → ∀ hj : j < rs.length, Own wr lo 3 1 rs[j].ad rs[j].xs.length rs[j].cap (I64 rs[j].xs)) ∧ Below l w wr ∧ Rng l h w wr) (fun _ i _ => rs.length - (intOf i).toNat)
  case atStart => exact ⟨0, k0, Nat.zero_le _, rfl, rfl, by simp [tot], fun j _ hj => (ho.1 _ (List.getElem_mem hj)).1, Below.refl _ _, fun b _ => Kp.refl _ _⟩
  case round =>
    obtain ⟨k, v, hk, rfl, rfl, hv, hown, hb, hg⟩ := hrel
    have HV := Lib.hid hv
    have hvt := tot_take rs k
    have hv0 : 0 ≤ v := by omega
    have hv1 : v ≤ 11048577 := by omega
    clear hv
    by_cases hlt : k < rs.length
    · have hrw : RdC wr ad (rs.map Rw.val) := hr.keep fun b off e => (hg b (.inl (hd _ e).2))
      obtain ⟨b, off, rfl, hcell0⟩ : ∃ b off, ad = some ⟨b, off, none⟩ ∧ wr.cell? ⟨b, off + k, none⟩ = some rs[k].val := by
        rcases hrw with h1 | ⟨b, off, h1, h2⟩
        · have := congrArg List.length h1; simp only [List.length_map, List.length_nil] at this; omega
        · exact ⟨b, off, h1, by rw [h2 k (by simpa using hlt)]; simp⟩
      have hcell : wr.cell? ⟨b, off + k, none⟩ = some (Value.slice rs[k].ad rs[k].xs.length rs[k].cap) := hcell0
      have hlen := tot_mem (List.getElem_mem hlt)
      have HT := Lib.hid (tot_snoc hlt)
      have hownk := hown k (Nat.le_refl _) hlt
      have HO := Lib.hid (fun j (hj : k + 1 ≤ j) hl => hown j (by omega) hl)
      have HI := Lib.hid (ho.1 _ (List.getElem_mem hlt)).2
      have HP := Lib.hid (fun j (hj : k + 1 ≤ j) (hl : j < rs.length) => List.pairwise_iff_getElem.1 ho.2 k j hlt hl (by omega))
      clear hr ho hown hrw hcell0
      generalize rs[k] = r at *
      have hrl : r.xs.length ≤ 1048576 := by omega
      go_wp2_with fail
      refine (markIntS_any r.xs.length _ lo v r.ad r.cap _ hv0 (by omega) hrl hownk).mono ?_
      rintro e w2 ⟨rfl, -, hg2⟩
      have R1 : Hid (∀ j, k + 1 ≤ j → ∀ hj : j < rs.length, Own w2 lo 3 1 rs[j].ad rs[j].xs.length rs[j].cap (I64 rs[j].xs)) := by
        intro j hj hl
        refine (HO.out j hj hl).keep fun a ha => (Kp.refl _ _).grown hg2 ?_
        intro e
        obtain ⟨a', e1, e2⟩ := Option.map_eq_some_iff.1 e
        have := HP.out j hj hl a' a e1 ha
        omega
      have R2 : Hid (Below l w w2) := hb.trans (below_of_grown HI.out (by have := hb.size; omega) hg2)
      have R3 : Hid (Rng l h w w2) := fun b hb' => (hg b hb').trans (Rng.of_grown HI.out hg2 b hb')
      clear hownk hg2 hb hg HO HP HI
      go_wp2_with fail
      go_roundw
      case rel => exact ⟨k + 1, v + r.xs.length, by omega, by go_num, by go_num, by have := HT.out; have := HV.out; omega, R1.out, R2.out, R3.out⟩
      case measure => simp [intOf]; omega
    · clear hown hr ho
      go_wp2_with fail
      go_ret
      exact ⟨v, rfl, by omega, by omega, hb, hg⟩
set_option maxHeartbeats 1000000 in
theorem szIntSS_k (ll : Int) (h0 : 0 ≤ ll) (h1 : ll ≤ 1048576) (rs : List Rw) (ad : Option Addr) (cp : Nat) (w : World) (hm : rs.length ≤ maxLen) (hml : rowsLe rs) (hr : RdR w ad rs) :
    Calls Try.prog 49 #[.slice ad rs.length cp, .int .i64 ll] w fun e w' => ∃ v : Int, e = .returned (.int .i64 v) ∧ -2 < v ∧ v ≤ 1048576 ∧ (v < 0 ∨ (rs.length : Int) + tot rs ≤ ll) ∧ w = w' := by
  unfold maxLen at hm
  by_cases hl : (rs.length : Int) ≤ ll
  · have q0 : decide (ll - (rs.length : Int) < 0) = false := decide_eq_false (by omega)
    go_enter Try.func49, Try.ntmps49
    go_wp2_with fail
    go_loop [1, 5] (fun l i => ∃ (k : Nat) (v : Int), k ≤ rs.length ∧ i = .int .i64 k ∧ l = .int .i64 v ∧ 0 ≤ v ∧ v ≤ 1048576 ∧ v + (rs.length + tot (rs.take k)) = ll) (fun _ i => rs.length - (intOf i).toNat)
    case atStart => exact ⟨0, ll - rs.length, Nat.zero_le _, rfl, by go_num, by omega, by omega, by simp [tot]⟩
    case round =>
      obtain ⟨k, v, hk, rfl, rfl, hv0, hv1, hsum⟩ := hrel
      by_cases hlt : k < rs.length
      · obtain ⟨b, off, rfl, hcell, hrk⟩ := hr.at k hlt
        have hlen := hml _ (List.getElem_mem hlt)
        unfold maxLen at hlen
        have HT := Lib.hid (tot_snoc hlt)
        have HS := Lib.hid hsum
        clear hml hr hsum hrk
        generalize hrr : rs[k] = r at *
        clear hrr
        have hcell' : _ = some (Value.slice r.ad r.xs.length r.cap) := hcell
        clear hcell
        by_cases q : (r.xs.length : Int) ≤ v
        · have e1 : (if (r.xs.length : Int) ≤ v then v - (r.xs.length : Int) else -1) = v - r.xs.length := if_pos q
          have E1 := Lib.hid e1
          clear e1
          go_wp2_with fail
          refine (szIntS_any r.xs.length _ _ v _ (by unfold maxLen; omega) hv0 hv1).mono ?_
          rintro e w' ⟨rfl, rfl⟩
          rw [E1.out]
          go_wp2_with fail
          go_round
          case rel => exact ⟨k + 1, v - r.xs.length, by omega, by go_num, by go_num, by omega, by omega, by have := HT.out; have := HS.out; omega⟩
          case measure => simp [intOf]; omega
        · have e1 : (if (r.xs.length : Int) ≤ v then v - (r.xs.length : Int) else -1) = -1 := if_neg q
          have E1 := Lib.hid e1
          clear e1
          go_wp2_with fail
          refine (szIntS_any r.xs.length _ _ v _ (by unfold maxLen; omega) hv0 hv1).mono ?_
          rintro e w' ⟨rfl, rfl⟩
          rw [E1.out]
          go_wp2_with fail
          go_ret
          exact ⟨-1, rfl, by omega, by omega, .inl (by omega), rfl⟩
      · have HS := Lib.hid hsum
        have HK := Lib.hid (List.take_of_length_le (l := rs) (i := k) (by omega))
        clear hsum hr hml
        go_wp2_with fail
        go_ret
        exact ⟨v, rfl, by omega, by omega, .inr (by have := HS.out; rw [HK.out] at this; omega), rfl⟩
  · go_enter Try.func49, Try.ntmps49
    have q : decide (ll - (rs.length : Int) < 0) = true := decide_eq_true (by omega)
    go_wp2_with fail
    go_ret
    exact ⟨-1, rfl, by omega, by omega, .inl (by omega), rfl⟩

end Go.Proofs.Ytfpblgbokmpmjaa
