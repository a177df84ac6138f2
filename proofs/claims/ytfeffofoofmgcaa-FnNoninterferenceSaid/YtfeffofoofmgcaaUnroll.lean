/- Appending statements; unrolled, l10Block, Unroll. -/
import Derived.Test.YtfeffofoofmgcaaUnr
import Derived.Test.YtfeffofoofmgcaaStmtList
import Derived.Test.YtfeffofoofmgcaaOpen
import Derived.Maps.AppendAt
namespace Go.Proofs.Ytfeffofoofmgcaa
open Go.RowKit
set_option linter.unusedVariables false
set_option linter.unusedSimpArgs false

theorem stCells_one (xs : List St) : ∀ u ∈ stCells xs, u.oneCell' = true := by
  intro u hu
  simp only [stCells, List.mem_flatMap, St.cells] at hu
  obtain ⟨s, _, hs⟩ := hu
  simp at hs
  rcases hs with rfl | rfl | rfl | rfl | rfl | rfl <;> rfl

theorem Own.shape {w : World} {lo e size : Nat} {v : Value} {n : Nat} {cs : List Value} (h : w.ownsRow lo e size v n cs) (hv : v ≠ .slice none 0 0) : ∃ g cap, v = .slice (some ⟨g, 0, none⟩) n cap ∧ Own w lo e size (some ⟨g, 0, none⟩) n cap cs := by
  rcases h.2 with ⟨he, h0⟩ | ⟨g, cap, cur, he, rest⟩
  · exact absurd he hv
  · subst he; exact ⟨g, cap, rfl, h⟩

section
variable {ops : Array Oper} {rest : List Oper} {o : Oper} {a : Act} {Q : Exit → Act → World → Prop}
theorem wpList_appSt (W : World) (hgd : o.guard = none) (s x : Operand) (ho : o.op = .call { callee := .builtin .append, args := #[s, x], argTypes := #[25, 25] })
    (lo n cap g B off m c : Nat) (xs ys : List St) (hs : a.eval s = .slice (some ⟨g, 0, none⟩) n cap) (hx : a.eval x = .slice (some ⟨B, off, none⟩) m c)
    (hown : Own W lo 38 6 (some ⟨g, 0, none⟩) n cap (stCells xs)) (hr : RdC W (some ⟨B, off, none⟩) (stCells ys)) (hm : ys.length = m) (hn : n + m ≤ 1048576) (hlo : lo ≤ W.heap.size)
    (h : ∀ g' cap' w', Own w' lo 38 6 (some ⟨g', 0, none⟩) (n + m) cap' (stCells (xs ++ ys)) → Below lo W w' → W.grownBy w' (some g) → (g' = g ∨ g' = W.heap.size) → wpList Try.prog ops Q rest (a.put o.dst (.slice (some ⟨g', 0, none⟩) (n + m) cap')) w') :
    wpList Try.prog ops Q (o :: rest) a W := by
  obtain ⟨i0, hi, hz0, hz1, hz2⟩ := info_parts info_st
  refine wpList_append_own_at W hgd s x 25 ho lo 38 i0 _ 6 48 Try.underlying25 hi hz0 hz1 hz2 rfl (by omega) _ n (stCells xs) hs hown ⟨B, off, none⟩ m c (stCells ys) hx (by rw [stCells_length, hm]) ?_ (stCells_one ys)
    (by unfold maxLen; omega) (by omega) hlo ?_
  · intro j u hj
    rw [add_plain]
    rcases hr with h0 | ⟨b', off', e, hc⟩
    · rw [h0] at hj; cases hj
    · simp only [Option.some.injEq, Addr.mk.injEq, and_true] at e
      obtain ⟨rfl, rfl⟩ := e
      obtain ⟨hlt, rfl⟩ := List.getElem?_eq_some_iff.1 hj
      exact hc j hlt
  · intro v' w' h2 h3 h4 h5
    have hv : v' ≠ .slice none 0 0 := fun e => by have := (h4.1 e).1; simp at this
    obtain ⟨g', cap', rfl, h6⟩ := Own.shape h2 hv
    rw [own_block] at h3
    rw [← stCells_append] at h6
    refine h g' cap' w' h6 (hown.below hlo h3) h3 ?_
    rw [own_block, own_block] at h5
    simpa using h5
end

theorem repS_len_le (j : Nat) (nn : Nat) (v : List St) (h : j ≤ nn) : (repS (j : Int) v).length ≤ nn * v.length := by
  rw [repS_length]; simp; exact Nat.mul_le_mul_right _ h

theorem own_empty (w : World) (e size : Nat) : Own (w.alloc (.cells #[] e)) w.heap.size e size (some ⟨w.heap.size, 0, none⟩) 0 0 [] := by
  refine ⟨by simp, .inr ⟨w.heap.size, 0, #[], rfl, Nat.le_refl _, heap_alloc_new w _, by simp, by simp, ?_⟩⟩
  all_goals simp

set_option maxHeartbeats 4000000 in
theorem unrolled_ur (B : Nat) : ∀ (xs us : List St) (ad : Option Addr) (cp : Nat) (w : World), B ≤ 3 → Ur B xs us → xs.length ≤ 40 → xs.length ≤ cp → cp ≤ maxLen → RdC w ad (stCells xs) →
    Calls Try.prog 93 #[.slice ad xs.length cp] w fun e w' => ∃ g c, e = .returned (.slice (some ⟨g, 0, none⟩) us.length c) ∧ Own w' w.heap.size 38 6 (some ⟨g, 0, none⟩) us.length c (stCells us) ∧ Below w.heap.size w w' := by
  induction B using Nat.strongRecOn with
  | ind B IH =>
  intro xs us ad cp w hB hu hm hcp hcm hr
  unfold maxLen at hcm
  have HIH := Lib.hid IH
  have hbd2 : us.length ≤ 20480 := Nat.le_trans (ur_bound hu) (Nat.le_trans (Nat.mul_le_mul (Nat.pow_le_pow_right (by omega) hB) hm) (by decide))
  have HR := Lib.hid hr
  clear IH
  go_enter Try.func93, Try.ntmps93
  go_wp2_with fail
  have HO := Lib.hid (own_empty w 38 6)
  go_loopw [3, 4] (fun ov i wr => ∃ (k : Nat) (rest ur done : List St) (g c : Nat), k ≤ xs.length ∧ i = .int .i64 k ∧ ov = .slice (some ⟨g, 0, none⟩) done.length c ∧ xs.drop k = rest ∧ Ur B rest ur ∧ done ++ ur = us ∧ Own wr w.heap.size 38 6 (some ⟨g, 0, none⟩) done.length c (stCells done) ∧ Below w.heap.size w wr) (fun _ i _ => xs.length - (intOf i).toNat)
  case atStart => exact ⟨0, xs, us, [], w.heap.size, 0, Nat.zero_le _, rfl, rfl, rfl, hu, rfl, HO.out, (by (repeat (first | with_reducible exact Below.refl _ _ | (with_reducible refine bel_next ?_ ?_ (by assumption)) | (with_reducible refine Below.alloc ?_ ?_ _) | (with_reducible refine Below.drew ?_) | (with_reducible refine below_drewN ?_ _) | (with_reducible refine Below.setCell ?_ ?_ _))) <;> (first | omega | (simp; done) | (simp; omega)))⟩
  case round =>
    obtain ⟨k, rest, ur, done, g, c, hk, rfl, rfl, hd, hur, hml, hown, hbw⟩ := hrel
    have hbs := hbw.size
    have hgl := hown.ge
    have hml2 : done.length + ur.length = us.length := by rw [← hml]; simp
    rcases ur_cases hur with ⟨rfl, rfl⟩ | ⟨s, r, u, rfl, rfl, hs1, hs2, hs3, hu2⟩ | ⟨B', l, e, body, r, v, u, rfl, rfl, rfl, hl1, he1, hl2, he2, hu1, hu2⟩
    · have hk2 : xs.length ≤ k := by simpa using hd
      have hmm : done = us := by simpa using hml
      have HOW := Lib.hid hown
      subst hmm
      clear hd hur hml hu hr hown
      go_wp2_with fail
      go_ret
      exact ⟨g, c, rfl, HOW.out, hbw⟩
    · obtain ⟨hx, hd2, hlt⟩ := drop_at hd
      obtain ⟨b, off, op, dst, sa, sb, sc, sn, rfl, hbl, hx', c0, c1, c2, c3, c4, c5⟩ := (hr.below hbw).st k hlt
      rw [hx] at hx'
      simp only [Option.some.injEq] at hx'
      subst hx'
      simp only at hs2 hs3
      have q12 : (op != 12) = true := by simpa using hs2
      have HD := Lib.hid hd2
      have HU := Lib.hid hu2
      have HM := Lib.hid hml
      have HOW := Lib.hid hown
      have hmb : done.length ≤ 20480 := by omega
      have HNEW := Lib.hid (fun W => RdC.alloc W (St.cells ⟨op, dst, sa, sb, sc, sn⟩).toArray 38)
      clear hd hur hx hd2 hu2 hml hs1 hs2 hs3 hu hr hown hml2
      go_wp2_with (refine wpList_appSt _ rfl _ _ rfl w.heap.size done.length c g wr.heap.size 0 1 1 done [⟨op, dst, sa, sb, sc, sn⟩] (by rfl) (by rfl) (HOW.out.alloc _) (HNEW.out _) rfl (by omega) (by simp; omega) ?_; intro g' c' w2 ho2 hb2 hg2 hat)
      go_roundw
      case rel => exact ⟨k + 1, r, u, done ++ [⟨op, dst, sa, sb, sc, sn⟩], g', c', by omega, by go_num, by simp, HD.out, HU.out, by have := HM.out; simpa using this, by simpa using ho2, (by (repeat (first | with_reducible exact Below.refl _ _ | (with_reducible refine bel_next ?_ ?_ (by assumption)) | (with_reducible refine Below.alloc ?_ ?_ _) | (with_reducible refine Below.drew ?_) | (with_reducible refine below_drewN ?_ _) | (with_reducible refine Below.setCell ?_ ?_ _))) <;> (first | omega | (simp; done) | (simp; omega)))⟩
      case measure => simp [intOf]; omega
    · obtain ⟨hx, hd2, hlt⟩ := drop_at hd
      obtain ⟨b, off, op, dst, sa, sb, sc, sn, rfl, hbl, hx', w0, w1, w2, w3, w4, w5⟩ := hr.st k hlt
      rw [hx] at hx'
      simp only [Option.some.injEq] at hx'
      subst hx'
      simp only at hl2
      subst hl2
      obtain ⟨n1, n8⟩ := stOk_loop hl1 rfl
      simp only at n1 n8
      obtain ⟨nn, rfl⟩ := Int.eq_ofNat_of_zero_le (show 0 ≤ sn by omega)
      obtain ⟨q, hq⟩ : ∃ q, q = k + 1 + body.length := ⟨_, rfl⟩
      have hlen : xs.length - k = 1 + (body.length + (1 + r.length)) := by
        have := congrArg List.length hd
        simp at this; omega
      have hqlt : q < xs.length := by omega
      have hbody : (xs.drop (k + 1)).take (q - (k + 1)) = body := by
        rw [hd2, show q - (k + 1) = body.length from by omega, List.take_left']; rfl
      have hrest : xs.drop (q + 1) = r := by
        rw [show q + 1 = (k + 1) + (body.length + 1) from by omega, ← List.drop_drop, hd2, ← List.drop_drop, List.drop_left']; rfl; rfl
      have hmat := matching_any xs (some ⟨b, off, none⟩) cp k B' ⟨12, dst, sa, sb, sc, (nn : Int)⟩ e body r v
      rw [← hq] at hmat
      have HMT := Lib.hid (fun W hR => hmat W hm hR hd rfl he2 hu1 (by omega))
      have hub : v.length ≤ 20480 := Nat.le_trans (ur_bound hu1) (Nat.le_trans (Nat.mul_le_mul (Nat.pow_le_pow_right (by omega) (by omega : B' ≤ 3)) (by omega : body.length ≤ 40)) (by decide))
      have hsub := fun W hR => HIH.out B' (by omega) body v (some ⟨b, off + (k + 1) * 6, none⟩) (cp - (k + 1)) W (by omega) hu1 (by omega) (by omega) (by unfold maxLen; omega) hR
      rw [show body.length = q - (k + 1) from by omega] at hsub
      have HSUB := Lib.hid hsub
      have HPART := Lib.hid (hr.part (k + 1) body (q - (k + 1)) hbody)
      have HRS := Lib.hid hrest
      have HU := Lib.hid hu2
      have hPle : nn * v.length ≤ us.length := by rw [← hml, List.length_append, List.length_append, repS_length]; simp; omega
      have HM := Lib.hid hml
      have hdl : done.length + nn * v.length ≤ 20480 := by
        have h := hml2
        rw [List.length_append, repS_length] at h
        simp at h; omega
      have HOW := Lib.hid hown
      have b1 : (0 : Int) ≤ ↑k + 1 := by omega
      have b3 : q ≤ cp := by omega
      have b4 : (↑k + 1 : Int) ≤ ↑q := by omega
      have b5 : ¬ cp = k + 1 := by omega
      have hkq : k < q := by omega
      clear hd hur hx hd2 hu2 hml hml2 hu hbody hrest hmat hsub hlen hq hl1 he1 he2 hu1 hown hPle
      have c5 := bel_keeps hbw w5
      have c0 := bel_keeps hbw w0
      have HRW := Lib.hid hr
      clear hr
      go_wp2_with (first | (go_at_call 85; refine (HMT.out _ (HRW.out.below (by (repeat (first | with_reducible exact Below.refl _ _ | (with_reducible refine bel_next ?_ ?_ (by assumption)) | (with_reducible refine Below.alloc ?_ ?_ _) | (with_reducible refine Below.drew ?_) | (with_reducible refine below_drewN ?_ _) | (with_reducible refine Below.setCell ?_ ?_ _))) <;> (first | omega | (simp; done) | (simp; omega))))).mono ?_; rintro e1 w2 ⟨rfl, rfl⟩) | (go_at_call 93; refine (HSUB.out _ (HPART.out.below (by (repeat (first | with_reducible exact Below.refl _ _ | (with_reducible refine bel_next ?_ ?_ (by assumption)) | (with_reducible refine Below.alloc ?_ ?_ _) | (with_reducible refine Below.drew ?_) | (with_reducible refine below_drewN ?_ _) | (with_reducible refine Below.setCell ?_ ?_ _))) <;> (first | omega | (simp; done) | (simp; omega))))).mono ?_; rintro e1 wb ⟨gb, cb, rfl, hob, hbb⟩))
      have hbz := hbb.size
      have hgb := hob.ge
      have HOB := Lib.hid hob
      have HOD : Hid (Own wb w.heap.size 38 6 (some ⟨g, 0, none⟩) done.length c (stCells done)) := HOW.out.later ((Kp.refl _ _).below hbb)
      have hbwb : Below w.heap.size w wb := (by (repeat (first | with_reducible exact Below.refl _ _ | (with_reducible refine bel_next ?_ ?_ (by assumption)) | (with_reducible refine Below.alloc ?_ ?_ _) | (with_reducible refine Below.drew ?_) | (with_reducible refine below_drewN ?_ _) | (with_reducible refine Below.setCell ?_ ?_ _))) <;> (first | omega | (simp; done) | (simp; omega)))
      have HBWB := Lib.hid hbwb
      clear hob hbwb c5 c0
      go_loopw [3, 7] (fun ov i wi => ∃ (j : Nat) (acc : List St) (g2 c2 : Nat), j ≤ nn ∧ i = .int .i64 j ∧ acc = done ++ repS (j : Int) v ∧ ov = .slice (some ⟨g2, 0, none⟩) acc.length c2 ∧ Own wi w.heap.size 38 6 (some ⟨g2, 0, none⟩) acc.length c2 (stCells acc) ∧ RdC wi (some ⟨gb, 0, none⟩) (stCells v) ∧ g2 ≠ gb ∧ gb < wi.heap.size ∧ Below w.heap.size w wi) (fun _ i _ => nn - (intOf i).toNat)
      case atStart => exact ⟨0, done, g, c, Nat.zero_le _, rfl, by simp [repS_zero], rfl, HOD.out, HOB.out.rd, by omega, by omega, HBWB.out⟩
      case round =>
        obtain ⟨j, acc, g2, c2, hj, rfl, hacc, rfl, howi, hrv, hne, hgl2, hbi⟩ := hrel
        have hbis := hbi.size
        have hgi := howi.ge
        have c5 := bel_keeps hbi w5
        have hal : acc.length + (nn - j) * v.length = done.length + nn * v.length := by
          rw [hacc, List.length_append, repS_length]
          simp only [Int.toNat_natCast]
          have := Nat.add_mul j (nn - j) v.length
          rw [show j + (nn - j) = nn from by omega] at this
          omega
        have HOI := Lib.hid howi
        have HRV := Lib.hid hrv
        have HAC := Lib.hid hacc
        clear howi hrv hacc
        by_cases hjn : j < nn
        · have hstep : acc.length + v.length ≤ 20480 := by
            have : (nn - j) * v.length = (nn - j - 1) * v.length + v.length := by
              have := Nat.succ_mul (nn - j - 1) v.length
              rw [show (nn - j - 1).succ = nn - j from by omega] at this
              exact this
            omega
          have HAS : Hid (acc ++ v = done ++ repS ((j + 1 : Nat) : Int) v) := by
            show _ = _
            rw [HAC.out, Int.natCast_add, show ((1 : Nat) : Int) = 1 from rfl, repS_succ, List.append_assoc]
          clear hal
          go_wp2_with (refine wpList_appSt _ rfl _ _ rfl w.heap.size acc.length c2 g2 gb 0 v.length cb acc v (by rfl) (by rfl) HOI.out HRV.out rfl (by omega) (by omega) ?_; intro g' c' w3 ho3 hb3 hg3 hat)
          have hb3s := hg3.size
          have hrv3 : RdC w3 (some ⟨gb, 0, none⟩) (stCells v) := HRV.out.keep fun b' off' h => by
            simp only [Option.some.injEq, Addr.mk.injEq, and_true] at h
            obtain ⟨rfl, _⟩ := h
            exact (Kp.refl _ _).grown hg3 (by simp; omega)
          go_roundw
          case rel => exact ⟨j + 1, acc ++ v, g', c', by omega, by go_num, HAS.out, by simp, by simpa using ho3, hrv3, by omega, by omega, hbi.trans hb3⟩
          case measure => simp [intOf]; omega
        · have hjnn : nn = j := by omega
          have HJ := Lib.hid hjnn
          have HAL := Lib.hid hal
          have hal2 : acc.length ≤ 20480 := by omega
          have hdj : decide ((j : Int) < (nn : Int)) = false := by simp; omega
          clear hal hjnn
          go_wp2_with fail
          go_roundw
          case rel => exact ⟨q + 1, r, u, acc, g2, c2, by omega, by go_num, rfl, HRS.out, HU.out, by have := HM.out; rw [HAC.out, ← HJ.out, List.append_assoc]; exact this, HOI.out, hbi⟩
          case measure => simp [intOf]; omega
theorem ret_sl {a : Option Addr} {n n' c : Nat} {x y : Int} (h : n = n') (h' : x = y) : Ending.returned (.tuple #[.slice a n c, .int .i64 x]) = .returned (.tuple #[.slice a n' c, .int .i64 y]) := by rw [h, h']
set_option maxHeartbeats 4000000 in
theorem l10Block_ur (B : Nat) : ∀ (xs blk tail us : List St) (ad : Option Addr) (cp k0 : Nat) (w : World), B ≤ 3 → Ur B blk us → xs.length ≤ 40 → k0 ≤ xs.length → xs.drop k0 = blk ++ tail → (∀ s r, tail = s :: r → s.op = 13) → RdC w ad (stCells xs) →
    Calls Try.prog 92 #[.slice ad xs.length cp, .int .i64 k0] w fun e w' => ∃ g c, e = .returned (.tuple #[.slice (some ⟨g, 0, none⟩) us.length c, .int .i64 ((k0 + blk.length : Nat) : Int)]) ∧ Own w' w.heap.size 38 6 (some ⟨g, 0, none⟩) us.length c (stCells us) ∧ Below w.heap.size w w' := by
  induction B using Nat.strongRecOn with
  | ind B IH =>
  intro xs blk tail us ad cp k0 w hB hu hm hk0 hd0 ht hr
  have HIH := Lib.hid IH
  have HT := Lib.hid ht
  have hbl0 : k0 + blk.length ≤ xs.length ∨ blk = [] := by
    have := congrArg List.length hd0
    simp at this
    by_cases h : blk = []
    · exact .inr h
    · have : 0 < blk.length := List.length_pos_iff.2 h
      exact .inl (by omega)
  have hbl40 : blk.length ≤ 40 := by rcases hbl0 with h | h <;> (first | omega | (rw [h]; simp))
  have hbd2 : us.length ≤ 20480 := Nat.le_trans (ur_bound hu) (Nat.le_trans (Nat.mul_le_mul (Nat.pow_le_pow_right (by omega) hB) hbl40) (by decide))
  have HR := Lib.hid hr
  have HD0 := Lib.hid hd0
  clear IH ht hbl0 hd0
  go_enter Try.func92, Try.ntmps92
  go_wp2_with fail
  have HO := Lib.hid (own_empty w 38 6)
  go_loopw [1, 6] (fun i ov wr => ∃ (k : Nat) (rest ur done : List St) (g c : Nat), k ≤ xs.length ∧ i = .int .i64 k ∧ ov = .slice (some ⟨g, 0, none⟩) done.length c ∧ xs.drop k = rest ++ tail ∧ Ur B rest ur ∧ done ++ ur = us ∧ k + rest.length = k0 + blk.length ∧ Own wr w.heap.size 38 6 (some ⟨g, 0, none⟩) done.length c (stCells done) ∧ Below w.heap.size w wr) (fun i _ _ => xs.length - (intOf i).toNat)
  case atStart => exact ⟨k0, blk, us, [], w.heap.size, 0, by omega, rfl, rfl, HD0.out, hu, rfl, rfl, HO.out, (by (repeat (first | with_reducible exact Below.refl _ _ | (with_reducible refine bel_next ?_ ?_ (by assumption)) | (with_reducible refine Below.alloc ?_ ?_ _) | (with_reducible refine Below.drew ?_) | (with_reducible refine below_drewN ?_ _) | (with_reducible refine Below.setCell ?_ ?_ _))) <;> (first | omega | (simp; done) | (simp; omega)))⟩
  case round =>
    obtain ⟨k, rest, ur, done, g, c, hk, rfl, rfl, hd, hur, hml, hkl, hown, hbw⟩ := hrel
    have hbs := hbw.size
    have hgl := hown.ge
    have hml2 : done.length + ur.length = us.length := by rw [← hml]; simp
    rcases ur_cases hur with ⟨rfl, rfl⟩ | ⟨s, r, u, rfl, rfl, hs1, hs2, hs3, hu2⟩ | ⟨B', l, e, body, r, v, u, rfl, rfl, rfl, hl1, he1, hl2, he2, hu1, hu2⟩
    · have hmm : done = us := by simpa using hml
      have hkk : k = k0 + blk.length := by simpa using hkl
      have HKK := Lib.hid hkk
      have HOW := Lib.hid hown
      subst hmm
      by_cases hlt : k < xs.length
      · obtain ⟨b, off, op, dst, sa, sb, sc, sn, rfl, hbl, hx', c0, c1, c2, c3, c4, c5⟩ := (hr.below hbw).st k hlt
        have ho : op = 13 := by
          cases tail with
          | nil => simp at hd; omega
          | cons s r => have h1 := HT.out s r rfl; have := (drop_at hd).1; rw [hx'] at this; simp only [Option.some.injEq] at this; rw [← this] at h1; exact h1
        subst ho
        clear hd hur hml hu hr hkk hkl hx' hown
        go_wp2_with fail
        go_ret2
        exact ⟨g, c, ret_sl rfl (by have := HKK.out; omega), HOW.out, hbw⟩
      · clear hd hur hml hu hr hkk hkl hown
        go_wp2_with fail
        go_ret2
        exact ⟨g, c, ret_sl rfl (by have := HKK.out; omega), HOW.out, hbw⟩
    · obtain ⟨hx, hd2, hlt⟩ := drop_at hd
      obtain ⟨b, off, op, dst, sa, sb, sc, sn, rfl, hbl, hx', c0, c1, c2, c3, c4, c5⟩ := (hr.below hbw).st k hlt
      rw [hx] at hx'
      simp only [Option.some.injEq] at hx'
      subst hx'
      simp only at hs2 hs3
      have q12 : (op != 12) = true := by simpa using hs2
      have q13 : (op != 13) = true := by simpa using hs3
      have HK := Lib.hid hkl
      clear hkl
      have HD := Lib.hid hd2
      have HU := Lib.hid hu2
      have HM := Lib.hid hml
      have HOW := Lib.hid hown
      have hmb : done.length ≤ 20480 := by omega
      have HNEW := Lib.hid (fun W => RdC.alloc W (St.cells ⟨op, dst, sa, sb, sc, sn⟩).toArray 38)
      clear hd hur hx hd2 hu2 hml hs1 hs2 hs3 hu hr hown hml2
      go_wp2_with (refine wpList_appSt _ rfl _ _ rfl w.heap.size done.length c g wr.heap.size 0 1 1 done [⟨op, dst, sa, sb, sc, sn⟩] (by rfl) (by rfl) (HOW.out.alloc _) (HNEW.out _) rfl (by omega) (by simp; omega) ?_; intro g' c' w2 ho2 hb2 hg2 hat)
      go_roundw
      case rel => exact ⟨k + 1, r, u, done ++ [⟨op, dst, sa, sb, sc, sn⟩], g', c', by omega, by go_num, by simp, HD.out, HU.out, by have := HM.out; simpa using this, by have := HK.out; simp at this; omega, by simpa using ho2, (by (repeat (first | with_reducible exact Below.refl _ _ | (with_reducible refine bel_next ?_ ?_ (by assumption)) | (with_reducible refine Below.alloc ?_ ?_ _) | (with_reducible refine Below.drew ?_) | (with_reducible refine below_drewN ?_ _) | (with_reducible refine Below.setCell ?_ ?_ _))) <;> (first | omega | (simp; done) | (simp; omega)))⟩
      case measure => simp [intOf]; omega
    · have hda : xs.drop k = l :: (body ++ e :: (r ++ tail)) := by rw [hd]; simp
      obtain ⟨hx, hd2, hlt⟩ := drop_at hda
      obtain ⟨b, off, op, dst, sa, sb, sc, sn, rfl, hbl, hx', w0, w1, w2, w3, w4, w5⟩ := hr.st k hlt
      rw [hx] at hx'
      simp only [Option.some.injEq] at hx'
      subst hx'
      simp only at hl2
      subst hl2
      obtain ⟨n1, n8⟩ := stOk_loop hl1 rfl
      simp only at n1 n8
      obtain ⟨nn, rfl⟩ := Int.eq_ofNat_of_zero_le (show 0 ≤ sn by omega)
      obtain ⟨q, hq⟩ : ∃ q, q = k + 1 + body.length := ⟨_, rfl⟩
      have hlen : xs.length - k = 1 + (body.length + (1 + (r.length + tail.length))) := by
        have := congrArg List.length hda
        simp at this; omega
      have hqlt : q < xs.length := by omega
      have hrest : xs.drop (q + 1) = r ++ tail := by
        rw [show q + 1 = (k + 1) + (body.length + 1) from by omega, ← List.drop_drop, hd2, ← List.drop_drop, List.drop_left']; rfl; rfl
      have hub : v.length ≤ 20480 := Nat.le_trans (ur_bound hu1) (Nat.le_trans (Nat.mul_le_mul (Nat.pow_le_pow_right (by omega) (by omega : B' ≤ 3)) (by omega : body.length ≤ 40)) (by decide))
      have hsub := fun W hR => HIH.out B' (by omega) xs body (e :: (r ++ tail)) v (some ⟨b, off, none⟩) cp (k + 1) W (by omega) hu1 hm (by omega) hd2 (by intro s r' h; cases h; exact he2) hR
      rw [← hq] at hsub
      have HSUB := Lib.hid hsub
      have hkl2 : q + 1 + r.length = k0 + blk.length := by rw [← hkl]; simp; omega
      have HK := Lib.hid hkl2
      have HRS := Lib.hid hrest
      have HU := Lib.hid hu2
      have hPle : nn * v.length ≤ us.length := by rw [← hml, List.length_append, List.length_append, repS_length]; simp; omega
      have HM := Lib.hid hml
      have hdl : done.length + nn * v.length ≤ 20480 := by
        have h := hml2
        rw [List.length_append, repS_length] at h
        simp at h; omega
      have HOW := Lib.hid hown
      have hkq : k < q := by omega
      clear hd hda hur hx hd2 hu2 hml hml2 hu hrest hsub hlen hq hl1 he1 he2 hu1 hown hPle hkl hkl2
      have c5 := bel_keeps hbw w5
      have c0 := bel_keeps hbw w0
      have HRW := Lib.hid hr
      clear hr
      go_wp2_with (go_at_call 92; refine (HSUB.out _ (HRW.out.below (by (repeat (first | with_reducible exact Below.refl _ _ | (with_reducible refine bel_next ?_ ?_ (by assumption)) | (with_reducible refine Below.alloc ?_ ?_ _) | (with_reducible refine Below.drew ?_) | (with_reducible refine below_drewN ?_ _) | (with_reducible refine Below.setCell ?_ ?_ _))) <;> (first | omega | (simp; done) | (simp; omega))))).mono ?_; rintro e1 wb ⟨gb, cb, rfl, hob, hbb⟩)
      have hbz := hbb.size
      have hgb := hob.ge
      have HOB := Lib.hid hob
      have HOD : Hid (Own wb w.heap.size 38 6 (some ⟨g, 0, none⟩) done.length c (stCells done)) := HOW.out.later ((Kp.refl _ _).below hbb)
      have hbwb : Below w.heap.size w wb := (by (repeat (first | with_reducible exact Below.refl _ _ | (with_reducible refine bel_next ?_ ?_ (by assumption)) | (with_reducible refine Below.alloc ?_ ?_ _) | (with_reducible refine Below.drew ?_) | (with_reducible refine below_drewN ?_ _) | (with_reducible refine Below.setCell ?_ ?_ _))) <;> (first | omega | (simp; done) | (simp; omega)))
      have HBWB := Lib.hid hbwb
      clear hob hbwb c5 c0
      go_loopw [6, 9] (fun ov i wi => ∃ (j : Nat) (acc : List St) (g2 c2 : Nat), j ≤ nn ∧ i = .int .i64 j ∧ acc = done ++ repS (j : Int) v ∧ ov = .slice (some ⟨g2, 0, none⟩) acc.length c2 ∧ Own wi w.heap.size 38 6 (some ⟨g2, 0, none⟩) acc.length c2 (stCells acc) ∧ RdC wi (some ⟨gb, 0, none⟩) (stCells v) ∧ g2 ≠ gb ∧ gb < wi.heap.size ∧ Below w.heap.size w wi) (fun _ i _ => nn - (intOf i).toNat)
      case atStart => exact ⟨0, done, g, c, Nat.zero_le _, rfl, by simp [repS_zero], rfl, HOD.out, HOB.out.rd, by omega, by omega, HBWB.out⟩
      case round =>
        obtain ⟨j, acc, g2, c2, hj, rfl, hacc, rfl, howi, hrv, hne, hgl2, hbi⟩ := hrel
        have hbis := hbi.size
        have hgi := howi.ge
        have c5 := bel_keeps hbi w5
        have hal : acc.length + (nn - j) * v.length = done.length + nn * v.length := by
          rw [hacc, List.length_append, repS_length]
          simp only [Int.toNat_natCast]
          have := Nat.add_mul j (nn - j) v.length
          rw [show j + (nn - j) = nn from by omega] at this
          omega
        have HOI := Lib.hid howi
        have HRV := Lib.hid hrv
        have HAC := Lib.hid hacc
        clear howi hrv hacc
        by_cases hjn : j < nn
        · have hstep : acc.length + v.length ≤ 20480 := by
            have : (nn - j) * v.length = (nn - j - 1) * v.length + v.length := by
              have := Nat.succ_mul (nn - j - 1) v.length
              rw [show (nn - j - 1).succ = nn - j from by omega] at this
              exact this
            omega
          have HAS : Hid (acc ++ v = done ++ repS ((j + 1 : Nat) : Int) v) := by
            show _ = _
            rw [HAC.out, Int.natCast_add, show ((1 : Nat) : Int) = 1 from rfl, repS_succ, List.append_assoc]
          clear hal
          go_wp2_with (refine wpList_appSt _ rfl _ _ rfl w.heap.size acc.length c2 g2 gb 0 v.length cb acc v (by rfl) (by rfl) HOI.out HRV.out rfl (by omega) (by omega) ?_; intro g' c' w3 ho3 hb3 hg3 hat)
          have hb3s := hg3.size
          have hrv3 : RdC w3 (some ⟨gb, 0, none⟩) (stCells v) := HRV.out.keep fun b' off' h => by
            simp only [Option.some.injEq, Addr.mk.injEq, and_true] at h
            obtain ⟨rfl, _⟩ := h
            exact (Kp.refl _ _).grown hg3 (by simp; omega)
          go_roundw
          case rel => exact ⟨j + 1, acc ++ v, g', c', by omega, by go_num, HAS.out, by simp, by simpa using ho3, hrv3, by omega, by omega, hbi.trans hb3⟩
          case measure => simp [intOf]; omega
        · have hjnn : nn = j := by omega
          have HJ := Lib.hid hjnn
          have HAL := Lib.hid hal
          have hal2 : acc.length ≤ 20480 := by omega
          have hdj : decide ((j : Int) < (nn : Int)) = false := by simp; omega
          clear hal hjnn
          go_wp2_with fail
          go_roundw
          case rel => exact ⟨q + 1, r, u, acc, g2, c2, by omega, by go_num, rfl, HRS.out, HU.out, by have := HM.out; rw [HAC.out, ← HJ.out, List.append_assoc]; exact this, HK.out, HOI.out, hbi⟩
          case measure => simp [intOf]; omega

/-- What Unroll hands back. -/
def IsUnr (xs us : List St) (ok : Bool) : Prop :=
  (ok = false ∧ us = [] ∧ progOk xs = false) ∨ (ok = false ∧ us = [] ∧ progOk xs = true ∧ xs.length ≤ 40 ∧ ∃ u, Ur 3 xs u ∧ 120 < u.length ∧ u.length ≤ 20480) ∨
  (ok = true ∧ progOk xs = true ∧ xs.length ≤ 40 ∧ Ur 3 xs us ∧ us.length ≤ 120)
theorem unr_ex (xs : List St) : ∃ us ok, IsUnr xs us ok := by
  obtain ⟨v, hv⟩ := size_ex xs
  rcases hv with ⟨h, _⟩ | ⟨h, hl, us, hu, _, hb⟩
  · exact ⟨[], false, .inl ⟨rfl, rfl, h⟩⟩
  · by_cases h120 : us.length ≤ 120
    · exact ⟨us, true, .inr (.inr ⟨rfl, h, hl, hu, h120⟩)⟩
    · exact ⟨[], false, .inr (.inl ⟨rfl, rfl, h, hl, us, hu, by omega, hb⟩)⟩
theorem unr_len {xs us : List St} {ok : Bool} (h : IsUnr xs us ok) : us.length ≤ 120 := by
  rcases h with ⟨_, rfl, _⟩ | ⟨_, rfl, _⟩ | ⟨_, _, _, _, h⟩
  · simp
  · simp
  · exact h

set_option maxHeartbeats 1000000 in
theorem iUnroll_any (xs us : List St) (ok : Bool) (hv : IsUnr xs us ok) (ad : Option Addr) (cp : Nat) (w : World) (hm : xs.length ≤ maxLen) (hcp : xs.length ≤ cp) (hcm : cp ≤ maxLen) (hr : RdC w ad (stCells xs)) :
    Calls Try.prog 41 #[.slice ad xs.length cp] w fun e w' => ∃ a c, e = .returned (.tuple #[.slice a us.length c, .bool ok]) ∧ Own w' w.heap.size 38 6 a us.length c (stCells us) ∧ Below w.heap.size w w' := by
  have hmm := hm
  unfold maxLen at hm
  have HR := Lib.hid hr
  clear hr
  rcases hv with ⟨rfl, rfl, hp⟩ | ⟨rfl, rfl, hp, hl, u, hu, h1, h2⟩ | ⟨rfl, hp, hl, hu, h1⟩
  · have HP := Lib.hid hp
    clear hp
    go_enter Try.func41, Try.ntmps41
    go_wp2_with (go_at_call 71; refine (iProgramOk_any xs _ _ _ (by unfold maxLen; omega) HR.out).mono ?_; rintro e w1 ⟨rfl, hb⟩; rw [HP.out])
    go_ret2
    exact ⟨none, 0, rfl, Own.nil _ _ _ _, hb⟩
  · have HP := Lib.hid hp
    have HU := Lib.hid hu
    clear hp hu
    go_enter Try.func41, Try.ntmps41
    go_wp2_with (first | (go_at_call 71; refine (iProgramOk_any xs _ _ _ (by unfold maxLen; omega) HR.out).mono ?_; rintro e w1 ⟨rfl, hb⟩; rw [HP.out]) | (go_at_call 29; refine (iUnrolledSize_ur 3 xs u _ _ _ (Nat.le_refl _) HU.out hl hcp hcm (HR.out.below hb)).mono ?_; rintro e w2 ⟨rfl, hb2⟩))
    go_ret2
    exact ⟨none, 0, rfl, Own.nil _ _ _ _, hb.trans (hb2.mono hb.size)⟩
  · have HP := Lib.hid hp
    have HU := Lib.hid hu
    clear hp hu
    go_enter Try.func41, Try.ntmps41
    go_wp2_with (first | (go_at_call 71; refine (iProgramOk_any xs _ _ _ (by unfold maxLen; omega) HR.out).mono ?_; rintro e w1 ⟨rfl, hb⟩; rw [HP.out]) | (go_at_call 29; refine (iUnrolledSize_ur 3 xs us _ _ _ (Nat.le_refl _) HU.out hl hcp hcm (HR.out.below hb)).mono ?_; rintro e w2 ⟨rfl, hb2⟩) | (go_at_call 93; refine (unrolled_ur 3 xs us _ _ _ (Nat.le_refl _) HU.out hl hcp hcm ((HR.out.below hb).below hb2)).mono ?_; rintro e w3 ⟨g, c, rfl, ho, hb3⟩))
    go_ret2
    have z1 := hb.size
    have z2 := hb2.size
    exact ⟨some ⟨g, 0, none⟩, c, rfl, ho.lo (by omega), (hb.trans (hb2.mono z1)).trans (hb3.mono (by omega))⟩

set_option maxHeartbeats 1000000 in
theorem sUnroll_any (xs us : List St) (ok : Bool) (hv : IsUnr xs us ok) (ad : Option Addr) (cp : Nat) (w : World) (hm : xs.length ≤ maxLen) (hcp : xs.length ≤ cp) (hcm : cp ≤ maxLen) (hr : RdC w ad (stCells xs)) :
    Calls Try.prog 40 #[.slice ad xs.length cp] w fun e w' => ∃ a c, e = .returned (.tuple #[.slice a us.length c, .bool ok]) ∧ Own w' w.heap.size 38 6 a us.length c (stCells us) ∧ Below w.heap.size w w' := by
  have hmm := hm
  unfold maxLen at hm
  have HR := Lib.hid hr
  clear hr
  rcases hv with ⟨rfl, rfl, hp⟩ | ⟨rfl, rfl, hp, hl, u, hu, h1, h2⟩ | ⟨rfl, hp, hl, hu, h1⟩
  · have HV := Lib.hid (show IsSize xs (-1) from .inl ⟨hp, rfl⟩)
    clear hp
    go_enter Try.func40, Try.ntmps40
    go_wp2_with (go_at_call 28; refine (sUnrolledSize_any xs (-1) HV.out _ _ _ hmm hcp hcm HR.out).mono ?_; rintro e w1 ⟨rfl, hb⟩)
    go_ret2
    have z1 := hb.size
    exact ⟨some ⟨w1.heap.size, 0, none⟩, 0, rfl, (own_empty w1 _ 6).lo z1, hb.alloc z1 _⟩
  · have HV := Lib.hid (show IsSize xs u.length from .inr ⟨hp, hl, u, hu, rfl, h2⟩)
    clear hp hu
    go_enter Try.func40, Try.ntmps40
    go_wp2_with (go_at_call 28; refine (sUnrolledSize_any xs _ HV.out _ _ _ hmm hcp hcm HR.out).mono ?_; rintro e w1 ⟨rfl, hb⟩)
    go_ret2
    have z1 := hb.size
    exact ⟨some ⟨w1.heap.size, 0, none⟩, 0, rfl, (own_empty w1 _ 6).lo z1, hb.alloc z1 _⟩
  · have HV := Lib.hid (show IsSize xs us.length from .inr ⟨hp, hl, us, hu, rfl, by omega⟩)
    have HU := Lib.hid hu
    clear hp hu
    go_enter Try.func40, Try.ntmps40
    go_wp2_with (first | (go_at_call 28; refine (sUnrolledSize_any xs _ HV.out _ _ _ hmm hcp hcm HR.out).mono ?_; rintro e w1 ⟨rfl, hb⟩) | (go_at_call 92; refine (l10Block_ur 3 xs xs [] us _ _ 0 _ (Nat.le_refl _) HU.out hl (Nat.zero_le _) (by simp) (by intro s r h; cases h) (HR.out.below hb)).mono ?_; rintro e w3 ⟨g, c, rfl, ho, hb3⟩))
    go_ret2
    have z1 := hb.size
    exact ⟨some ⟨g, 0, none⟩, c, rfl, ho.lo (by omega), hb.trans (hb3.mono z1)⟩
end Go.Proofs.Ytfeffofoofmgcaa
