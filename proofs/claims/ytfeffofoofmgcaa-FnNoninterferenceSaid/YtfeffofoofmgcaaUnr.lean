/- matching, UnrolledSize, l10Size. -/
import Derived.Test.YtfeffofoofmgcaaProgOk
import Derived.Test.YtfeffofoofmgcaaQuiet
namespace Go.Proofs.Ytfeffofoofmgcaa
open Go.RowKit
set_option linter.unusedVariables false
set_option linter.unusedSimpArgs false

theorem depF_pre {xs : List St} {d e : Int} (h : depF d xs = some e) (k : Nat) : ∃ c, depF d (xs.take k) = some c := by
  rw [← List.take_append_drop k xs, depF_append] at h
  cases hd : depF d (xs.take k) with
  | none => rw [hd] at h; cases h
  | some c => exact ⟨c, rfl⟩
theorem depF_step {xs : List St} {k : Nat} {s : St} {c e : Int} (h : depF 0 xs = some e) (hx : xs[k]? = some s) (hc : depF 0 (xs.take k) = some c) :
    depF 0 (xs.take (k + 1)) = some (stepD c s) ∧ 0 ≤ stepD c s ∧ stepD c s ≤ 3 := by
  obtain ⟨c', hc'⟩ := depF_pre h (k + 1)
  have e1 := hc'
  rw [take_snoc hx, depF_append, hc] at e1
  simp only [Option.bind_some, depF] at e1
  split at e1
  case isFalse => cases e1
  case isTrue hq =>
    simp only [Bool.and_eq_true, inB_iff] at hq
    exact ⟨by rw [hc']; exact e1.symm, hq.2⟩

set_option maxHeartbeats 2000000 in
theorem matching_any (xs : List St) (ad : Option Addr) (cp i b : Nat) (l e : St) (body r v : List St) (w : World) (hm : xs.length ≤ 40) (hr : RdC w ad (stCells xs)) (hx : xs.drop i = l :: (body ++ e :: r)) (hl : l.op = 12) (he : e.op = 13) (hu : Ur b body v) (hb : b ≤ 3) :
    Calls Try.prog 85 #[.slice ad xs.length cp, .int .i64 i] w fun e w' => e = .returned (.int .i64 ((i + 1 + body.length : Nat) : Int)) ∧ w = w' := by
  have hD := ur_depF hu 0 (by omega) (by omega)
  have hlen : xs.length - i = 1 + (body.length + (1 + r.length)) := by
    have := congrArg List.length hx
    simp at this; omega
  have at_ : ∀ j s, (l :: (body ++ e :: r))[j]? = some s → xs[i + j]? = some s := by
    intro j s h
    rw [← hx, List.getElem?_drop] at h; exact h
  have HX := Lib.hid hx
  have HA := Lib.hid at_
  have HD := Lib.hid hD
  have HL := Lib.hid hlen
  clear hx at_ hD hlen
  go_enter Try.func85, Try.ntmps85
  go_wp2_with fail
  go_loop [5, 6] (fun dep k => ∃ (j : Nat) (d : Int), j ≤ body.length + 1 ∧ k = .int .i64 ((i + j : Nat) : Int) ∧ dep = .int .i64 d ∧ (j = 0 ∧ d = 0 ∨ ∃ jj, j = jj + 1 ∧ depF 0 (body.take jj) = some (d - 1))) (fun _ k => xs.length - (intOf k).toNat)
  case atStart => exact ⟨0, 0, Nat.zero_le _, rfl, rfl, .inl ⟨rfl, rfl⟩⟩
  case round =>
    obtain ⟨j, d, hj, rfl, rfl, hd⟩ := hrel
    have hlt : i + j < xs.length := by have := HL.out; omega
    obtain ⟨bb, off, op, dst, sa, sb, sc, sn, rfl, hbl, hxx, c0, c1, c2, c3, c4, c5⟩ := hr.st (i + j) hlt
    have hij : ((i + j : Nat) : Int) < xs.length := by omega
    rcases hd with ⟨rfl, rfl⟩ | ⟨jj, rfl, hd⟩
    · have := HA.out 0 l rfl
      rw [hxx] at this
      simp only [Option.some.injEq] at this
      obtain rfl : op = 12 := by rw [← hl, ← this]
      simp only [Nat.add_zero] at c0 hij hlt
      clear this hxx hr
      have HR := Lib.hid hu
      clear hu hl he
      go_wp2_with fail
      go_round
      case rel => exact ⟨1, 1, by omega, by go_num, rfl, .inr ⟨0, rfl, rfl⟩⟩
      case measure => simp [intOf]; omega
    · obtain ⟨d0, d3⟩ := depF_lo hd (by omega)
      by_cases hjj : jj < body.length
      · have hs : body[jj]? = some ⟨op, dst, sa, sb, sc, sn⟩ := by
          have := HA.out (jj + 1) body[jj] (by rw [List.getElem?_cons_succ, List.getElem?_append_left hjj]; exact List.getElem?_eq_getElem hjj)
          rw [hxx] at this
          rw [List.getElem?_eq_getElem hjj, this]
        obtain ⟨g1, g2, g3⟩ := depF_step HD.out hs hd
        have G := Lib.hid g1
        clear g1 hs hxx hr hu hl he hd
        by_cases p12 : op = 12
        · subst p12
          have E : stepD (d - 1) ⟨12, dst, sa, sb, sc, sn⟩ = d := by simp [stepD]
          rw [E] at G g2 g3
          go_wp2_with fail
          go_round
          case rel => exact ⟨jj + 1 + 1, d + 1, by omega, by go_num, rfl, .inr ⟨jj + 1, rfl, by rw [show d + 1 - 1 = d from by omega]; exact G.out⟩⟩
          case measure => simp [intOf]; omega
        · by_cases p13 : op = 13
          · subst p13
            have E : stepD (d - 1) ⟨13, dst, sa, sb, sc, sn⟩ = d - 1 - 1 := by simp [stepD]
            rw [E] at G g2 g3
            clear E
            have q0 : (d - 1 == 0) = false := by simp; omega
            go_wp2_with fail
            go_round
            case rel => exact ⟨jj + 1 + 1, d - 1, by omega, by go_num, rfl, .inr ⟨jj + 1, rfl, G.out⟩⟩
            case measure => simp [intOf]; omega
          · have E : stepD (d - 1) ⟨op, dst, sa, sb, sc, sn⟩ = d - 1 := by simp [stepD, p12, p13]
            rw [E] at G g2 g3
            clear E
            have q12 : (op == 12) = false := by simp; omega
            have q13 : (op == 13) = false := by simp; omega
            clear p12 p13
            go_wp2_with fail
            go_round
            case rel => exact ⟨jj + 1 + 1, d, by omega, by go_num, rfl, .inr ⟨jj + 1, rfl, G.out⟩⟩
            case measure => simp [intOf]; omega
      · have hjl : jj = body.length := by omega
        subst hjl
        have hs := HA.out (body.length + 1) e (by rw [List.getElem?_cons_succ, List.getElem?_append_right (Nat.le_refl _), Nat.sub_self]; rfl)
        rw [hxx] at hs
        simp only [Option.some.injEq] at hs
        obtain rfl : op = 13 := by rw [← he, ← hs]
        have hd1 := HD.out
        rw [List.take_of_length_le (Nat.le_refl _), hd1] at hd
        simp only [Option.some.injEq] at hd
        obtain rfl : d = 1 := by omega
        clear hs hxx hd hd1 hr hu hl he
        go_wp2_with fail
        go_ret
        exact ⟨ret_int (by omega), rfl⟩


theorem drop_at {xs rest : List St} {k : Nat} {s : St} (h : xs.drop k = s :: rest) : xs[k]? = some s ∧ xs.drop (k + 1) = rest ∧ k < xs.length := by
  have h1 : xs[k]? = some s := by have := congrArg (·[0]?) h; simpa [List.getElem?_drop] using this
  refine ⟨h1, ?_, (List.getElem?_eq_some_iff.1 h1).1⟩
  rw [← List.drop_drop, h]; rfl
theorem RdC.part {w : World} {b off : Nat} {xs : List St} (h : RdC w (some ⟨b, off, none⟩) (stCells xs)) (k : Nat) (ys : List St) (n : Nat) (hy : (xs.drop k).take n = ys) : RdC w (some ⟨b, off + k * 6, none⟩) (stCells ys) := by
  rcases h with h | ⟨b', off', h1, h2⟩
  · have hl := stCells_length xs
    rw [h] at hl
    have : xs = [] := List.eq_nil_of_length_eq_zero (by simp at hl; omega)
    subst this; simp at hy; subst hy; exact .inl rfl
  · simp only [Option.some.injEq, Addr.mk.injEq, and_true] at h1
    obtain ⟨rfl, rfl⟩ := h1
    refine .inr ⟨b, off + k * 6, rfl, fun i hi => ?_⟩
    have hly := stCells_length ys
    have hi' : i < ys.length * 6 := by omega
    obtain ⟨q, j, hj, rfl⟩ : ∃ q j, j < 6 ∧ i = q * 6 + j := ⟨i / 6, i % 6, Nat.mod_lt _ (by omega), by omega⟩
    have hq : q < ys.length := by omega
    have e1 := stCells_get ys q j hj
    have hyl : ys.length ≤ xs.length - k ∧ q < n := by
      have := congrArg List.length hy; simp at this; omega
    have e2 := stCells_get xs (k + q) j hj
    have e3 : ys[q]? = xs[k + q]? := by rw [← hy, List.getElem?_take_of_lt hyl.2, List.getElem?_drop]
    rw [← e3, ← e1, List.getElem?_eq_getElem hi] at e2
    have hlt : (k + q) * 6 + j < (stCells xs).length := by have := stCells_length xs; omega
    rw [List.getElem?_eq_getElem hlt] at e2
    rw [show off + k * 6 + (q * 6 + j) = off + ((k + q) * 6 + j) from by omega, h2 _ hlt, Option.some.inj e2]

theorem ur_cases {b : Nat} {xs us : List St} (h : Ur b xs us) : (xs = [] ∧ us = []) ∨
    (∃ s r u, xs = s :: r ∧ us = s :: u ∧ stOk s = true ∧ s.op ≠ 12 ∧ s.op ≠ 13 ∧ Ur b r u) ∨
    (∃ b' l e body r v u, b = b' + 1 ∧ xs = l :: (body ++ e :: r) ∧ us = repS l.n v ++ u ∧ stOk l = true ∧ stOk e = true ∧ l.op = 12 ∧ e.op = 13 ∧ Ur b' body v ∧ Ur b r u) := by
  cases h with
  | nil => exact .inl ⟨rfl, rfl⟩
  | plain b s r u h1 h2 h3 h4 => exact .inr (.inl ⟨s, r, u, rfl, rfl, h1, h2, h3, h4⟩)
  | loop b l e body r v u h1 h2 h3 h4 h5 h6 => exact .inr (.inr ⟨b, l, e, body, r, v, u, rfl, rfl, rfl, h1, h2, h3, h4, h5, h6⟩)

set_option maxHeartbeats 4000000 in
theorem iUnrolledSize_ur (B : Nat) : ∀ (xs us : List St) (ad : Option Addr) (cp : Nat) (w : World), B ≤ 3 → Ur B xs us → xs.length ≤ 40 → xs.length ≤ cp → cp ≤ maxLen → RdC w ad (stCells xs) →
    Calls Try.prog 29 #[.slice ad xs.length cp] w fun e w' => e = .returned (.int .i64 us.length) ∧ Below w.heap.size w w' := by
  induction B using Nat.strongRecOn with
  | ind B IH =>
  intro xs us ad cp w hB hu hm hcp hcm hr
  unfold maxLen at hcm
  have HP := Lib.hid (ur_progOk (ur_mono hu hB) hm)
  have HIH := Lib.hid IH
  have hbd := ur_bound hu
  have hbd2 : us.length ≤ 20480 := Nat.le_trans hbd (Nat.le_trans (Nat.mul_le_mul (Nat.pow_le_pow_right (by omega) hB) hm) (by decide))
  have HR := Lib.hid hr
  clear IH hbd
  go_enter Try.func29, Try.ntmps29
  go_wp2_with (go_at_call 71; refine (iProgramOk_any xs _ _ _ (by unfold maxLen; omega) HR.out).mono ?_; rintro e w1 ⟨rfl, hb⟩; rw [HP.out])
  go_loopw [3, 4] (fun n i wr => ∃ (k : Nat) (rest ur : List St) (m : Nat), k ≤ xs.length ∧ i = .int .i64 k ∧ n = .int .i64 (m : Int) ∧ xs.drop k = rest ∧ Ur B rest ur ∧ m + ur.length = us.length ∧ Below w.heap.size w wr) (fun _ i _ => xs.length - (intOf i).toNat)
  case atStart => exact ⟨0, xs, us, 0, Nat.zero_le _, rfl, rfl, rfl, hu, by omega, hb⟩
  case round =>
    obtain ⟨k, rest, ur, m, hk, rfl, rfl, hd, hur, hml, hbw⟩ := hrel
    have hbs := hbw.size
    clear hb
    rcases ur_cases hur with ⟨rfl, rfl⟩ | ⟨s, r, u, rfl, rfl, hs1, hs2, hs3, hu2⟩ | ⟨B', l, e, body, r, v, u, rfl, rfl, rfl, hl1, he1, hl2, he2, hu1, hu2⟩
    · have hk2 : xs.length ≤ k := by simpa using hd
      have hmm : m = us.length := by simpa using hml
      subst hmm
      clear hd hur hml hu hr
      go_wp2_with fail
      go_ret
      exact ⟨rfl, hbw⟩
    · obtain ⟨hx, hd2, hlt⟩ := drop_at hd
      obtain ⟨b, off, op, dst, sa, sb, sc, sn, rfl, hbl, hx', c0, c1, c2, c3, c4, c5⟩ := (hr.below hbw).st k hlt
      rw [hx] at hx'
      simp only [Option.some.injEq] at hx'
      subst hx'
      simp only at hs2 hs3
      have q12 : (op == 12) = false := by simpa using hs2
      have HD := Lib.hid hd2
      have HU := Lib.hid hu2
      have HM := Lib.hid hml
      have hmb : m ≤ 20480 := by omega
      clear hd hur hx hd2 hu2 hml hs1 hs2 hs3 hu hr
      go_wp2_with fail
      go_roundw
      case rel => exact ⟨k + 1, r, u, m + 1, by omega, by go_num, by go_num, HD.out, HU.out, by have := HM.out; simp at this; omega, hbw⟩
      case measure => simp [intOf]; omega
    · obtain ⟨hx, hd2, hlt⟩ := drop_at hd
      obtain ⟨b, off, op, dst, sa, sb, sc, sn, rfl, hbl, hx', c0, c1, c2, c3, c4, c5⟩ := (hr.below hbw).st k hlt
      rw [hx] at hx'
      simp only [Option.some.injEq] at hx'
      subst hx'
      simp only at hl2
      subst hl2
      obtain ⟨n1, n8⟩ := stOk_loop hl1 rfl
      simp only at n1 n8
      obtain ⟨nn, rfl⟩ := Int.eq_ofNat_of_zero_le (show 0 ≤ sn by omega)
      obtain ⟨q, hq⟩ : ∃ q, q = k + 1 + body.length := ⟨_, rfl⟩
      have hlen : xs.length - k = 1 + (body.length + (1 + r.length)) := by
        have := congrArg List.length hd
        simp at this; omega
      have hqlt : q < xs.length := by omega
      have hbody : (xs.drop (k + 1)).take (q - (k + 1)) = body := by
        rw [hd2, show q - (k + 1) = body.length from by omega, List.take_left']; rfl
      have hrest : xs.drop (q + 1) = r := by
        rw [show q + 1 = (k + 1) + (body.length + 1) from by omega, ← List.drop_drop, hd2, ← List.drop_drop, List.drop_left']; rfl; rfl
      have hmat := matching_any xs (some ⟨b, off, none⟩) cp k B' ⟨12, dst, sa, sb, sc, (nn : Int)⟩ e body r v
      rw [← hq] at hmat
      have HMT := Lib.hid (fun W hR => hmat W hm hR hd rfl he2 hu1 (by omega))
      have hub : v.length ≤ 20480 := Nat.le_trans (ur_bound hu1) (Nat.le_trans (Nat.mul_le_mul (Nat.pow_le_pow_right (by omega) (by omega : B' ≤ 3)) (by omega : body.length ≤ 40)) (by decide))
      have HSUB := Lib.hid (fun W hR => HIH.out B' (by omega) body v (some ⟨b, off + (k + 1) * 6, none⟩) (cp - (k + 1)) W (by omega) hu1 (by omega) (by omega) (by unfold maxLen; omega) hR)
      have HPART := Lib.hid (hr.part (k + 1) body (q - (k + 1)) hbody)
      have HRS := Lib.hid hrest
      have HU := Lib.hid hu2
      obtain ⟨P, hP⟩ : ∃ P, P = nn * v.length := ⟨_, rfl⟩
      have hml2 : m + (P + u.length) = us.length := by rw [← hml, List.length_append, repS_length, hP]; simp
      have HM := Lib.hid hml2
      have hmb : m ≤ 20480 := by omega
      have hnv : P ≤ 20480 := by omega
      have HNV : Hid ((nn : Int) * (v.length : Int) = (P : Int)) := by show _ = _; rw [hP, Int.natCast_mul]
      have hkq : k + 1 ≤ q := by omega
      have HLB : Hid (body.length = q - (k + 1)) := by show _ = _; omega
      clear hd hur hx hd2 hu2 hml hml2 hu hr hbody hrest hmat hlen hq hl1 he1 he2 hu1 hP
      go_wp2_with (go_at_call 85; refine (HMT.out _ (HR.out.below (by (repeat (first | with_reducible exact Below.refl _ _ | (with_reducible refine bel_next ?_ ?_ (by assumption)) | (with_reducible refine Below.alloc ?_ ?_ _) | (with_reducible refine Below.drew ?_) | (with_reducible refine below_drewN ?_ _) | (with_reducible refine Below.setCell ?_ ?_ _))) <;> (first | omega | (simp; done) | (simp; omega))))).mono ?_; rintro e1 w2 ⟨rfl, rfl⟩)
      have HPW := Lib.hid (HPART.out.below hbw)
      refine wp_region_bel (by kernel_rfl) (by kernel_rfl) ?_
      have e5 := in_cell c5
      have hw1 : IntKind.i64.wrap (↑k + 1) = ↑k + 1 := wrap_i64_id (by omega) (by omega)
      have b1 : (0 : Int) ≤ ↑k + 1 := by omega
      have b2 : (↑k + 1 : Int).toNat = k + 1 := by omega
      have b3 : q ≤ cp := by omega
      have b4 : (↑k + 1 : Int) ≤ ↑q := by omega
      have b5 : ¬ cp = k + 1 := by omega
      have hw2 : IntKind.i64.wrap ((nn : Int) * (v.length : Int)) = (P : Int) := by rw [HNV.out]; exact wrap_i64_id (by omega) (by omega)
      have hw3 : IntKind.i64.wrap ((m : Int) + (P : Int)) = (m : Int) + (P : Int) := wrap_i64_id (by omega) (by omega)
      repeat (go_big_quiet_step ((go_at_call 29; exact Calls.inb (by rw [← HLB.out]; exact HSUB.out _ (in_rd HPW.out _)))))
      refine wpQuiet_nil ?_
      rintro _ ⟨x, rfl⟩
      have hb : Below wr.heap.size wr x.w := x.ok
      clear e5 hw1 hw2 hw3 b1 b2 b3 b4 b5
      go_wp2_with fail
      go_roundw
      case rel => exact ⟨q + 1, r, u, m + P, by omega, by go_num, by go_num, HRS.out, HU.out, by have := HM.out; omega, (by (repeat (first | with_reducible exact Below.refl _ _ | (with_reducible refine bel_next ?_ ?_ (by assumption)) | (with_reducible refine Below.alloc ?_ ?_ _) | (with_reducible refine Below.drew ?_) | (with_reducible refine below_drewN ?_ _) | (with_reducible refine Below.setCell ?_ ?_ _))) <;> (first | omega | (simp; done) | (simp; omega)))⟩
      case measure => simp [intOf]; omega


theorem ret_two {a b c d : Int} (h : a = b) (h' : c = d) : Ending.returned (.tuple #[.int .i64 a, .int .i64 c]) = .returned (.tuple #[.int .i64 b, .int .i64 d]) := by rw [h, h']
set_option maxHeartbeats 4000000 in
theorem l10Size_ur (B : Nat) : ∀ (xs blk tail us : List St) (ad : Option Addr) (cp k0 : Nat) (w : World), B ≤ 3 → Ur B blk us → xs.length ≤ 40 → k0 ≤ xs.length → xs.drop k0 = blk ++ tail → (∀ s r, tail = s :: r → s.op = 13) → RdC w ad (stCells xs) →
    Calls Try.prog 84 #[.slice ad xs.length cp, .int .i64 k0] w fun e w' => e = .returned (.tuple #[.int .i64 us.length, .int .i64 ((k0 + blk.length : Nat) : Int)]) ∧ w = w' := by
  induction B using Nat.strongRecOn with
  | ind B IH =>
  intro xs blk tail us ad cp k0 w hB hu hm hk0 hd0 ht hr
  have HIH := Lib.hid IH
  have HT := Lib.hid ht
  have hbl : k0 + blk.length ≤ xs.length ∨ blk = [] := by
    have := congrArg List.length hd0
    simp at this
    by_cases h : blk = []
    · exact .inr h
    · have : 0 < blk.length := List.length_pos_iff.2 h
      exact .inl (by omega)
  have hbl40 : blk.length ≤ 40 := by rcases hbl with h | h <;> (first | omega | (rw [h]; simp))
  have hbd2 : us.length ≤ 20480 := Nat.le_trans (ur_bound hu) (Nat.le_trans (Nat.mul_le_mul (Nat.pow_le_pow_right (by omega) hB) hbl40) (by decide))
  clear IH ht
  go_enter Try.func84, Try.ntmps84
  go_wp2_with fail
  go_loop [1, 6] (fun i n => ∃ (k : Nat) (rest ur : List St) (m : Nat), k ≤ xs.length ∧ i = .int .i64 k ∧ n = .int .i64 (m : Int) ∧ xs.drop k = rest ++ tail ∧ Ur B rest ur ∧ m + ur.length = us.length ∧ k + rest.length = k0 + blk.length) (fun i _ => xs.length - (intOf i).toNat)
  case atStart => exact ⟨k0, blk, us, 0, by omega, rfl, rfl, hd0, hu, by omega, rfl⟩
  case round =>
    obtain ⟨k, rest, ur, m, hk, rfl, rfl, hd, hur, hml, hkl⟩ := hrel
    rcases ur_cases hur with ⟨rfl, rfl⟩ | ⟨s, r, u, rfl, rfl, hs1, hs2, hs3, hu2⟩ | ⟨B', l, e, body, r, v, u, rfl, rfl, rfl, hl1, he1, hl2, he2, hu1, hu2⟩
    · have hmm : m = us.length := by simpa using hml
      have hkk : k = k0 + blk.length := by simpa using hkl
      have HMM := Lib.hid hmm
      have HKK := Lib.hid hkk
      by_cases hlt : k < xs.length
      · obtain ⟨b, off, op, dst, sa, sb, sc, sn, rfl, hbl, hx', c0, c1, c2, c3, c4, c5⟩ := hr.st k hlt
        have ho : op = 13 := by
          cases tail with
          | nil => simp at hd; omega
          | cons s r => have h1 := HT.out s r rfl; have := (drop_at hd).1; rw [hx'] at this; simp only [Option.some.injEq] at this; rw [← this] at h1; exact h1
        subst ho
        clear hd hur hml hu hr hmm hkk hkl hx' hd0 hbl
        go_wp2_with fail
        go_ret2
        exact ⟨ret_two (by rw [← HMM.out]) (by have := HKK.out; omega), rfl⟩
      · clear hd hur hml hu hr hmm hkk hkl hd0 hbl
        go_wp2_with fail
        go_ret2
        exact ⟨ret_two (by rw [← HMM.out]) (by have := HKK.out; omega), rfl⟩
    · obtain ⟨hx, hd2, hlt⟩ := drop_at hd
      obtain ⟨b, off, op, dst, sa, sb, sc, sn, rfl, hbl, hx', c0, c1, c2, c3, c4, c5⟩ := hr.st k hlt
      rw [hx] at hx'
      simp only [Option.some.injEq] at hx'
      subst hx'
      simp only at hs2 hs3
      have q12 : (op != 12) = true := by simpa using hs2
      have q13 : (op != 13) = true := by simpa using hs3
      have HD := Lib.hid hd2
      have HU := Lib.hid hu2
      have HM := Lib.hid hml
      have HK := Lib.hid hkl
      have hmb : m ≤ 20480 := by omega
      clear hd hur hx hd2 hu2 hml hs1 hs2 hs3 hu hr hkl hd0 hbl
      go_wp2_with fail
      go_round
      case rel => exact ⟨k + 1, r, u, m + 1, by omega, by go_num, by go_num, HD.out, HU.out, by have := HM.out; simp at this; omega, by have := HK.out; simp at this; omega⟩
      case measure => simp [intOf]; omega
    · have hda : xs.drop k = l :: (body ++ e :: (r ++ tail)) := by rw [hd]; simp
      obtain ⟨hx, hd2, hlt⟩ := drop_at hda
      obtain ⟨b, off, op, dst, sa, sb, sc, sn, rfl, hbl, hx', c0, c1, c2, c3, c4, c5⟩ := hr.st k hlt
      rw [hx] at hx'
      simp only [Option.some.injEq] at hx'
      subst hx'
      simp only at hl2
      subst hl2
      obtain ⟨n1, n8⟩ := stOk_loop hl1 rfl
      simp only at n1 n8
      obtain ⟨nn, rfl⟩ := Int.eq_ofNat_of_zero_le (show 0 ≤ sn by omega)
      obtain ⟨q, hq⟩ : ∃ q, q = k + 1 + body.length := ⟨_, rfl⟩
      have hlen : xs.length - k = 1 + (body.length + (1 + (r.length + tail.length))) := by
        have := congrArg List.length hda
        simp at this; omega
      have hqlt : q < xs.length := by omega
      have hrest : xs.drop (q + 1) = r ++ tail := by
        rw [show q + 1 = (k + 1) + (body.length + 1) from by omega, ← List.drop_drop, hd2, ← List.drop_drop, List.drop_left']; rfl; rfl
      have hub : v.length ≤ 20480 := Nat.le_trans (ur_bound hu1) (Nat.le_trans (Nat.mul_le_mul (Nat.pow_le_pow_right (by omega) (by omega : B' ≤ 3)) (by omega : body.length ≤ 40)) (by decide))
      have hsub := HIH.out B' (by omega) xs body (e :: (r ++ tail)) v (some ⟨b, off, none⟩) cp (k + 1) w (by omega) hu1 hm (by omega) hd2 (by intro s r' h; cases h; exact he2) hr
      rw [← hq] at hsub
      have HSUB := Lib.hid hsub
      have HRS := Lib.hid hrest
      have HU := Lib.hid hu2
      obtain ⟨P, hP⟩ : ∃ P, P = nn * v.length := ⟨_, rfl⟩
      have hml2 : m + (P + u.length) = us.length := by rw [← hml, List.length_append, repS_length, hP]; simp
      have HM := Lib.hid hml2
      have hkl2 : q + 1 + r.length = k0 + blk.length := by rw [← hkl]; simp; omega
      have HK := Lib.hid hkl2
      have hmb : m ≤ 20480 := by omega
      have hnv : P ≤ 20480 := by omega
      have HNV : Hid ((v.length : Int) * (nn : Int) = (P : Int)) := by show _ = _; rw [hP, Int.natCast_mul, Int.mul_comm]
      have HQQ : Hid (q < xs.length ∧ k < q) := ⟨hqlt, by omega⟩
      clear hd hda hur hx hd2 hu2 hml hml2 hu hr hrest hsub hlen hq hl1 he1 he2 hu1 hP hkl hkl2 hd0 hbl
      have hnv3 := HNV.out
      go_wp2_with (go_at_call 84; refine HSUB.out.mono ?_; rintro e1 w2 ⟨rfl, rfl⟩)
      go_round
      case rel => exact ⟨q + 1, r, u, m + P, by have := HQQ.out; omega, by go_num, by go_num, HRS.out, HU.out, by have := HM.out; omega, HK.out⟩
      case measure => have := HQQ.out; simp [intOf]; omega


/-- The predicted size: -1, or that of the unrolled list. -/
def IsSize (xs : List St) (v : Int) : Prop := (progOk xs = false ∧ v = -1) ∨ (progOk xs = true ∧ xs.length ≤ 40 ∧ ∃ us, Ur 3 xs us ∧ v = us.length ∧ us.length ≤ 20480)
theorem size_ex (xs : List St) : ∃ v, IsSize xs v := by
  cases h : progOk xs
  · exact ⟨-1, .inl ⟨h, rfl⟩⟩
  · obtain ⟨hl, us, hu⟩ := ur_of_progOk h
    exact ⟨us.length, .inr ⟨h, hl, us, hu, rfl, Nat.le_trans (ur_bound hu) (Nat.le_trans (Nat.mul_le_mul (Nat.le_refl _) hl) (by decide))⟩⟩

set_option maxHeartbeats 1000000 in
theorem iUnrolledSize_any (xs : List St) (v : Int) (hv : IsSize xs v) (ad : Option Addr) (cp : Nat) (w : World) (hm : xs.length ≤ maxLen) (hcp : xs.length ≤ cp) (hcm : cp ≤ maxLen) (hr : RdC w ad (stCells xs)) :
    Calls Try.prog 29 #[.slice ad xs.length cp] w fun e w' => e = .returned (.int .i64 v) ∧ Below w.heap.size w w' := by
  rcases hv with ⟨hp, rfl⟩ | ⟨hp, hl, us, hu, rfl, _⟩
  · have HP := Lib.hid hp
    have HR := Lib.hid hr
    clear hp hr
    unfold maxLen at hm
    go_enter Try.func29, Try.ntmps29
    go_wp2_with (go_at_call 71; refine (iProgramOk_any xs _ _ _ (by unfold maxLen; omega) HR.out).mono ?_; rintro e w1 ⟨rfl, hb⟩; rw [HP.out])
    go_ret
    exact ⟨rfl, hb⟩
  · exact iUnrolledSize_ur 3 xs us ad cp w (Nat.le_refl _) hu hl hcp hcm hr

set_option maxHeartbeats 1000000 in
theorem sUnrolledSize_any (xs : List St) (v : Int) (hv : IsSize xs v) (ad : Option Addr) (cp : Nat) (w : World) (hm : xs.length ≤ maxLen) (hcp : xs.length ≤ cp) (hcm : cp ≤ maxLen) (hr : RdC w ad (stCells xs)) :
    Calls Try.prog 28 #[.slice ad xs.length cp] w fun e w' => e = .returned (.int .i64 v) ∧ Below w.heap.size w w' := by
  rcases hv with ⟨hp, rfl⟩ | ⟨hp, hl, us, hu, rfl, _⟩
  all_goals
    have HP := Lib.hid hp
    have HR := Lib.hid hr
    clear hp hr
    unfold maxLen at hm
  · go_enter Try.func28, Try.ntmps28
    go_wp2_with (go_at_call 82; refine (sProgramOk_any xs _ _ _ (by unfold maxLen; omega) HR.out).mono ?_; rintro e w1 ⟨rfl, hb⟩; rw [HP.out])
    go_ret
    exact ⟨rfl, hb⟩
  · have HS := Lib.hid (fun W hR => l10Size_ur 3 xs xs [] us ad cp 0 W (Nat.le_refl _) hu hl (Nat.zero_le _) (by simp) (by intro s r h; cases h) hR)
    clear hu
    go_enter Try.func28, Try.ntmps28
    go_wp2_with (first | (go_at_call 82; refine (sProgramOk_any xs _ _ _ (by unfold maxLen; omega) HR.out).mono ?_; rintro e w1 ⟨rfl, hb⟩; rw [HP.out]) | (go_at_call 84; refine (HS.out _ (HR.out.below (by assumption))).mono ?_; rintro e w2 ⟨rfl, rfl⟩))
    go_ret
    exact ⟨rfl, hb⟩

end Go.Proofs.Ytfeffofoofmgcaa
