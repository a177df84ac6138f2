/- PartiesOf, LoopDepth: both. -/
import Derived.Test.YtfeffofoofmgcaaProgOk
namespace Go.Proofs.Ytfeffofoofmgcaa
open Go.RowKit

def stepP (n : Int) (s : St) : Int := if s.op = 2 then (if n < s.a + 1 then s.a + 1 else n) else n
def partiesOf (xs : List St) : Int := if progOk xs then xs.foldl stepP 0 else 0
theorem stok_at {xs : List St} (h : progOk xs = true) {k : Nat} {s : St} (hx : xs[k]? = some s) : stOk s = true := by
  simp only [progOk, Bool.and_eq_true, decide_eq_true_eq] at h
  have hd : ∀ (ys : List St) (d e : Int), depF d ys = some e → ∀ s ∈ ys, stOk s = true := by
    intro ys
    induction ys with
    | nil => intro d e _ s hs; cases hs
    | cons y r ih =>
      intro d e h s hs
      simp only [depF] at h
      split at h
      case isFalse => cases h
      case isTrue hc =>
        simp only [Bool.and_eq_true] at hc
        rcases List.mem_cons.1 hs with rfl | hs
        · exact hc.1
        · exact ih _ _ h s hs
  exact hd xs 0 0 h.2 s (List.mem_of_getElem? hx)
theorem stok_input {s : St} (h : stOk s = true) (ho : s.op = 2) : 0 ≤ s.a ∧ s.a ≤ 4 := by
  simp [stOk, ho, inB] at h; omega
theorem foldP_snoc {xs : List St} {k : Nat} {s : St} (h : xs[k]? = some s) : (xs.take (k + 1)).foldl stepP 0 = stepP ((xs.take k).foldl stepP 0) s := by
  rw [take_snoc h, List.foldl_append]; rfl
theorem foldP_bd {xs : List St} (h : ∀ s ∈ xs, stOk s = true) : ∀ n : Int, 0 ≤ n → n ≤ 5 → 0 ≤ xs.foldl stepP n ∧ xs.foldl stepP n ≤ 5 := by
  induction xs with
  | nil => intro n h0 h1; exact ⟨h0, h1⟩
  | cons s r ih =>
    intro n h0 h1
    have hs := h s (List.mem_cons_self ..)
    have e : 0 ≤ stepP n s ∧ stepP n s ≤ 5 := by
      unfold stepP; split
      · have := stok_input hs (by assumption)
        split <;> omega
      · exact ⟨h0, h1⟩
    exact ih (fun x hx => h x (List.mem_cons_of_mem _ hx)) _ e.1 e.2

def stepM (p : Int × Int) (s : St) : Int × Int := (stepD p.1 s, if p.2 < stepD p.1 s then stepD p.1 s else p.2)
def loopDepth (xs : List St) : Int := if progOk xs then (xs.foldl stepM (0, 0)).2 else -1
theorem foldM_snoc {xs : List St} {k : Nat} {s : St} (h : xs[k]? = some s) : (xs.take (k + 1)).foldl stepM (0, 0) = stepM ((xs.take k).foldl stepM (0, 0)) s := by
  rw [take_snoc h, List.foldl_append]; rfl
theorem foldM_fst (xs : List St) : ∀ p : Int × Int, (xs.foldl stepM p).1 = dp p.1 xs := by
  induction xs with
  | nil => intro p; rfl
  | cons s r ih => intro p; simp only [List.foldl_cons, ih]; rfl
theorem progOk_take {xs : List St} (h : progOk xs = true) (k : Nat) : ∃ d, depF 0 (xs.take k) = some d := by
  simp only [progOk, Bool.and_eq_true, decide_eq_true_eq] at h
  have e := h.2
  rw [← List.take_append_drop k xs, depF_append] at e
  cases hd : depF 0 (xs.take k) with
  | none => rw [hd] at e; cases e
  | some d => exact ⟨d, rfl⟩
theorem foldM_bd {xs : List St} (h : progOk xs = true) (k : Nat) : 0 ≤ ((xs.take k).foldl stepM (0, 0)).1 ∧ ((xs.take k).foldl stepM (0, 0)).1 ≤ 3 ∧ 0 ≤ ((xs.take k).foldl stepM (0, 0)).2 ∧ ((xs.take k).foldl stepM (0, 0)).2 ≤ 3 := by
  have h1 : ∀ k, 0 ≤ ((xs.take k).foldl stepM (0, 0)).1 ∧ ((xs.take k).foldl stepM (0, 0)).1 ≤ 3 := by
    intro k
    obtain ⟨d, hd⟩ := progOk_take h k
    rw [foldM_fst, depF_dp hd]
    exact depF_lo hd (by omega)
  refine ⟨(h1 k).1, (h1 k).2, ?_⟩
  induction k with
  | zero => simp
  | succ k ih =>
    cases hx : xs[k]? with
    | none =>
      have : xs.length ≤ k := by simpa using hx
      rw [List.take_of_length_le (by omega)]
      rw [List.take_of_length_le (by omega)] at ih
      exact ih
    | some s =>
      have e := h1 (k + 1)
      rw [foldM_snoc hx] at e ⊢
      simp only [stepM] at e ⊢
      split <;> omega

set_option maxHeartbeats 2000000 in
theorem iPartiesOf_any (xs : List St) (ad : Option Addr) (cp : Nat) (w : World) (hm : xs.length ≤ maxLen) (hr : RdC w ad (stCells xs)) :
    Calls Try.prog 24 #[.slice ad xs.length cp] w fun e w' => e = .returned (.int .i64 (partiesOf xs)) ∧ Below w.heap.size w w' := by
  unfold maxLen at hm
  have HR := Lib.hid hr
  cases hp : progOk xs
  · have HP := Lib.hid hp
    have HF : Hid (partiesOf xs = 0) := by show _ = _; simp [partiesOf, hp]
    clear hp
    go_enter Try.func24, Try.ntmps24
    go_wp2_with fail
    go_loopw [3, 8] (fun d i wr => ∃ (k : Nat), k ≤ xs.length ∧ i = .int .i64 k ∧ d = .int .i64 0 ∧ Below w.heap.size w wr) (fun _ i _ => xs.length - (intOf i).toNat)
    case atStart => exact ⟨0, Nat.zero_le _, rfl, rfl, Below.refl _ _⟩
    case round =>
      obtain ⟨k, hk, rfl, rfl, hbw⟩ := hrel
      have hbs := hbw.size
      by_cases hlt : k < xs.length
      · obtain ⟨b, off, op, dst, sa, sb, sc, sn, rfl, hbl, hx, c0, c1, c2, c3, c4, c5⟩ := (hr.below hbw).st k hlt
        clear hx hr
        by_cases p2 : op = 2
        · subst p2
          go_wp2_with (go_at_call 71; refine (iProgramOk_any xs _ _ _ (by unfold maxLen; omega) (HR.out.below (by (repeat (first | with_reducible exact Below.refl _ _ | (with_reducible refine bel_next ?_ ?_ (by assumption)) | (with_reducible refine Below.alloc ?_ ?_ _) | (with_reducible refine Below.drew ?_) | (with_reducible refine below_drewN ?_ _) | (with_reducible refine Below.setCell ?_ ?_ _))) <;> (first | omega | (simp; done) | (simp; omega))))).mono ?_; rintro e w1 ⟨rfl, hb⟩; rw [HP.out]; (try have k1_0 := bel_keeps hb (b := wr.heap.size) (o := 0) (v := .int .i64 2) (by go_simp)); (try have k1_2 := bel_keeps hb (b := wr.heap.size) (o := 2) (v := .int .i64 sa) (by go_simp)); have z1 := hb.size; (try simp at z1))
          go_roundw
          case rel => exact ⟨k + 1, by omega, by go_num, rfl, (by (repeat (first | with_reducible exact Below.refl _ _ | (with_reducible refine bel_next ?_ ?_ (by assumption)) | (with_reducible refine Below.alloc ?_ ?_ _) | (with_reducible refine Below.drew ?_) | (with_reducible refine below_drewN ?_ _) | (with_reducible refine Below.setCell ?_ ?_ _))) <;> (first | omega | (simp; done) | (simp; omega)))⟩
          case measure => simp [intOf]; omega
        · have q2 : (op == 2) = false := by simp; omega
          clear p2
          go_wp2_with fail
          go_roundw
          case rel => exact ⟨k + 1, by omega, by go_num, rfl, (by (repeat (first | with_reducible exact Below.refl _ _ | (with_reducible refine bel_next ?_ ?_ (by assumption)) | (with_reducible refine Below.alloc ?_ ?_ _) | (with_reducible refine Below.drew ?_) | (with_reducible refine below_drewN ?_ _) | (with_reducible refine Below.setCell ?_ ?_ _))) <;> (first | omega | (simp; done) | (simp; omega)))⟩
          case measure => simp [intOf]; omega
      · clear hr
        go_wp2_with fail
        go_ret
        exact ⟨ret_int HF.out.symm, (by (repeat (first | with_reducible exact Below.refl _ _ | (with_reducible refine bel_next ?_ ?_ (by assumption)) | (with_reducible refine Below.alloc ?_ ?_ _) | (with_reducible refine Below.drew ?_) | (with_reducible refine below_drewN ?_ _) | (with_reducible refine Below.setCell ?_ ?_ _))) <;> (first | omega | (simp; done) | (simp; omega)))⟩
  · have HP := Lib.hid hp
    have HF : Hid (partiesOf xs = xs.foldl stepP 0) := by show _ = _; simp [partiesOf, hp]
    have H40 : xs.length ≤ 40 := by simp [progOk] at hp; exact hp.1
    clear hp
    go_enter Try.func24, Try.ntmps24
    go_wp2_with fail
    go_loopw [3, 8] (fun d i wr => ∃ (k : Nat) (m : Int), k ≤ xs.length ∧ i = .int .i64 k ∧ d = .int .i64 m ∧ m = (xs.take k).foldl stepP 0 ∧ Below w.heap.size w wr) (fun _ i _ => xs.length - (intOf i).toNat)
    case atStart => exact ⟨0, 0, Nat.zero_le _, rfl, rfl, rfl, Below.refl _ _⟩
    case round =>
      obtain ⟨k, m, hk, rfl, rfl, hmm, hbw⟩ := hrel
      have hbs := hbw.size
      obtain ⟨m0, m5⟩ : 0 ≤ m ∧ m ≤ 5 := by rw [hmm]; exact foldP_bd (fun s hs => by obtain ⟨j, hj⟩ := List.mem_iff_getElem?.1 (List.mem_of_mem_take hs); exact stok_at HP.out hj) 0 (by omega) (by omega)
      have HM := Lib.hid hmm
      clear hmm
      by_cases hlt : k < xs.length
      · obtain ⟨b, off, op, dst, sa, sb, sc, sn, rfl, hbl, hx, c0, c1, c2, c3, c4, c5⟩ := (hr.below hbw).st k hlt
        have hsn := foldP_snoc hx
        rw [← HM.out] at hsn
        by_cases p2 : op = 2
        · subst p2
          obtain ⟨a0, a4⟩ := stok_input (stok_at HP.out hx) rfl
          simp only at a0 a4
          have HS : Hid ((xs.take (k + 1)).foldl stepP 0 = (if m < sa + 1 then sa + 1 else m)) := by show _ = _; rw [hsn]; simp [stepP]
          clear hx hsn hr
          go_wp2_with (go_at_call 71; refine (iProgramOk_any xs _ _ _ (by unfold maxLen; omega) (HR.out.below (by (repeat (first | with_reducible exact Below.refl _ _ | (with_reducible refine bel_next ?_ ?_ (by assumption)) | (with_reducible refine Below.alloc ?_ ?_ _) | (with_reducible refine Below.drew ?_) | (with_reducible refine below_drewN ?_ _) | (with_reducible refine Below.setCell ?_ ?_ _))) <;> (first | omega | (simp; done) | (simp; omega))))).mono ?_; rintro e w1 ⟨rfl, hb⟩; rw [HP.out]; (try have k1_0 := bel_keeps hb (b := wr.heap.size) (o := 0) (v := .int .i64 2) (by go_simp)); (try have k1_2 := bel_keeps hb (b := wr.heap.size) (o := 2) (v := .int .i64 sa) (by go_simp)); have z1 := hb.size; (try simp at z1))
          all_goals go_roundw
          case rel => exact ⟨k + 1, _, by omega, by go_num, rfl, HS.out.symm, (by (repeat (first | with_reducible exact Below.refl _ _ | (with_reducible refine bel_next ?_ ?_ (by assumption)) | (with_reducible refine Below.alloc ?_ ?_ _) | (with_reducible refine Below.drew ?_) | (with_reducible refine below_drewN ?_ _) | (with_reducible refine Below.setCell ?_ ?_ _))) <;> (first | omega | (simp; done) | (simp; omega)))⟩
          case measure => simp [intOf]; omega
        · have HS : Hid ((xs.take (k + 1)).foldl stepP 0 = m) := by show _ = _; rw [hsn]; simp [stepP, p2]
          have q2 : (op == 2) = false := by simp; omega
          clear p2 hx hsn hr
          go_wp2_with (go_at_call 71; refine (iProgramOk_any xs _ _ _ (by unfold maxLen; omega) (HR.out.below (by (repeat (first | with_reducible exact Below.refl _ _ | (with_reducible refine bel_next ?_ ?_ (by assumption)) | (with_reducible refine Below.alloc ?_ ?_ _) | (with_reducible refine Below.drew ?_) | (with_reducible refine below_drewN ?_ _) | (with_reducible refine Below.setCell ?_ ?_ _))) <;> (first | omega | (simp; done) | (simp; omega))))).mono ?_; rintro e w1 ⟨rfl, hb⟩; rw [HP.out]; (try have k1_0 := bel_keeps hb (b := wr.heap.size) (o := 0) (v := .int .i64 op) (by go_simp)); (try have k1_2 := bel_keeps hb (b := wr.heap.size) (o := 2) (v := .int .i64 sa) (by go_simp)); have z1 := hb.size; (try simp at z1))
          go_roundw
          case rel => exact ⟨k + 1, _, by omega, by go_num, rfl, HS.out.symm, (by (repeat (first | with_reducible exact Below.refl _ _ | (with_reducible refine bel_next ?_ ?_ (by assumption)) | (with_reducible refine Below.alloc ?_ ?_ _) | (with_reducible refine Below.drew ?_) | (with_reducible refine below_drewN ?_ _) | (with_reducible refine Below.setCell ?_ ?_ _))) <;> (first | omega | (simp; done) | (simp; omega)))⟩
          case measure => simp [intOf]; omega
      · have HK : Hid ((xs.take k).foldl stepP 0 = xs.foldl stepP 0) := by show _ = _; rw [List.take_of_length_le (by omega)]
        clear hr
        go_wp2_with fail
        go_ret
        exact ⟨ret_int (by rw [HF.out, HM.out, HK.out]), (by (repeat (first | with_reducible exact Below.refl _ _ | (with_reducible refine bel_next ?_ ?_ (by assumption)) | (with_reducible refine Below.alloc ?_ ?_ _) | (with_reducible refine Below.drew ?_) | (with_reducible refine below_drewN ?_ _) | (with_reducible refine Below.setCell ?_ ?_ _))) <;> (first | omega | (simp; done) | (simp; omega)))⟩
set_option maxHeartbeats 2000000 in
theorem sPartiesOf_any (xs : List St) (ad : Option Addr) (cp : Nat) (w : World) (hm : xs.length ≤ maxLen) (hr : RdC w ad (stCells xs)) :
    Calls Try.prog 22 #[.slice ad xs.length cp] w fun e w' => e = .returned (.int .i64 (partiesOf xs)) ∧ Below w.heap.size w w' := by
  unfold maxLen at hm
  have HR := Lib.hid hr
  cases hp : progOk xs
  · have HP := Lib.hid hp
    have HF : Hid (partiesOf xs = 0) := by show _ = _; simp [partiesOf, hp]
    clear hp
    go_enter Try.func22, Try.ntmps22
    go_wp2_with fail
    go_loopw [3, 4] (fun d i wr => ∃ (k : Nat), k ≤ xs.length ∧ i = .int .i64 k ∧ d = .int .i64 0 ∧ Below w.heap.size w wr) (fun _ i _ => xs.length - (intOf i).toNat)
    case atStart => exact ⟨0, Nat.zero_le _, rfl, rfl, Below.refl _ _⟩
    case round =>
      obtain ⟨k, hk, rfl, rfl, hbw⟩ := hrel
      have hbs := hbw.size
      by_cases hlt : k < xs.length
      · obtain ⟨b, off, op, dst, sa, sb, sc, sn, rfl, hbl, hx, c0, c1, c2, c3, c4, c5⟩ := (hr.below hbw).st k hlt
        clear hx hr
        go_wp2_with (go_at_call 82; refine (sProgramOk_any xs _ _ _ (by unfold maxLen; omega) (HR.out.below (by (repeat (first | with_reducible exact Below.refl _ _ | (with_reducible refine bel_next ?_ ?_ (by assumption)) | (with_reducible refine Below.alloc ?_ ?_ _) | (with_reducible refine Below.drew ?_) | (with_reducible refine below_drewN ?_ _) | (with_reducible refine Below.setCell ?_ ?_ _))) <;> (first | omega | (simp; done) | (simp; omega))))).mono ?_; rintro e w1 ⟨rfl, hb⟩; rw [HP.out]; have k1_0 := bel_keeps hb c0; have k1_2 := bel_keeps hb c2; have z1 := hb.size; (try simp at z1))
        go_ret
        exact ⟨ret_int HF.out.symm, (by (repeat (first | with_reducible exact Below.refl _ _ | (with_reducible refine bel_next ?_ ?_ (by assumption)) | (with_reducible refine Below.alloc ?_ ?_ _) | (with_reducible refine Below.drew ?_) | (with_reducible refine below_drewN ?_ _) | (with_reducible refine Below.setCell ?_ ?_ _))) <;> (first | omega | (simp; done) | (simp; omega)))⟩
      · clear hr
        go_wp2_with fail
        go_ret
        exact ⟨ret_int HF.out.symm, (by (repeat (first | with_reducible exact Below.refl _ _ | (with_reducible refine bel_next ?_ ?_ (by assumption)) | (with_reducible refine Below.alloc ?_ ?_ _) | (with_reducible refine Below.drew ?_) | (with_reducible refine below_drewN ?_ _) | (with_reducible refine Below.setCell ?_ ?_ _))) <;> (first | omega | (simp; done) | (simp; omega)))⟩
  · have HP := Lib.hid hp
    have HF : Hid (partiesOf xs = xs.foldl stepP 0) := by show _ = _; simp [partiesOf, hp]
    have H40 : xs.length ≤ 40 := by simp [progOk] at hp; exact hp.1
    clear hp
    go_enter Try.func22, Try.ntmps22
    go_wp2_with fail
    go_loopw [3, 4] (fun d i wr => ∃ (k : Nat) (m : Int), k ≤ xs.length ∧ i = .int .i64 k ∧ d = .int .i64 m ∧ m = (xs.take k).foldl stepP 0 ∧ Below w.heap.size w wr) (fun _ i _ => xs.length - (intOf i).toNat)
    case atStart => exact ⟨0, 0, Nat.zero_le _, rfl, rfl, rfl, Below.refl _ _⟩
    case round =>
      obtain ⟨k, m, hk, rfl, rfl, hmm, hbw⟩ := hrel
      have hbs := hbw.size
      obtain ⟨m0, m5⟩ : 0 ≤ m ∧ m ≤ 5 := by rw [hmm]; exact foldP_bd (fun s hs => by obtain ⟨j, hj⟩ := List.mem_iff_getElem?.1 (List.mem_of_mem_take hs); exact stok_at HP.out hj) 0 (by omega) (by omega)
      have HM := Lib.hid hmm
      clear hmm
      by_cases hlt : k < xs.length
      · obtain ⟨b, off, op, dst, sa, sb, sc, sn, rfl, hbl, hx, c0, c1, c2, c3, c4, c5⟩ := (hr.below hbw).st k hlt
        have hsn := foldP_snoc hx
        rw [← HM.out] at hsn
        by_cases p2 : op = 2
        · subst p2
          obtain ⟨a0, a4⟩ := stok_input (stok_at HP.out hx) rfl
          simp only at a0 a4
          have HS : Hid ((xs.take (k + 1)).foldl stepP 0 = (if m < sa + 1 then sa + 1 else m)) := by show _ = _; rw [hsn]; simp [stepP]
          clear hx hsn hr
          go_wp2_with (go_at_call 82; refine (sProgramOk_any xs _ _ _ (by unfold maxLen; omega) (HR.out.below (by (repeat (first | with_reducible exact Below.refl _ _ | (with_reducible refine bel_next ?_ ?_ (by assumption)) | (with_reducible refine Below.alloc ?_ ?_ _) | (with_reducible refine Below.drew ?_) | (with_reducible refine below_drewN ?_ _) | (with_reducible refine Below.setCell ?_ ?_ _))) <;> (first | omega | (simp; done) | (simp; omega))))).mono ?_; rintro e w1 ⟨rfl, hb⟩; rw [HP.out]; have k1_0 := bel_keeps hb c0; have k1_2 := bel_keeps hb c2; have z1 := hb.size; (try simp at z1))
          all_goals go_roundw
          case rel => exact ⟨k + 1, _, by omega, by go_num, rfl, HS.out.symm, (by (repeat (first | with_reducible exact Below.refl _ _ | (with_reducible refine bel_next ?_ ?_ (by assumption)) | (with_reducible refine Below.alloc ?_ ?_ _) | (with_reducible refine Below.drew ?_) | (with_reducible refine below_drewN ?_ _) | (with_reducible refine Below.setCell ?_ ?_ _))) <;> (first | omega | (simp; done) | (simp; omega)))⟩
          case measure => simp [intOf]; omega
        · have HS : Hid ((xs.take (k + 1)).foldl stepP 0 = m) := by show _ = _; rw [hsn]; simp [stepP, p2]
          have q2 : (op == 2) = false := by simp; omega
          clear p2 hx hsn hr
          go_wp2_with (go_at_call 82; refine (sProgramOk_any xs _ _ _ (by unfold maxLen; omega) (HR.out.below (by (repeat (first | with_reducible exact Below.refl _ _ | (with_reducible refine bel_next ?_ ?_ (by assumption)) | (with_reducible refine Below.alloc ?_ ?_ _) | (with_reducible refine Below.drew ?_) | (with_reducible refine below_drewN ?_ _) | (with_reducible refine Below.setCell ?_ ?_ _))) <;> (first | omega | (simp; done) | (simp; omega))))).mono ?_; rintro e w1 ⟨rfl, hb⟩; rw [HP.out]; have k1_0 := bel_keeps hb c0; have k1_2 := bel_keeps hb c2; have z1 := hb.size; (try simp at z1))
          go_roundw
          case rel => exact ⟨k + 1, _, by omega, by go_num, rfl, HS.out.symm, (by (repeat (first | with_reducible exact Below.refl _ _ | (with_reducible refine bel_next ?_ ?_ (by assumption)) | (with_reducible refine Below.alloc ?_ ?_ _) | (with_reducible refine Below.drew ?_) | (with_reducible refine below_drewN ?_ _) | (with_reducible refine Below.setCell ?_ ?_ _))) <;> (first | omega | (simp; done) | (simp; omega)))⟩
          case measure => simp [intOf]; omega
      · have HK : Hid ((xs.take k).foldl stepP 0 = xs.foldl stepP 0) := by show _ = _; rw [List.take_of_length_le (by omega)]
        clear hr
        go_wp2_with fail
        go_ret
        exact ⟨ret_int (by rw [HF.out, HM.out, HK.out]), (by (repeat (first | with_reducible exact Below.refl _ _ | (with_reducible refine bel_next ?_ ?_ (by assumption)) | (with_reducible refine Below.alloc ?_ ?_ _) | (with_reducible refine Below.drew ?_) | (with_reducible refine below_drewN ?_ _) | (with_reducible refine Below.setCell ?_ ?_ _))) <;> (first | omega | (simp; done) | (simp; omega)))⟩
set_option maxHeartbeats 2000000 in
theorem iLoopDepth_any (xs : List St) (ad : Option Addr) (cp : Nat) (w : World) (hm : xs.length ≤ maxLen) (hr : RdC w ad (stCells xs)) :
    Calls Try.prog 27 #[.slice ad xs.length cp] w fun e w' => e = .returned (.int .i64 (loopDepth xs)) ∧ Below w.heap.size w w' := by
  unfold maxLen at hm
  have HR := Lib.hid hr
  cases hp : progOk xs
  · have HP := Lib.hid hp
    have HF : Hid (loopDepth xs = -1) := by show _ = _; simp [loopDepth, hp]
    clear hp hr
    go_enter Try.func27, Try.ntmps27
    go_wp2_with (go_at_call 71; refine (iProgramOk_any xs _ _ _ (by unfold maxLen; omega) HR.out).mono ?_; rintro e w1 ⟨rfl, hb⟩; rw [HP.out])
    go_ret
    exact ⟨ret_int HF.out.symm, hb⟩
  · have HP := Lib.hid hp
    have HF : Hid (loopDepth xs = (xs.foldl stepM (0, 0)).2) := by show _ = _; simp [loopDepth, hp]
    have H40 : xs.length ≤ 40 := by simp [progOk] at hp; exact hp.1
    clear hp
    go_enter Try.func27, Try.ntmps27
    go_wp2_with (go_at_call 71; refine (iProgramOk_any xs _ _ _ (by unfold maxLen; omega) HR.out).mono ?_; rintro e w1 ⟨rfl, hb⟩; rw [HP.out])
    go_loopw [3, 4, 12] (fun d m i wr => ∃ (k : Nat) (p : Int × Int), k ≤ xs.length ∧ i = .int .i64 k ∧ d = .int .i64 p.1 ∧ m = .int .i64 p.2 ∧ p = (xs.take k).foldl stepM (0, 0) ∧ Below w.heap.size w wr) (fun _ _ i _ => xs.length - (intOf i).toNat)
    case atStart => exact ⟨0, (0, 0), Nat.zero_le _, rfl, rfl, rfl, rfl, hb⟩
    case round =>
      obtain ⟨k, ⟨dd, mm⟩, hk, rfl, rfl, rfl, hmm, hbw⟩ := hrel
      have hbs := hbw.size
      obtain ⟨d0, d3, m0, m3⟩ := foldM_bd HP.out k
      rw [← hmm] at d0 d3 m0 m3
      simp only at d0 d3 m0 m3
      have HM := Lib.hid hmm
      clear hmm
      by_cases hlt : k < xs.length
      · obtain ⟨b, off, op, dst, sa, sb, sc, sn, rfl, hbl, hx, c0, c1, c2, c3, c4, c5⟩ := (hr.below hbw).st k hlt
        have hsn := foldM_snoc hx
        rw [← HM.out] at hsn
        clear hx hr
        by_cases p12 : op = 12
        case pos =>
          subst p12
          have HS : Hid ((xs.take (k + 1)).foldl stepM (0, 0) = (dd + 1, if mm < dd + 1 then dd + 1 else mm)) := by show _ = _; rw [hsn]; simp [stepM, stepD]
          clear hsn
          go_wp2_with fail
          all_goals go_roundw
          case rel => exact ⟨k + 1, (_, _), by omega, by go_num, rfl, rfl, HS.out.symm, (by (repeat (first | with_reducible exact Below.refl _ _ | (with_reducible refine bel_next ?_ ?_ (by assumption)) | (with_reducible refine Below.alloc ?_ ?_ _) | (with_reducible refine Below.drew ?_) | (with_reducible refine below_drewN ?_ _) | (with_reducible refine Below.setCell ?_ ?_ _))) <;> (first | omega | (simp; done) | (simp; omega)))⟩
          case measure => simp [intOf]; omega
        by_cases p13 : op = 13
        case pos =>
          subst p13
          have HS : Hid ((xs.take (k + 1)).foldl stepM (0, 0) = (dd - 1, if mm < dd - 1 then dd - 1 else mm)) := by show _ = _; rw [hsn]; simp [stepM, stepD]
          clear hsn
          go_wp2_with fail
          all_goals go_roundw
          case rel => exact ⟨k + 1, (_, _), by omega, by go_num, rfl, rfl, HS.out.symm, (by (repeat (first | with_reducible exact Below.refl _ _ | (with_reducible refine bel_next ?_ ?_ (by assumption)) | (with_reducible refine Below.alloc ?_ ?_ _) | (with_reducible refine Below.drew ?_) | (with_reducible refine below_drewN ?_ _) | (with_reducible refine Below.setCell ?_ ?_ _))) <;> (first | omega | (simp; done) | (simp; omega)))⟩
          case measure => simp [intOf]; omega
        have q12 : (op == 12) = false := by simp; omega
        have q13 : (op == 13) = false := by simp; omega
        have HS : Hid ((xs.take (k + 1)).foldl stepM (0, 0) = (dd, if mm < dd then dd else mm)) := by show _ = _; rw [hsn]; simp [stepM, stepD, p12, p13]
        clear hsn p12 p13
        go_wp2_with fail
        all_goals go_roundw
        case rel => exact ⟨k + 1, (_, _), by omega, by go_num, rfl, rfl, HS.out.symm, (by (repeat (first | with_reducible exact Below.refl _ _ | (with_reducible refine bel_next ?_ ?_ (by assumption)) | (with_reducible refine Below.alloc ?_ ?_ _) | (with_reducible refine Below.drew ?_) | (with_reducible refine below_drewN ?_ _) | (with_reducible refine Below.setCell ?_ ?_ _))) <;> (first | omega | (simp; done) | (simp; omega)))⟩
        case measure => simp [intOf]; omega
      · have HK : Hid ((xs.take k).foldl stepM (0, 0) = xs.foldl stepM (0, 0)) := by show _ = _; rw [List.take_of_length_le (by omega)]
        clear hr
        go_wp2_with fail
        go_ret
        exact ⟨ret_int (by rw [HF.out, ← HK.out, ← HM.out]), (by (repeat (first | with_reducible exact Below.refl _ _ | (with_reducible refine bel_next ?_ ?_ (by assumption)) | (with_reducible refine Below.alloc ?_ ?_ _) | (with_reducible refine Below.drew ?_) | (with_reducible refine below_drewN ?_ _) | (with_reducible refine Below.setCell ?_ ?_ _))) <;> (first | omega | (simp; done) | (simp; omega)))⟩
set_option maxHeartbeats 2000000 in
theorem sLoopDepth_any (xs : List St) (ad : Option Addr) (cp : Nat) (w : World) (hm : xs.length ≤ maxLen) (hr : RdC w ad (stCells xs)) :
    Calls Try.prog 26 #[.slice ad xs.length cp] w fun e w' => e = .returned (.int .i64 (loopDepth xs)) ∧ Below w.heap.size w w' := by
  unfold maxLen at hm
  have HR := Lib.hid hr
  cases hp : progOk xs
  · have HP := Lib.hid hp
    have HF : Hid (loopDepth xs = -1) := by show _ = _; simp [loopDepth, hp]
    clear hp hr
    go_enter Try.func26, Try.ntmps26
    go_wp2_with (go_at_call 82; refine (sProgramOk_any xs _ _ _ (by unfold maxLen; omega) HR.out).mono ?_; rintro e w1 ⟨rfl, hb⟩; rw [HP.out])
    go_ret
    exact ⟨ret_int HF.out.symm, hb⟩
  · have HP := Lib.hid hp
    have HF : Hid (loopDepth xs = (xs.foldl stepM (0, 0)).2) := by show _ = _; simp [loopDepth, hp]
    have H40 : xs.length ≤ 40 := by simp [progOk] at hp; exact hp.1
    clear hp
    go_enter Try.func26, Try.ntmps26
    go_wp2_with (go_at_call 82; refine (sProgramOk_any xs _ _ _ (by unfold maxLen; omega) HR.out).mono ?_; rintro e w1 ⟨rfl, hb⟩; rw [HP.out])
    go_loopw [3, 4, 5] (fun d m i wr => ∃ (k : Nat) (p : Int × Int), k ≤ xs.length ∧ i = .int .i64 k ∧ d = .int .i64 p.1 ∧ m = .int .i64 p.2 ∧ p = (xs.take k).foldl stepM (0, 0) ∧ Below w.heap.size w wr) (fun _ _ i _ => xs.length - (intOf i).toNat)
    case atStart => exact ⟨0, (0, 0), Nat.zero_le _, rfl, rfl, rfl, rfl, hb⟩
    case round =>
      obtain ⟨k, ⟨dd, mm⟩, hk, rfl, rfl, rfl, hmm, hbw⟩ := hrel
      have hbs := hbw.size
      obtain ⟨d0, d3, m0, m3⟩ := foldM_bd HP.out k
      rw [← hmm] at d0 d3 m0 m3
      simp only at d0 d3 m0 m3
      have HM := Lib.hid hmm
      clear hmm
      by_cases hlt : k < xs.length
      · obtain ⟨b, off, op, dst, sa, sb, sc, sn, rfl, hbl, hx, c0, c1, c2, c3, c4, c5⟩ := (hr.below hbw).st k hlt
        have hsn := foldM_snoc hx
        rw [← HM.out] at hsn
        clear hx hr
        by_cases p12 : op = 12
        case pos =>
          subst p12
          have HS : Hid ((xs.take (k + 1)).foldl stepM (0, 0) = (dd + 1, if mm < dd + 1 then dd + 1 else mm)) := by show _ = _; rw [hsn]; simp [stepM, stepD]
          clear hsn
          go_wp2_with fail
          all_goals go_roundw
          case rel => exact ⟨k + 1, (_, _), by omega, by go_num, rfl, rfl, HS.out.symm, (by (repeat (first | with_reducible exact Below.refl _ _ | (with_reducible refine bel_next ?_ ?_ (by assumption)) | (with_reducible refine Below.alloc ?_ ?_ _) | (with_reducible refine Below.drew ?_) | (with_reducible refine below_drewN ?_ _) | (with_reducible refine Below.setCell ?_ ?_ _))) <;> (first | omega | (simp; done) | (simp; omega)))⟩
          case measure => simp [intOf]; omega
        by_cases p13 : op = 13
        case pos =>
          subst p13
          have HS : Hid ((xs.take (k + 1)).foldl stepM (0, 0) = (dd - 1, if mm < dd - 1 then dd - 1 else mm)) := by show _ = _; rw [hsn]; simp [stepM, stepD]
          clear hsn
          go_wp2_with fail
          all_goals go_roundw
          case rel => exact ⟨k + 1, (_, _), by omega, by go_num, rfl, rfl, HS.out.symm, (by (repeat (first | with_reducible exact Below.refl _ _ | (with_reducible refine bel_next ?_ ?_ (by assumption)) | (with_reducible refine Below.alloc ?_ ?_ _) | (with_reducible refine Below.drew ?_) | (with_reducible refine below_drewN ?_ _) | (with_reducible refine Below.setCell ?_ ?_ _))) <;> (first | omega | (simp; done) | (simp; omega)))⟩
          case measure => simp [intOf]; omega
        have q12 : (op == 12) = false := by simp; omega
        have q13 : (op == 13) = false := by simp; omega
        have HS : Hid ((xs.take (k + 1)).foldl stepM (0, 0) = (dd, if mm < dd then dd else mm)) := by show _ = _; rw [hsn]; simp [stepM, stepD, p12, p13]
        clear hsn p12 p13
        go_wp2_with fail
        all_goals go_roundw
        case rel => exact ⟨k + 1, (_, _), by omega, by go_num, rfl, rfl, HS.out.symm, (by (repeat (first | with_reducible exact Below.refl _ _ | (with_reducible refine bel_next ?_ ?_ (by assumption)) | (with_reducible refine Below.alloc ?_ ?_ _) | (with_reducible refine Below.drew ?_) | (with_reducible refine below_drewN ?_ _) | (with_reducible refine Below.setCell ?_ ?_ _))) <;> (first | omega | (simp; done) | (simp; omega)))⟩
        case measure => simp [intOf]; omega
      · have HK : Hid ((xs.take k).foldl stepM (0, 0) = xs.foldl stepM (0, 0)) := by show _ = _; rw [List.take_of_length_le (by omega)]
        clear hr
        go_wp2_with fail
        go_ret
        exact ⟨ret_int (by rw [HF.out, ← HK.out, ← HM.out]), (by (repeat (first | with_reducible exact Below.refl _ _ | (with_reducible refine bel_next ?_ ?_ (by assumption)) | (with_reducible refine Below.alloc ?_ ?_ _) | (with_reducible refine Below.drew ?_) | (with_reducible refine below_drewN ?_ _) | (with_reducible refine Below.setCell ?_ ?_ _))) <;> (first | omega | (simp; done) | (simp; omega)))⟩
end Go.Proofs.Ytfeffofoofmgcaa
