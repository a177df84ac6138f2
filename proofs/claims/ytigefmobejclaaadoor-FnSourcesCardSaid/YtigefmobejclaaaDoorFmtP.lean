/- A program as text: the walks of FormatProgram. -/
import Derived.Test.YtigefmobejclaaaDoorFmtD
import Derived.Test.YtigefmobejclaaaDoorProgOk
import Derived.Test.YtigefmobejclaaaDoorApp
import Derived.Lib.AppendStr
namespace Go.Proofs.YtigefmobejclaaaDoor
open Go.RowKit
set_option linter.unusedVariables false
set_option linter.unusedSimpArgs false

/-- The text of a list of statements, a line each. -/
def progText (xs : List St) : Bs := xs.flatMap (fun s => fmtS s ++ [10])
theorem progText_nil : progText [] = [] := rfl
theorem progText_snoc (xs : List St) (s : St) : progText (xs ++ [s]) = progText xs ++ (fmtS s ++ [10]) := by simp [progText]

theorem stok_small {s : St} (h : stOk s = true) : s.dst < 16 ∧ s.a < 16 ∧ s.b < 16 ∧ s.c < 16 ∧ s.n < 16 := by
  obtain ⟨op, dst, a, b, c, n⟩ := s
  unfold stOk at h
  repeat' split at h
  all_goals simp only [Bool.and_eq_true, inB_iff, beq_iff_eq] at h
  all_goals simp only
  all_goals omega
theorem fmtS_len {s : St} (h : stOk s = true) : (fmtS s).length ≤ 60 := by
  obtain ⟨h1, h2, h3, h4, h5⟩ := stok_small h
  have hw := wordB_len s.op
  have d1 : (dig s.dst).length ≤ 10 := dig_len (by omega)
  have d2 : (dig s.a).length ≤ 10 := dig_len (by omega)
  have d3 : (dig s.b).length ≤ 10 := dig_len (by omega)
  have d4 : (dig s.c).length ≤ 10 := dig_len (by omega)
  have d5 : (dig s.n).length ≤ 10 := dig_len (by omega)
  unfold fmtS argsF
  repeat' split
  all_goals simp only [List.flatMap_cons, List.flatMap_nil, List.length_append, List.length_cons, List.length_nil]
  all_goals omega
theorem stok_atF {xs : List St} (h : progOk xs = true) {k : Nat} {s : St} (hx : xs[k]? = some s) : stOk s = true := by
  simp only [progOk, Bool.and_eq_true, decide_eq_true_eq] at h
  have hd : ∀ (ys : List St) (d e : Int), depF d ys = some e → ∀ s ∈ ys, stOk s = true := by
    intro ys
    induction ys with
    | nil => intro d e _ s hs; cases hs
    | cons y r ih =>
      intro d e hd s hs
      simp only [depF] at hd
      split at hd
      · next hy =>
        rcases List.mem_cons.1 hs with rfl | hs
        · simp only [Bool.and_eq_true] at hy; exact hy.1
        · exact ih _ _ hd s hs
      · cases hd
  exact hd xs 0 0 h.2 s (List.mem_of_getElem? hx)
theorem progText_len (xs : List St) (h : ∀ s ∈ xs, stOk s = true) : (progText xs).length ≤ xs.length * 61 := by
  induction xs with
  | nil => simp [progText]
  | cons s r ih =>
    have h1 := fmtS_len (h s (by simp))
    have h2 := ih (fun x hx => h x (List.mem_cons_of_mem _ hx))
    simp only [progText, List.flatMap_cons, List.length_append, List.length_cons, List.length_nil] at h2 ⊢
    omega
theorem progText_len_take {xs : List St} (h : progOk xs = true) (k : Nat) : (progText (xs.take k)).length ≤ 2440 := by
  have h40 : xs.length ≤ 40 := by simp only [progOk, Bool.and_eq_true, decide_eq_true_eq] at h; exact h.1
  have := progText_len (xs.take k) (fun s hs => by
    obtain ⟨i, hi⟩ := List.getElem?_of_mem (List.mem_of_mem_take hs)
    exact stok_atF h hi)
  have hl : (xs.take k).length ≤ 40 := by rw [List.length_take]; omega
  omega
/-- What FormatProgram hands back. -/
def progO (xs : List St) : Bs := if progOk xs = true then progText xs else []

theorem own_some {w : World} {lo e : Nat} {v : Value} {n : Nat} {cs : List Value} (h : w.ownsRow lo e 1 v n cs) (hv : ¬ v = .slice none 0 0) :
    ∃ g cap, v = .slice (some ⟨g, 0, none⟩) n cap ∧ g < w.heap.size := by
  rcases h.2 with ⟨h1, _⟩ | ⟨g, cap, cur, h1, _, h3, _⟩
  · exact absurd h1 hv
  · exact ⟨g, cap, h1, (Array.getElem?_eq_some_iff.1 h3).1⟩

theorem byteCells_at (l : Bs) (j : Nat) (h : j < l.length) : (Lib.byteCells l)[j]? = some (.int .u8 (l[j].toNat : Int)) := by
  simp [Lib.byteCells, h]

set_option maxRecDepth 100000 in
set_option maxHeartbeats 4000000 in
theorem sFormatProgram_any (xs : List St) (ad : Option Addr) (cp : Nat) (w : World) (hm : xs.length ≤ maxLen) (hr : RdC w ad (stCells xs)) :
    Calls Tryd.prog 12 #[.slice ad xs.length cp] w fun e w' => e = .returned (.tuple #[.string (bA (progO xs)), .bool (progOk xs)]) ∧ Below w.heap.size w w' := by
  cases hok : progOk xs
  case false =>
    have hf : progO xs = [] := by simp [progO, hok]
    rw [hf]
    have HOK := Lib.hid hok
    clear hok hf
    go_enter Tryd.func12, Tryd.ntmps12
    go_wp2_with (go_at_call 34; refine (sProgramOk_any xs _ _ _ hm hr).mono ?_; rintro e w1 ⟨rfl, hb1⟩; rw [HOK.out])
    go_ret2
    exact ⟨rfl, (by (repeat (first | with_reducible exact Below.refl _ _ | (with_reducible refine bel_next ?_ ?_ (by assumption)) | (with_reducible refine Below.alloc ?_ ?_ _) | (with_reducible refine Below.drew ?_) | (with_reducible refine below_drewN ?_ _) | (with_reducible refine Below.setCell ?_ ?_ _))) <;> (first | omega | (simp; done) | (simp; omega)))⟩
  have hf : progO xs = progText xs := by simp [progO, hok]
  rw [hf]
  have h40 : xs.length ≤ 40 := by simp only [progOk, Bool.and_eq_true, decide_eq_true_eq] at hok; exact hok.1
  have HOK := Lib.hid hok
  clear hok hf
  have HR := Lib.hid hr
  clear hr
  go_enter Tryd.func12, Tryd.ntmps12
  go_wp2_with (go_at_call 34; refine (sProgramOk_any xs _ _ _ hm HR.out).mono ?_; rintro e w1 ⟨rfl, hb1⟩; rw [HOK.out])
  have hs1 := hb1.size
  go_loopw [4, 5] (fun v i wr => ∃ (k g cap : Nat), k ≤ xs.length ∧ i = .int .i64 k ∧ v = .slice (some ⟨g, 0, none⟩) (progText (xs.take k)).length cap ∧ Own wr w.heap.size 5 1 (some ⟨g, 0, none⟩) (progText (xs.take k)).length cap (Lib.byteCells (progText (xs.take k))) ∧ Below w.heap.size w wr) (fun _ i _ => xs.length - (intOf i).toNat)
  case atStart =>
    exact ⟨0, w1.heap.size, 0, Nat.zero_le _, rfl, rfl, (own_new w1 5 1).lo hs1, (by (repeat (first | with_reducible exact Below.refl _ _ | (with_reducible refine bel_next ?_ ?_ (by assumption)) | (with_reducible refine Below.alloc ?_ ?_ _) | (with_reducible refine Below.drew ?_) | (with_reducible refine below_drewN ?_ _) | (with_reducible refine Below.setCell ?_ ?_ _))) <;> (first | omega | (simp; done) | (simp; omega)))⟩
  case round =>
    obtain ⟨k, g, cap, hk, rfl, rfl, hown, hbw⟩ := hrel
    have hlt2 := progText_len_take HOK.out k
    by_cases hlt : k < xs.length
    · obtain ⟨b, off, op, dst, sa, sb, sc, sn, rfl, hbl, hx, c0, c1, c2, c3, c4, c5⟩ := (HR.out.below hbw).st k hlt
      have hbs := hbw.size
      have hst := stok_atF HOK.out hx
      have hl60 := fmtS_len hst
      have hsn : progText (xs.take (k + 1)) = progText (xs.take k) ++ (fmtS ⟨op, dst, sa, sb, sc, sn⟩ ++ [10]) := by rw [take_snocS hx, progText_snoc]
      have HSN := Lib.hid hsn
      have HFO := Lib.hid (fmtO_ok hst)
      have HOWN := Lib.hid hown
      clear hsn hst hx hown
      obtain ⟨t, ht⟩ : ∃ t, t = fmtS ⟨op, dst, sa, sb, sc, sn⟩ := ⟨_, rfl⟩
      rw [← ht] at hl60 HSN HFO
      clear ht
      obtain ⟨p, hp⟩ : ∃ p, p = progText (xs.take k) := ⟨_, rfl⟩
      rw [← hp] at hlt2 HSN HOWN ⊢
      clear hp
      go_wp2_with fail
      refine (sFormatStmt_any ⟨op, dst, sa, sb, sc, sn⟩ _).mono ?_
      rw [HFO.out]
      rintro e w2 ⟨rfl, hb2⟩
      have hs2 := hb2.size
      have HO2 := Lib.hid (HOWN.out.keep (w' := w2) (fun a ha => (Kp.refl _ _).below hb2))
      have hpn : p.length + (bA t ++ bA [10]).size ≤ 2501 := by rw [← bA_append, bA_size]; simp; omega
      go_wp2_with (refine Lib.wpList_append_own_string _ rfl _ _ _ _ rfl w.heap.size 5 _ Tryd.underlying43 Tryd.underlying9 rfl (by kernel_rfl) (by kernel_rfl) (by kernel_rfl) _ _ _ (by rfl) HO2.out (bA t ++ bA [10]) (by rfl) (by unfold maxLen; omega) (by omega) (by omega) ?_; intro v' w3 ho3 hg3 hn3)
      refine ⟨?_, by simp only [intOf]; omega⟩
      have hv3 : ¬ v' = .slice none 0 0 := fun h => by
        have := (hn3.1 h).1
        cases this
      obtain ⟨g3, cap3, rfl, hg3l⟩ := own_some ho3 hv3
      have hcl : Lib.byteCells p ++ Lib.strCells (bA t ++ bA [10]) = Lib.byteCells (p ++ (t ++ [10])) := by
        rw [← bA_append, Lib.strCells_eq, bA_data, ← Lib.byteCells_append]
      have hle : p.length + (bA t ++ bA [10]).size = (p ++ (t ++ [10])).length := by rw [← bA_append, bA_size]; simp
      rw [hcl, hle] at ho3
      rw [hle]
      have hob := HOWN.out.blk _ rfl
      simp only at hob
      have hbw2 : Below w.heap.size w w2 := hbw.trans (hb2.mono hbs)
      refine ⟨k + 1, g3, cap3, by omega, by go_num, by rw [HSN.out], by rw [HSN.out]; exact ho3, hbw2.grown hg3 (by omega) ?_⟩
      intro q hq
      simp only [Value.ownBlock, Option.some.injEq] at hq
      omega
    · have hkl : xs.take k = xs := List.take_of_length_le (by omega)
      rw [hkl] at hown hlt2 ⊢
      obtain ⟨p, hp⟩ : ∃ p, p = progText xs := ⟨_, rfl⟩
      rw [← hp] at hlt2 hown ⊢
      have hcv : (convert 43 9 (.slice (some ⟨g, 0, none⟩) p.length cap)).run Tryd.prog wr = .ok (.string (bA p)) wr :=
        run_convert_bytes_back (P := Tryd.prog) wr 43 9 5 ⟨g, 0, none⟩ cap p Tryd.underlying43 Tryd.underlying5 Tryd.underlying9 (by
          intro j hj
          exact World.ownsRow.cells hown rfl j _ (byteCells_at p j hj))
      have HOWN := Lib.hid hown
      have HP := Lib.hid hp
      clear hown hkl hp
      go_wp2_with fail
      go_ret2
      exact ⟨by rw [HP.out]; rfl, hbw⟩

set_option maxRecDepth 100000 in
set_option maxHeartbeats 4000000 in
theorem iFormatProgram_any (xs : List St) (ad : Option Addr) (cp : Nat) (w : World) (hm : xs.length ≤ maxLen) (hr : RdC w ad (stCells xs)) (hw : LaidW w) :
    Calls Tryd.prog 14 #[.slice ad xs.length cp] w fun e w' => e = .returned (.tuple #[.string (bA (progO xs)), .bool (progOk xs)]) ∧ Below w.heap.size w w' := by
  cases hok : progOk xs
  case false =>
    have hf : progO xs = [] := by simp [progO, hok]
    rw [hf]
    have HOK := Lib.hid hok
    clear hok hf
    go_enter Tryd.func14, Tryd.ntmps14
    go_wp2_with (go_at_call 35; refine (iProgramOk_any xs _ _ _ hm hr).mono ?_; rintro e w1 ⟨rfl, hb1⟩; rw [HOK.out])
    go_ret2
    exact ⟨rfl, (by (repeat (first | with_reducible exact Below.refl _ _ | (with_reducible refine bel_next ?_ ?_ (by assumption)) | (with_reducible refine Below.alloc ?_ ?_ _) | (with_reducible refine Below.drew ?_) | (with_reducible refine below_drewN ?_ _) | (with_reducible refine Below.setCell ?_ ?_ _))) <;> (first | omega | (simp; done) | (simp; omega)))⟩
  have hf : progO xs = progText xs := by simp [progO, hok]
  rw [hf]
  have h40 : xs.length ≤ 40 := by simp only [progOk, Bool.and_eq_true, decide_eq_true_eq] at hok; exact hok.1
  have HOK := Lib.hid hok
  clear hok hf
  have HR := Lib.hid hr
  have HW := Lib.hid hw
  clear hr hw
  go_enter Tryd.func14, Tryd.ntmps14
  go_wp2_with (go_at_call 35; refine (iProgramOk_any xs _ _ _ hm HR.out).mono ?_; rintro e w1 ⟨rfl, hb1⟩; rw [HOK.out])
  have hs1 := hb1.size
  go_loopw [16] (fun i wr => ∃ (k : Nat), k ≤ xs.length ∧ i = .int .i64 k ∧ Lib.IsBuilderF 55 5 w1.heap.size w1.heap.size (Lib.byteCells (progText (xs.take k))) wr ∧ Below w.heap.size w wr ∧ w1.heap.size < wr.heap.size) (fun i _ => xs.length - (intOf i).toNat)
  case atStart =>
    exact ⟨0, Nat.zero_le _, rfl, .of (Lib.fresh_isBuilder 55 5 w1), (by (repeat (first | with_reducible exact Below.refl _ _ | (with_reducible refine bel_next ?_ ?_ (by assumption)) | (with_reducible refine Below.alloc ?_ ?_ _) | (with_reducible refine Below.drew ?_) | (with_reducible refine below_drewN ?_ _) | (with_reducible refine Below.setCell ?_ ?_ _))) <;> (first | omega | (simp; done) | (simp; omega))), by simp⟩
  case round =>
    obtain ⟨k, hk, rfl, hI, hbw, hw1⟩ := hrel
    have hlt2 := progText_len_take HOK.out k
    by_cases hlt : k < xs.length
    · obtain ⟨b, off, op, dst, sa, sb, sc, sn, rfl, hbl, hx, c0, c1, c2, c3, c4, c5⟩ := (HR.out.below hbw).st k hlt
      have hbs := hbw.size
      have hst := stok_atF HOK.out hx
      have hl60 := fmtS_len hst
      have hsn : progText (xs.take (k + 1)) = progText (xs.take k) ++ (fmtS ⟨op, dst, sa, sb, sc, sn⟩ ++ [10]) := by rw [take_snocS hx, progText_snoc]
      have HSN := Lib.hid hsn
      have HFO := Lib.hid (fmtO_ok hst)
      have HI := Lib.hid hI
      clear hsn hst hx hI
      obtain ⟨t, ht⟩ : ∃ t, t = fmtS ⟨op, dst, sa, sb, sc, sn⟩ := ⟨_, rfl⟩
      rw [← ht] at hl60 HSN HFO
      clear ht
      obtain ⟨p, hp⟩ : ∃ p, p = progText (xs.take k) := ⟨_, rfl⟩
      rw [← hp] at hlt2 HSN HI
      clear hp
      go_wp2_with fail
      refine (iFormatStmt_any ⟨op, dst, sa, sb, sc, sn⟩ _ (HW.out.below (by (repeat (first | with_reducible exact Below.refl _ _ | (with_reducible refine bel_next ?_ ?_ (by assumption)) | (with_reducible refine Below.alloc ?_ ?_ _) | (with_reducible refine Below.drew ?_) | (with_reducible refine below_drewN ?_ _) | (with_reducible refine Below.setCell ?_ ?_ _))) <;> (first | omega | (simp; done) | (simp; omega))))).mono ?_
      rw [HFO.out]
      rintro e w2 ⟨rfl, hb2⟩
      have hs2 := hb2.size
      try simp at hs2
      have HI2 := Lib.hid (builder_old HI.out (show Below wr.heap.size wr w2 from (by (repeat (first | with_reducible exact Below.refl _ _ | (with_reducible refine bel_next ?_ ?_ (by assumption)) | (with_reducible refine Below.alloc ?_ ?_ _) | (with_reducible refine Below.drew ?_) | (with_reducible refine below_drewN ?_ _) | (with_reducible refine Below.setCell ?_ ?_ _))) <;> (first | omega | (simp; done) | (simp; omega)))))
      have hbw2 : Below w.heap.size w w2 := (by (repeat (first | with_reducible exact Below.refl _ _ | (with_reducible refine bel_next ?_ ?_ (by assumption)) | (with_reducible refine Below.alloc ?_ ?_ _) | (with_reducible refine Below.drew ?_) | (with_reducible refine below_drewN ?_ _) | (with_reducible refine Below.setCell ?_ ?_ _))) <;> (first | omega | (simp; done) | (simp; omega)))
      have k2_0 := bel_keeps hb2 (b := wr.heap.size) (o := 0) (v := .int .i64 op) (by go_simp)
      go_wp2_with fail
      refine (builderWrite_c w1.heap.size w1.heap.size p (bA t ++ bA [10]) _ HI2.out (by rw [← bA_append, bA_size]; simp; omega) (by omega)).mono ?_
      rintro e w3 ⟨rfl, h3, hb3, _⟩
      have hs3 := hb3.size
      have H3 := Lib.hid h3
      clear h3
      go_wp2_with fail
      go_roundw
      case rel =>
        refine ⟨k + 1, by omega, by go_num, ?_, hbw2.trans (hb3.mono hs1), by omega⟩
        have h3 := H3.out
        rw [← bA_append, bA_data] at h3
        rw [HSN.out]
        exact h3
      case measure => simp [intOf]; omega
    · have hkl : xs.take k = xs := List.take_of_length_le (by omega)
      rw [hkl] at hI
      have HI := Lib.hid hI
      clear hI hkl hlt2
      go_wp2_with fail
      refine (builderString_c w1.heap.size w1.heap.size (progText xs) _ HI.out (by omega)).mono ?_
      rintro e w4 ⟨rfl, hb4⟩
      go_wp2_with fail
      go_ret2
      exact ⟨rfl, hbw.trans (hb4.mono hs1)⟩
end Go.Proofs.YtigefmobejclaaaDoor
