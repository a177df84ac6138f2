/- Facts on drawn programs. -/
import Derived.Test.YtfeffofoofmgcaaDrProg
import Derived.Test.YtfeffofoofmgcaaPlaces
import Derived.Test.YtfeffofoofmgcaaReads
import Derived.Test.YtfeffofoofmgcaaParties
namespace Go.Proofs.Ytfeffofoofmgcaa
open Go.RowKit
set_option linter.unusedVariables false
set_option linter.unusedSimpArgs false

theorem Own.cap {w : World} {lo e size : Nat} {g n cap : Nat} {cs : List Value} (h : Own w lo e size (some ⟨g, 0, none⟩) n cap cs) : n ≤ cap := by
  rcases h.2 with ⟨he, _⟩ | ⟨g', cap', cur, he, _, _, hnc, _⟩
  · simp at he
  · simp only [Value.slice.injEq] at he
    obtain ⟨_, _, rfl⟩ := he
    exact hnc
theorem Own.capMax {w : World} {lo e size : Nat} {g n cap : Nat} {cs : List Value} (h : Own w lo e size (some ⟨g, 0, none⟩) n cap cs) : cap ≤ maxLen := by
  rcases h.2 with ⟨he, _⟩ | ⟨g', cap', cur, he, _, _, _, hcm, _⟩
  · simp at he
  · simp only [Value.slice.injEq] at he
    obtain ⟨_, _, rfl⟩ := he
    exact hcm
set_option maxHeartbeats 2000000 in
theorem iWritesOf_any (s : St) (w : World) :
    Calls Try.prog 69 #[stV s] w fun e w' => e = .returned (.int .i64 (writesOf s)) ∧ Below w.heap.size w w' := by
  obtain ⟨op, dst, a, b, c, n⟩ := s
  cases hs : stOk ⟨op, dst, a, b, c, n⟩
  · have HS := Lib.hid hs
    have HF : Hid (writesOf ⟨op, dst, a, b, c, n⟩ = -1) := by show _ = _; simp [writesOf, hs]
    clear hs
    unfold stV
    go_enter Try.func69, Try.ntmps69
    go_wp2_with (go_at_call 70; refine (iStmtOk_any ⟨op, dst, a, b, c, n⟩ _).mono ?_; rintro e w1 ⟨rfl, hb⟩; rw [HS.out]; have k1_0 := bel_keeps hb (b := w.heap.size) (o := 0) (v := .int .i64 op) (by go_simp); have k1_1 := bel_keeps hb (b := w.heap.size) (o := 1) (v := .int .i64 dst) (by go_simp))
    go_ret
    exact ⟨ret_int HF.out.symm, (by (repeat (first | with_reducible exact Below.refl _ _ | (with_reducible refine bel_next ?_ ?_ (by assumption)) | (with_reducible refine Below.alloc ?_ ?_ _) | (with_reducible refine Below.drew ?_) | (with_reducible refine below_drewN ?_ _) | (with_reducible refine Below.setCell ?_ ?_ _))) <;> (first | omega | (simp; done) | (simp; omega)))⟩
  · have HS := Lib.hid hs
    by_cases h : op ≤ 10
    · have HF : Hid (writesOf ⟨op, dst, a, b, c, n⟩ = dst) := by show _ = _; simp [writesOf, hs, h]
      clear hs
      unfold stV
      go_enter Try.func69, Try.ntmps69
      go_wp2_with (go_at_call 70; refine (iStmtOk_any ⟨op, dst, a, b, c, n⟩ _).mono ?_; rintro e w1 ⟨rfl, hb⟩; rw [HS.out]; have k1_0 := bel_keeps hb (b := w.heap.size) (o := 0) (v := .int .i64 op) (by go_simp); have k1_1 := bel_keeps hb (b := w.heap.size) (o := 1) (v := .int .i64 dst) (by go_simp))
      go_ret
      exact ⟨ret_int HF.out.symm, (by (repeat (first | with_reducible exact Below.refl _ _ | (with_reducible refine bel_next ?_ ?_ (by assumption)) | (with_reducible refine Below.alloc ?_ ?_ _) | (with_reducible refine Below.drew ?_) | (with_reducible refine below_drewN ?_ _) | (with_reducible refine Below.setCell ?_ ?_ _))) <;> (first | omega | (simp; done) | (simp; omega)))⟩
    · have HF : Hid (writesOf ⟨op, dst, a, b, c, n⟩ = -1) := by show _ = _; simp [writesOf, hs, h]
      clear hs
      unfold stV
      go_enter Try.func69, Try.ntmps69
      go_wp2_with (go_at_call 70; refine (iStmtOk_any ⟨op, dst, a, b, c, n⟩ _).mono ?_; rintro e w1 ⟨rfl, hb⟩; rw [HS.out]; have k1_0 := bel_keeps hb (b := w.heap.size) (o := 0) (v := .int .i64 op) (by go_simp); have k1_1 := bel_keeps hb (b := w.heap.size) (o := 1) (v := .int .i64 dst) (by go_simp))
      go_ret
      exact ⟨ret_int HF.out.symm, (by (repeat (first | with_reducible exact Below.refl _ _ | (with_reducible refine bel_next ?_ ?_ (by assumption)) | (with_reducible refine Below.alloc ?_ ?_ _) | (with_reducible refine Below.drew ?_) | (with_reducible refine below_drewN ?_ _) | (with_reducible refine Below.setCell ?_ ?_ _))) <;> (first | omega | (simp; done) | (simp; omega)))⟩
theorem parties_two {l : List St} (h : progOk l = true) {r : List St} (hl : l = ⟨2, 0, 0, 0, 0, 0⟩ :: ⟨2, 1, 1, 0, 0, 0⟩ :: r) : 2 ≤ partiesOf l := by
  have hst : ∀ s ∈ l, stOk s = true := fun s hs => by
    obtain ⟨k, hk⟩ := List.getElem?_of_mem hs
    exact stok_at h hk
  have mono : ∀ (r : List St) (n : Int), 2 ≤ n → 2 ≤ r.foldl stepP n := by
    intro r
    induction r with
    | nil => intro n hn; exact hn
    | cons s r ih =>
      intro n hn
      refine ih _ ?_
      unfold stepP
      repeat' split
      all_goals omega
  simp only [partiesOf, h, if_true]
  rw [hl]
  exact mono r _ (by simp [stepP])

end Go.Proofs.Ytfeffofoofmgcaa
