/- Contracts of DrawPlaces and DrawTape, and the law on operations. -/
import Derived.Test.YtigefmobejclaaaDoorDraw
import Derived.Test.YtigefmobejclaaaDoorOper
namespace Go.Proofs.YtigefmobejclaaaDoor
open Go.RowKit

set_option maxHeartbeats 2000000 in
theorem DrawPlaces_any (xs : List Int) (ad : Option Addr) (c : Nat) (w : World) (hm : xs.length ≤ 1048576) (hr : RdC w ad (xs.map (Value.int .u8))) (hb : ∀ x ∈ xs, 0 ≤ x ∧ x ≤ 255) :
    Calls Tryd.prog 25 #[.slice ad xs.length c] w fun e w' => ∃ (a' : Option Addr) (c' : Nat), e = .returned (.slice a' 12 c') ∧ (∃ vs : List Int, vs.length = 12 ∧ (∀ v ∈ vs, 0 ≤ v ∧ v < 10000) ∧
      Own w' w.heap.size 3 1 a' 12 c' (I64 vs)) ∧ Below w.heap.size w w' := by
  go_enter Tryd.func25, Tryd.ntmps25
  go_wp2_with fail
  refine (l01New_any xs ad c w hm hr hb).mono ?_
  rintro e w1 ⟨g, rfl, hgl, hd1, hb1⟩
  have z1 := hb1.size
  have hg1 := hd1.gt
  go_wp2_with fail
  go_loopw [4, 5] (fun v i wr => ∃ (k : Nat) (a' : Option Addr) (c' : Nat) (vs : List Int), k ≤ 12 ∧ i = .int .i64 k ∧ v = .slice a' k c' ∧ vs.length = k ∧ (∀ v ∈ vs, 0 ≤ v ∧ v < 10000) ∧
      Own wr w1.heap.size 3 1 a' k c' (I64 vs) ∧ Dr wr g xs ad c ∧ Below w.heap.size w wr ∧ w1.heap.size ≤ wr.heap.size) (fun _ i _ => 12 - (intOf i).toNat)
  case atStart =>
    refine ⟨0, _, _, [], Nat.zero_le _, rfl, rfl, rfl, (by intro v hv; cases hv), World.ownsRow_lit w1 #[] 0 (Nat.le_refl _) (by simp [maxLen]) rfl, hd1.keep fun b _ => (Kp.refl b w1).alloc _, (by (repeat (first | with_reducible exact Below.refl _ _ | (with_reducible refine bel_next ?_ ?_ (by assumption)) | (with_reducible refine Below.alloc ?_ ?_ _) | (with_reducible refine Below.drew ?_) | (with_reducible refine below_drewN ?_ _) | (with_reducible refine Below.setCell ?_ ?_ _))) <;> (first | omega | (simp; done) | (simp; omega))), by simp⟩
  case round =>
    obtain ⟨k, a', c', vs, hk, rfl, rfl, hl, hv, hown, hd, hbw, hsz⟩ := hrel
    have HL := Lib.hid hl
    clear hl
    by_cases hlt : (k : Int) < 12
    · go_wp2_with fail
      refine (below_dr g xs ad c 10000 _ hd).mono ?_
      rintro e w2 ⟨v, rfl, v0, v1, _, hd2, ho2⟩
      have v1' := v1 (by omega)
      obtain ⟨hb2, hr2⟩ := ho2
      have z2 := hb2.size
      have hown2 : Own w2 w1.heap.size 3 1 a' k c' (I64 vs) := hown.keep fun a ha => (by have hh := (hown.blk a ha); exact (Kp.refl _ _).rng hr2 (by omega))
      clear v1 hown
      go_wp2_with (at_builtin; refine wpList_app1 _ rfl _ _ rfl w1.heap.size _ _ _ vs v w2.heap.size 1 rfl rfl (hown2.alloc _) (by go_simp) (by omega) (by simp; omega) ?_; intro gg cap w3 hown3 hb3 hg3)
      have R : Hid (Dr w3 g xs ad c ∧ Below w.heap.size w w3 ∧ w1.heap.size ≤ w3.heap.size) := by
        have z3 := hb3.size
        simp at z3
        refine ⟨hd2.keep fun b hbb => ((Kp.refl b w2).alloc _).trans fun hx => ⟨hb3.block b (by omega), by omega⟩, ?_, by omega⟩
        exact (((hbw.trans (hb2.mono (by omega))).alloc (by omega) _).trans (hb3.mono (by omega)))
      have R2 : Hid (∀ u ∈ vs ++ [v], 0 ≤ u ∧ u < 10000) := by
        intro u hu
        rcases List.mem_append.1 hu with hu | hu
        · exact hv u hu
        · simp at hu; subst hu; exact ⟨v0, v1'⟩
      clear hb3 hg3 hown2 hd2 hd hv hbw
      go_wp2_with fail
      go_roundw
      case rel => exact ⟨k + 1, _, _, vs ++ [v], by omega, by go_num, rfl, by simp [HL.out], R2.out, hown3, R.out.1, R.out.2.1, R.out.2.2⟩
      case measure => simp [intOf]; omega
    · obtain rfl : k = 12 := by omega
      have H := Lib.hid (And.intro hown (And.intro hbw hv))
      clear hown hbw hd hv
      go_wp2_with fail
      go_ret
      exact ⟨a', c', rfl, ⟨vs, HL.out, H.out.2.2, H.out.1.lo (by omega)⟩, H.out.2.1⟩

/-- The numbers at two places. -/
theorem Own.at2 {w : World} {lo e : Nat} {ad : Option Addr} {n c : Nat} {vs : List Int} (h : Own w lo e 1 ad n c (I64 vs)) (hn : 0 < n) :
    ∃ b, ad = some ⟨b, 0, none⟩ ∧ ∀ i (hi : i < vs.length), w.cell? ⟨b, i, none⟩ = some (.int .i64 vs[i]) := by
  obtain ⟨g, rfl, _, _⟩ := h.addr hn
  exact ⟨g, rfl, fun i hi => by rw [(h.get i (by simpa using hi)).1, I64_get vs i hi]⟩

def opsHold (a b : Int) : Bool :=
  (operateF 4 (operateF 3 a b) b == a) && (operateF 8 a b + operateF 8 b a + operateF 9 a b == 1) && (operateF 5 a b == a * b % 16) && (operateF 7 (operateF 7 a b) b == a) && (operateF 3 a b == (a + b) % 16)
def opsBound (a b : Int) : Bool := inB (operateF 8 a b) 0 1 && inB (operateF 8 b a) 0 1 && inB (operateF 9 a b) 0 1
theorem opsBound_all : ∀ a : Fin 16, ∀ b : Fin 16, opsBound (a.val : Int) (b.val : Int) = true := by decide +kernel
theorem opsBound_of {a b : Int} (ha : 0 ≤ a) (ha' : a < 16) (hb : 0 ≤ b) (hb' : b < 16) : opsBound a b = true := by
  obtain ⟨x, rfl⟩ := Int.eq_ofNat_of_zero_le ha
  obtain ⟨y, rfl⟩ := Int.eq_ofNat_of_zero_le hb
  exact opsBound_all ⟨x, by omega⟩ ⟨y, by omega⟩
theorem opsHold_all : ∀ a : Fin 16, ∀ b : Fin 16, opsHold (a.val : Int) (b.val : Int) = true := by decide +kernel
theorem opsHold_of {a b : Int} (ha : 0 ≤ a) (ha' : a < 16) (hb : 0 ≤ b) (hb' : b < 16) : opsHold a b = true := by
  obtain ⟨x, rfl⟩ := Int.eq_ofNat_of_zero_le ha
  obtain ⟨y, rfl⟩ := Int.eq_ofNat_of_zero_le hb
  exact opsHold_all ⟨x, by omega⟩ ⟨y, by omega⟩

end Go.Proofs.YtigefmobejclaaaDoor
