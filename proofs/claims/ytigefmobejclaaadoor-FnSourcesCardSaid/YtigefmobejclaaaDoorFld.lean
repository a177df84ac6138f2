/- A line cut into its fields: the walk of the reference's SplitFields. -/
import Derived.Test.YtigefmobejclaaaDoorStr
import Derived.Test.YtigefmobejclaaaDoorSpl
import Derived.Test.YtigefmobejclaaaDoorFmtP
namespace Go.Proofs.YtigefmobejclaaaDoor
open Go.RowKit
set_option linter.unusedVariables false
set_option linter.unusedSimpArgs false

/-- What SplitFields owes: the fields of a written statement. -/
def FldOk (l : Bs) (xs : List Bs) (ok : Bool) : Prop := xs.length ≤ 24 ∧ (∀ x ∈ xs, x.length ≤ 1048576) ∧ ∀ s, stOk s = true → l = fmtS s → ok = true ∧ xs = wordB s.op :: argsF s
theorem FldOk.no {l : Bs} (h : ∀ s, stOk s = true → l ≠ fmtS s) : FldOk l [] false := ⟨by simp, by simp, fun s hs e => absurd e (h s hs)⟩

/-- What SplitFields hands back. -/
def IsFld (l : Bs) (w0 w' : World) (e : Ending) : Prop := ∃ xs a c ok, e = .returned (.tuple #[.slice a xs.length c, .bool ok]) ∧ FldOk l xs ok ∧ Own w' w0.heap.size 9 1 a xs.length c (strV xs)

set_option maxRecDepth 100000 in
set_option maxHeartbeats 4000000 in
theorem splitFields_any (l : Bs) (hs : l.length ≤ 1048576) (w : World) :
    Calls Tryd.prog 38 #[.string (bA l)] w fun e w' => IsFld l w w' e ∧ Below w.heap.size w w' := by
  have hno : ¬ l.length ≤ 600 → ∀ s, stOk s = true → l ≠ fmtS s := fun h s hs e => by
    have := fmtS_len hs
    rw [← e] at this
    omega
  have HNO := Lib.hid hno
  clear hno
  by_cases h600 : l.length ≤ 600
  case neg =>
    go_enter Tryd.func38, Tryd.ntmps38
    go_wp2_with fail
    go_ret2
    exact ⟨⟨[], _, _, false, rfl, FldOk.no (HNO.out h600), own_new w 9 1⟩, (Below.refl _ _).alloc (Nat.le_refl _) _⟩
  go_enter Tryd.func38, Tryd.ntmps38
  go_wp2_with fail
  go_loopw [4, 5, 6] (fun v b i wr => ∃ (k bb g cap : Nat) (xs : List Bs), k ≤ l.length + 1 ∧ i = .int .i64 k ∧ b = .int .i64 bb ∧ v = .slice (some ⟨g, 0, none⟩) xs.length cap ∧ FS l k bb xs ∧ Own wr w.heap.size 9 1 (some ⟨g, 0, none⟩) xs.length cap (strV xs) ∧ Below w.heap.size w wr) (fun _ _ i _ => l.length + 1 - (intOf i).toNat)
  case atStart =>
    exact ⟨0, 0, w.heap.size, 0, [], by omega, rfl, rfl, rfl, FS.start l, own_new w 9 1, (Below.refl _ _).alloc (Nat.le_refl _) _⟩
  case round =>
    obtain ⟨k, bb, g, cap, xs, hk, rfl, rfl, rfl, hfs, hown, hbw⟩ := hrel
    have hle := hfs.le
    have hcnt := hfs.cnt
    have hszs := hbw.size
    have HF := Lib.hid hfs
    have HO := Lib.hid hown
    clear hfs hown
    by_cases hlt : k < l.length
    · have HIN := Lib.hid (List.getElem_mem hlt)
      have HSK := Lib.hid (fun h => HF.out.skip hlt h)
      have HCY := Lib.hid (fun h h2 => HF.out.cutY hlt h h2)
      have HCN := Lib.hid (fun h h2 => HF.out.cutN hlt h h2)
      generalize hc : l[k] = c at HIN HSK HCY HCN
      obtain ⟨x, hx⟩ : ∃ x : Int, x = (c.toNat : Int) := ⟨_, rfl⟩
      have hgb : ∀ (h : k < (bA l).size), (((bA l)[k]'h).toNat : Int) = x := fun h => by rw [hx, ← hc]; rfl
      have hx0 : 0 ≤ x := by omega
      have hx1 : x ≤ 255 := by have := c.toNat_lt; omega
      have HX := Lib.hid hx
      clear hx hc
      have HBAD := Lib.hid (fun (h : ¬ (32 ≤ x ∧ x ≤ 126)) (s : St) (hs : stOk s = true) (e : l = fmtS s) => h (by
        have h2 := HIN.out
        rw [e] at h2
        have := fmtS_bytes s c h2
        have h3 := HX.out
        omega))
      by_cases c0 : x < 32
      · have t0 : decide (x < 32) = true := decide_eq_true c0
        go_wp2_with fail
        go_ret2
        exact ⟨⟨[], _, _, false, rfl, FldOk.no (HBAD.out (by omega)), (own_new wr 9 1).lo hszs⟩, hbw.alloc hszs _⟩
      have t0 : decide (x < 32) = false := by simpa using c0
      by_cases c1 : 126 < x
      · have t1 : decide (126 < x) = true := decide_eq_true c1
        go_wp2_with fail
        go_ret2
        exact ⟨⟨[], _, _, false, rfl, FldOk.no (HBAD.out (by omega)), (own_new wr 9 1).lo hszs⟩, hbw.alloc hszs _⟩
      have t1 : decide (126 < x) = false := by simpa using c1
      by_cases c2 : x = 32
      case neg =>
        have t2 : (x != 32) = true := by simpa using c2
        go_wp2_with fail
        go_roundw
        case rel =>
          exact ⟨k + 1, bb, g, cap, xs, by omega, by go_num, rfl, rfl, HSK.out (fun h => c2 (by rw [HX.out, h]; rfl)), HO.out, hbw⟩
        case measure => first | (simp [intOf]; done) | (simp [intOf]; omega)
      have t2 : (x != 32) = false := by simpa using c2
      have hc32 : c = 32 := by
        have h3 := HX.out
        apply UInt8.toNat_inj.1
        rw [show (32 : UInt8).toNat = 32 from rfl]
        omega
      have HC32 := Lib.hid hc32
      clear hc32 c2
      by_cases hbk : bb < k
      · have t3 : decide ((bb : Int) < k) = true := decide_eq_true (by omega)
        have hex : (bA l).extract bb k = bA ((l.take k).drop bb) := ba_ext (by rw [Lib.extract_data, bA_data, List.drop_take]) 
        have HFN := Lib.hid (HCY.out HC32.out hbk)
        generalize (l.take k).drop bb = y at hex HFN
        go_wp2_with (refine wpList_pushS _ rfl _ _ rfl w.heap.size g _ cap xs y wr.heap.size 1 (by rfl) (by rfl) (HO.out.keep (fun a ha => (Kp.refl _ _).alloc _)) (by go_simp) (by omega) (by simp; omega) ?_; intro g' cap' w3 ho3 hb3 hg3 hgg)
        go_roundw
        case rel =>
          exact ⟨k + 1, k + 1, g', cap', xs ++ [y], by omega, by go_num, by go_num, by simp, HFN.out, by simpa using ho3, (hbw.alloc hszs _).trans hb3⟩
        case measure => first | (simp [intOf]; done) | (simp [intOf]; omega)
      · have t3 : decide ((bb : Int) < k) = false := by simp; omega
        go_wp2_with fail
        go_roundw
        case rel =>
          exact ⟨k + 1, k + 1, g, cap, xs, by omega, by go_num, by go_num, rfl, HCN.out HC32.out hbk, HO.out, hbw⟩
        case measure => first | (simp [intOf]; done) | (simp [intOf]; omega)
    by_cases hend : k = l.length
    · subst hend
      have HLY := Lib.hid (fun h => HF.out.lastY h)
      have HLN := Lib.hid (fun h => HF.out.lastN h)
      by_cases hbk : bb < l.length
      · have t3 : decide ((bb : Int) < l.length) = true := decide_eq_true (by omega)
        have hex : (bA l).extract bb l.length = bA ((l.take l.length).drop bb) := ba_ext (by rw [Lib.extract_data, bA_data, List.drop_take])
        have HFN := Lib.hid (HLY.out hbk)
        generalize (l.take l.length).drop bb = y at hex HFN
        go_wp2_with (refine wpList_pushS _ rfl _ _ rfl w.heap.size g _ cap xs y wr.heap.size 1 (by rfl) (by rfl) (HO.out.keep (fun a ha => (Kp.refl _ _).alloc _)) (by go_simp) (by omega) (by simp; omega) ?_; intro g' cap' w3 ho3 hb3 hg3 hgg)
        go_roundw
        case rel =>
          exact ⟨l.length + 1, l.length + 1, g', cap', xs ++ [y], by omega, by go_num, by go_num, by simp, HFN.out, by simpa using ho3, (hbw.alloc hszs _).trans hb3⟩
        case measure => first | (simp [intOf]; done) | (simp [intOf]; omega)
      · have t3 : decide ((bb : Int) < l.length) = false := by simp; omega
        go_wp2_with fail
        go_roundw
        case rel =>
          exact ⟨l.length + 1, l.length + 1, g, cap, xs, by omega, by go_num, by go_num, rfl, HLN.out hbk, HO.out, hbw⟩
        case measure => first | (simp [intOf]; done) | (simp [intOf]; omega)
    · have HD := Lib.hid (HF.out.done (by omega))
      have HSZ := Lib.hid HF.out.sz
      by_cases h24 : xs.length ≤ 24
      · have t4 : decide (24 < (xs.length : Int)) = false := by simp; omega
        go_wp2_with fail
        go_ret2
        exact ⟨⟨xs, _, _, true, rfl, ⟨h24, fun x hx => by have := HSZ.out x hx; omega, fun s hs e => ⟨rfl, by rw [HD.out, e]; exact fields_fmtS hs⟩⟩, HO.out⟩, hbw⟩
      · have t4 : decide (24 < (xs.length : Int)) = true := decide_eq_true (by omega)
        go_wp2_with fail
        go_ret2
        refine ⟨⟨[], _, _, false, rfl, FldOk.no (fun s hs e => h24 ?_), (own_new wr 9 1).lo hszs⟩, hbw.alloc hszs _⟩
        rw [HD.out, e, fields_fmtS hs]
        have := args_len s
        simp only [List.length_cons]
        omega
end Go.Proofs.YtigefmobejclaaaDoor
