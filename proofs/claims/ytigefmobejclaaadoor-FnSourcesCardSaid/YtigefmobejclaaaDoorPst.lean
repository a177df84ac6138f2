/- One line parsed: the walk of the reference's ParseStmt. -/
import Derived.Test.YtigefmobejclaaaDoorFld
import Derived.Test.YtigefmobejclaaaDoorPstP
import Derived.Test.YtigefmobejclaaaDoorParB
import Derived.Test.YtigefmobejclaaaDoorStmtList
import Derived.Deep.CutRange
import Derived.Deep.CutBlock
import Derived.Deep.RegionHeld3
namespace Go.Proofs.YtigefmobejclaaaDoor
open Go.RowKit
set_option linter.unusedVariables false
set_option linter.unusedSimpArgs false

theorem el_stmt : El 32 26 6 48 (.agg #[.int .i64 0, .int .i64 0, .int .i64 0, .int .i64 0, .int .i64 0, .int .i64 0]) := by
  obtain ⟨i0, hi, hz0, hz1, hz2⟩ := info_parts info_st
  exact ⟨⟨i0, Tryd.underlying32, hi, hz0, hz1, hz2⟩, rfl, by omega⟩
theorem stV_one (xs : List St) : ∀ u ∈ stCells xs, u.oneCell' = true := by
  intro u hu
  obtain ⟨s, _, hs⟩ := List.mem_flatMap.1 hu
  simp only [St.cells, List.mem_cons, List.mem_nil_iff, or_false] at hs
  rcases hs with rfl | rfl | rfl | rfl | rfl | rfl <;> rfl
theorem rd_st (w : World) (s : St) (t : TypeId) {B : Nat} (h : B = w.heap.size) : RdC (w.alloc (.cells #[.int .i64 s.op, .int .i64 s.dst, .int .i64 s.a, .int .i64 s.b, .int .i64 s.c, .int .i64 s.n] t)) (some ⟨B, 0, none⟩) (stCells [s]) := by
  subst h; exact RdC.alloc w #[.int .i64 s.op, .int .i64 s.dst, .int .i64 s.a, .int .i64 s.b, .int .i64 s.c, .int .i64 s.n] t

section
variable {ops : Array Oper} {rest : List Oper} {o : Oper} {a : Act} {Q : Exit → Act → World → Prop}
/-- One statement behind a row. -/
theorem wpList_pushSt (w : World) (hgd : o.guard = none) (sl x : Operand) (ho : o.op = .call { callee := .builtin .append, args := #[sl, x], argTypes := #[32, 32] })
    (lo g n cap : Nat) (xs : List St) (s : St) (B c : Nat) (hs : a.eval sl = .slice (some ⟨g, 0, none⟩) n cap) (hx : a.eval x = .slice (some ⟨B, 0, none⟩) 1 c)
    (hown : Own w lo 26 6 (some ⟨g, 0, none⟩) n cap (stCells xs)) (hnew : RdC w (some ⟨B, 0, none⟩) (stCells [s])) (hn : n < 1099511627) (hlo : lo ≤ w.heap.size)
    (h : ∀ g' cap' w', Own w' lo 26 6 (some ⟨g', 0, none⟩) (n + 1) cap' (stCells (xs ++ [s])) → Below lo w w' → w.grownBy w' (some g) → (g' = g ∨ g' = w.heap.size) → wpList Tryd.prog ops Q rest (a.put o.dst (.slice (some ⟨g', 0, none⟩) (n + 1) cap')) w') :
    wpList Tryd.prog ops Q (o :: rest) a w :=
  wpList_appm w hgd el_stmt sl x ho lo g n cap (stCells xs) (stCells [s]) (some ⟨B, 0, none⟩) 1 c hs hx hown rfl hnew (stV_one [s]) (by intro h; cases h) (by omega) (by omega) hlo
    fun g' cap' w' h1 h2 h3 h4 => h g' cap' w' (by rw [stCells_append]; exact h1) h2 h3 h4
/-- The same in a region that draws its order. -/
theorem step_pushSt {K : Act → World → Prop} {F : Prop} (w : World) (hgd : o.guard = none) (sl x : Operand) (ho : o.op = .call { callee := .builtin .append, args := #[sl, x], argTypes := #[32, 32] })
    (lo g n cap : Nat) (xs : List St) (s : St) (B c : Nat) (hs : a.eval sl = .slice (some ⟨g, 0, none⟩) n cap) (hx : a.eval x = .slice (some ⟨B, 0, none⟩) 1 c)
    (hown : Own w lo 26 6 (some ⟨g, 0, none⟩) n cap (stCells xs)) (hnew : RdC w (some ⟨B, 0, none⟩) (stCells [s])) (hn : n < 1099511627) (hlo : lo ≤ w.heap.size)
    (h : ∀ g' cap' w', Own w' lo 26 6 (some ⟨g', 0, none⟩) (n + 1) cap' (stCells (xs ++ [s])) → Below lo w w' → w.grownBy w' (some g) → (g' = g ∨ g' = w.heap.size) → K (a.put o.dst (.slice (some ⟨g', 0, none⟩) (n + 1) cap')) w') :
    if Region.wanted o (yielded ops a.tmps) = true then Oper.wp Tryd.prog o a w K Q else F :=
  step_appm w hgd el_stmt sl x ho lo g n cap (stCells xs) (stCells [s]) (some ⟨B, 0, none⟩) 1 c hs hx hown rfl hnew (stV_one [s]) (by intro h; cases h) (by omega) (by omega) hlo
    fun g' cap' w' h1 h2 h3 h4 => h g' cap' w' (by rw [stCells_append]; exact h1) h2 h3 h4
end

/-- What ParseStmt hands back. -/
def IsPst (l : Bs) (e : Ending) : Prop := ∃ s b, e = .returned (.tuple #[stV s, .bool b]) ∧ PS l s b

theorem own_addr {w : World} {lo e : Nat} {a : Option Addr} {n c : Nat} {cs : List Value} (h : Own w lo e 1 a n c cs) (hn : 0 < n) : ∃ g, a = some ⟨g, 0, none⟩ := by
  rcases h.2 with ⟨h1, h2⟩ | ⟨g, _, _, h1, _⟩
  · omega
  · cases h1; exact ⟨g, rfl⟩

/-- The length of a slice. -/
def lenV : Value → Nat
  | .slice _ n _ => n
  | _ => 0

/-- A box that holds the statement of noughts. -/
def ZBox (b : Nat) (w : World) : Prop := w.heap[b]? = some (.cells #[.int .i64 0, .int .i64 0, .int .i64 0, .int .i64 0, .int .i64 0, .int .i64 0] 26 (0, 0))
theorem ZBox.new (w : World) : ZBox w.heap.size (w.alloc (.cells #[.int .i64 0, .int .i64 0, .int .i64 0, .int .i64 0, .int .i64 0, .int .i64 0] 26)) := heap_alloc_new w _
theorem ZBox.lt {b : Nat} {w : World} (h : ZBox b w) : b < w.heap.size := (Array.getElem?_eq_some_iff.1 h).1
theorem ZBox.below {b : Nat} {w w' : World} (h : ZBox b w) (hb : Below w.heap.size w w') : ZBox b w' := (hb.block b h.lt).trans h
theorem ZBox.alloc {b : Nat} {w : World} (h : ZBox b w) (o : Obj) : ZBox b (w.alloc o) := (Below.heap_alloc _ _ _ h.lt).trans h
theorem ZBox.drew {b : Nat} {w : World} (h : ZBox b w) : ZBox b w.drew := h
theorem ZBox.grown {b g : Nat} {w w' : World} (h : ZBox b w) (hg : w.grownBy w' (some g)) (hne : b ≠ g) : ZBox b w' := (hg.block b h.lt (fun e => hne (Option.some.inj e))).trans h
theorem ZBox.cells {b : Nat} {w : World} (h : ZBox b w) : (w.cell? ⟨b, 0, none⟩ = some (.int .i64 0) ∧ w.cell? ⟨b, 1, none⟩ = some (.int .i64 0) ∧ w.cell? ⟨b, 2, none⟩ = some (.int .i64 0) ∧ w.cell? ⟨b, 3, none⟩ = some (.int .i64 0) ∧ w.cell? ⟨b, 4, none⟩ = some (.int .i64 0) ∧ w.cell? ⟨b, 5, none⟩ = some (.int .i64 0)) ∧
    (w.frozen? ⟨b, 0, none⟩ = false ∧ w.frozen? ⟨b, 1, none⟩ = false ∧ w.frozen? ⟨b, 2, none⟩ = false ∧ w.frozen? ⟨b, 3, none⟩ = false ∧ w.frozen? ⟨b, 4, none⟩ = false ∧ w.frozen? ⟨b, 5, none⟩ = false) := by
  unfold ZBox at h
  refine ⟨⟨?_, ?_, ?_, ?_, ?_, ?_⟩, ?_, ?_, ?_, ?_, ?_, ?_⟩ <;> simp [World.cell?, World.frozen?, h]

set_option maxRecDepth 100000 in
set_option maxHeartbeats 8000000 in
theorem sParseStmt_any (l : Bs) (hs : l.length ≤ 1048576) (w : World) :
    Calls Tryd.prog 16 #[.string (bA l)] w fun e w' => IsPst l e ∧ Below w.heap.size w w' := by
  have HZ0 := Lib.hid (ZBox.new w)
  go_enter Tryd.func16, Tryd.ntmps16
  go_wp2_with fail
  refine (splitFields_any l hs _).mono ?_
  rintro e w1 ⟨⟨xs, a, c, ok, rfl, ⟨h24, hxs, hfl⟩, hown⟩, hb1⟩
  have hz1 := hb1.size
  simp at hz1
  have HZ1 := Lib.hid (HZ0.out.below hb1)
  have hbad : ¬ (ok = true ∧ 0 < xs.length ∧ xs.length ≤ 5) → ∀ s, stOk s = true → fmtS s ≠ l := fun h s hs e => by
    obtain ⟨h1, h2⟩ := hfl s hs e.symm
    have := args_len s
    exact h ⟨h1, by rw [h2]; simp, by rw [h2]; simp; omega⟩
  have HBAD := Lib.hid hbad
  have HFL := Lib.hid hfl
  clear hbad hfl
  cases ok
  · obtain ⟨⟨z0, z1, z2, z3, z4, z5⟩, f0, f1, f2, f3, f4, f5⟩ := HZ1.out.cells
    go_wp2_with fail
    exact bodyPost_ret (v := .tuple #[.agg #[.int .i64 0, .int .i64 0, .int .i64 0, .int .i64 0, .int .i64 0, .int .i64 0], .bool false]) (by simp [results, Tryd.results16, go_sem, z0, z1, z2, z3, z4, z5]) rfl ⟨⟨⟨0, 0, 0, 0, 0, 0⟩, false, rfl, .inr ⟨rfl, rfl, HBAD.out (fun h => by cases h.1)⟩⟩, (by (repeat (first | with_reducible exact Below.refl _ _ | (with_reducible refine bel_next ?_ ?_ (by assumption)) | (with_reducible refine Below.alloc ?_ ?_ _) | (with_reducible refine Below.drew ?_) | (with_reducible refine below_drewN ?_ _) | (with_reducible refine Below.setCell ?_ ?_ _))) <;> (first | omega | (simp; done) | (simp; omega)))⟩
  by_cases h0 : xs.length = 0
  · have t0 : ((xs.length : Int) == 0) = true := by rw [h0]; rfl
    obtain ⟨⟨z0, z1, z2, z3, z4, z5⟩, f0, f1, f2, f3, f4, f5⟩ := HZ1.out.cells
    go_wp2_with fail
    exact bodyPost_ret (v := .tuple #[.agg #[.int .i64 0, .int .i64 0, .int .i64 0, .int .i64 0, .int .i64 0, .int .i64 0], .bool false]) (by simp [results, Tryd.results16, go_sem, z0, z1, z2, z3, z4, z5]) rfl ⟨⟨⟨0, 0, 0, 0, 0, 0⟩, false, rfl, .inr ⟨rfl, rfl, HBAD.out (fun ⟨_, h1, h2⟩ => by omega)⟩⟩, (by (repeat (first | with_reducible exact Below.refl _ _ | (with_reducible refine bel_next ?_ ?_ (by assumption)) | (with_reducible refine Below.alloc ?_ ?_ _) | (with_reducible refine Below.drew ?_) | (with_reducible refine below_drewN ?_ _) | (with_reducible refine Below.setCell ?_ ?_ _))) <;> (first | omega | (simp; done) | (simp; omega)))⟩
  by_cases h5 : 5 < xs.length
  · have t0 : ((xs.length : Int) == 0) = false := beq_eq_false_iff_ne.2 (by omega)
    have t1 : decide (5 < (xs.length : Int)) = true := decide_eq_true (by omega)
    obtain ⟨⟨z0, z1, z2, z3, z4, z5⟩, f0, f1, f2, f3, f4, f5⟩ := HZ1.out.cells
    go_wp2_with fail
    exact bodyPost_ret (v := .tuple #[.agg #[.int .i64 0, .int .i64 0, .int .i64 0, .int .i64 0, .int .i64 0, .int .i64 0], .bool false]) (by simp [results, Tryd.results16, go_sem, z0, z1, z2, z3, z4, z5]) rfl ⟨⟨⟨0, 0, 0, 0, 0, 0⟩, false, rfl, .inr ⟨rfl, rfl, HBAD.out (fun ⟨_, h1, h2⟩ => by omega)⟩⟩, (by (repeat (first | with_reducible exact Below.refl _ _ | (with_reducible refine bel_next ?_ ?_ (by assumption)) | (with_reducible refine Below.alloc ?_ ?_ _) | (with_reducible refine Below.drew ?_) | (with_reducible refine below_drewN ?_ _) | (with_reducible refine Below.setCell ?_ ?_ _))) <;> (first | omega | (simp; done) | (simp; omega)))⟩
  obtain ⟨g, rfl⟩ := own_addr hown (by omega)
  have hrd := hown.rd
  have hg := hown.blk _ rfl
  simp at hg
  obtain ⟨y0, xr, rfl⟩ : ∃ y0 xr, xs = y0 :: xr := by
    cases xs with
    | nil => simp at h0
    | cons y r => exact ⟨y, r, rfl⟩
  have k1 : w1.cell? ⟨g, 0, none⟩ = some (.string (bA y0)) := by
    rcases hrd with h | ⟨b, o, h1, h2⟩
    · simp [strV] at h
    · cases h1; simpa [strV] using h2 0 (by simp)
  have HO := Lib.hid hown
  have HFL2 : Hid (∀ s, stOk s = true → fmtS s = l → y0 :: xr = wordB s.op :: argsF s) := Lib.hid (fun s hs e => (HFL.out s hs e.symm).2)
  clear hown hrd h0
  simp only [List.length_cons] at h24 h5
  have t0 : ((xr.length : Int) + 1 == 0) = false := by simp; omega
  have t1 : decide (5 < (xr.length : Int) + 1) = false := by simp; omega
  go_wp2_with fail
  go_loopw [4] (fun v wr => ∃ (g cap : Nat) (ys : List Bs), (xr.length + 1 ≤ ys.length ∧ ys.length ≤ 5) ∧ v = .slice (some ⟨g, 0, none⟩) ys.length cap ∧ (∃ r, ys = (y0 :: xr) ++ r) ∧ (∀ y ∈ ys, y.length ≤ 1048576) ∧ Own wr (w.heap.size + 1) 9 1 (some ⟨g, 0, none⟩) ys.length cap (strV ys) ∧ ZBox w.heap.size wr ∧ Below w.heap.size w wr) (fun v _ => 5 - lenV v)
  case atStart =>
    refine ⟨g, c, y0 :: xr, ⟨by simp, by simp; omega⟩, by simp, ⟨[], by simp⟩, hxs, ?_, HZ1.out, (by (repeat (first | with_reducible exact Below.refl _ _ | (with_reducible refine bel_next ?_ ?_ (by assumption)) | (with_reducible refine Below.alloc ?_ ?_ _) | (with_reducible refine Below.drew ?_) | (with_reducible refine below_drewN ?_ _) | (with_reducible refine Below.setCell ?_ ?_ _))) <;> (first | omega | (simp; done) | (simp; omega)))⟩
    have := HO.out
    simpa using this
  case round =>
    obtain ⟨g, cap, ys, ⟨hy1, hy5⟩, rfl, hpad, hysz, hown, hzb, hbw⟩ := hrel
    have hszs := hbw.size
    have hg2 := hown.blk _ rfl
    simp only at hg2
    by_cases hlt : ys.length < 5
    · have t2 : decide ((ys.length : Int) < 5) = true := decide_eq_true (by omega)
      have HO2 := Lib.hid hown
      have HZ2 := Lib.hid hzb
      have HP := Lib.hid hpad
      have HS := Lib.hid hysz
      clear hown hzb hpad hysz
      go_wp2_with (refine wpList_pushS _ rfl _ _ rfl (w.heap.size + 1) g _ cap ys [] wr.heap.size 1 (by rfl) (by rfl) (HO2.out.keep (fun a ha => (Kp.refl _ _).alloc _)) (by go_simp) (by omega) (by simp; omega) ?_; intro g' cap' w3 ho3 hb3 hg3 hgg)
      go_roundw
      case rel =>
        refine ⟨g', cap', ys ++ [[]], ⟨by simp; omega, by simp; omega⟩, by simp, ?_, ?_, by simpa using ho3, (HZ2.out.alloc _).grown hg3 (by omega), (hbw.alloc hszs _).trans (hb3.mono (by omega))⟩
        · obtain ⟨r, hr⟩ := HP.out
          exact ⟨r ++ [[]], by rw [hr]; simp⟩
        · intro y hy
          rcases List.mem_append.1 hy with h | h
          · exact HS.out y h
          · simp only [List.mem_singleton] at h; subst h; simp
      case measure => simp [lenV]; omega
    have h55 : ys.length = 5 := by omega
    obtain ⟨z0, y1, y2, y3, y4, rfl⟩ : ∃ a b c d e, ys = [a, b, c, d, e] := by
      match ys, h55 with
      | [a, b, c, d, e], _ => exact ⟨a, b, c, d, e, rfl⟩
    have hz0 : z0 = y0 := by obtain ⟨r, hr⟩ := hpad; simpa using congrArg List.head? hr
    subst hz0
    have HY : Hid (Fld5 l z0 y1 y2 y3 y4) := Lib.hid (fun s hs e => by
      obtain ⟨r, hr⟩ := hpad
      exact ⟨r, by rw [hr, HFL2.out s hs e]⟩)
    have hl1 : y1.length ≤ 1048576 := hysz y1 (by simp)
    have hl2 : y2.length ≤ 1048576 := hysz y2 (by simp)
    have hl3 : y3.length ≤ 1048576 := hysz y3 (by simp)
    have hl4 : y4.length ≤ 1048576 := hysz y4 (by simp)
    have HZ2 := Lib.hid hzb
    have k2_0 : wr.cell? ⟨g, 1, none⟩ = some (.string (bA y1)) := (by have h := hown.cells rfl 1 _ (show (strV [z0, y1, y2, y3, y4])[1]? = some (.string (bA y1)) from rfl); simpa [Addr.add] using h); have k2_1 : wr.cell? ⟨g, 2, none⟩ = some (.string (bA y2)) := (by have h := hown.cells rfl 2 _ (show (strV [z0, y1, y2, y3, y4])[2]? = some (.string (bA y2)) from rfl); simpa [Addr.add] using h); have k2_2 : wr.cell? ⟨g, 3, none⟩ = some (.string (bA y3)) := (by have h := hown.cells rfl 3 _ (show (strV [z0, y1, y2, y3, y4])[3]? = some (.string (bA y3)) from rfl); simpa [Addr.add] using h); have k2_3 : wr.cell? ⟨g, 4, none⟩ = some (.string (bA y4)) := (by have h := hown.cells rfl 4 _ (show (strV [z0, y1, y2, y3, y4])[4]? = some (.string (bA y4)) from rfl); simpa [Addr.add] using h)
    have hyl : [z0, y1, y2, y3, y4].length = 5 := rfl
    have HOP := Lib.hid hown.rd
    clear hown hzb hpad hysz hy1 hy5 h55
    go_wp2_with fail
    refine (l09Num_any y1 [114] hl1 _).mono ?_
    rintro e w3 ⟨rfl, hb3⟩
    have z3 := hb3.size; (try simp at z3); have y3_0 : g < w3.heap.size := (by omega); have k3_0 := bel_keeps hb3 (b := g) (o := 1) (v := .string (bA y1)) (by go_simp); have k3_1 := bel_keeps hb3 (b := g) (o := 2) (v := .string (bA y2)) (by go_simp); have k3_2 := bel_keeps hb3 (b := g) (o := 3) (v := .string (bA y3)) (by go_simp); have k3_3 := bel_keeps hb3 (b := g) (o := 4) (v := .string (bA y4)) (by go_simp)
    go_wp2_with fail
    refine (l09Num_any y2 [114] hl2 _).mono ?_
    rintro e w4 ⟨rfl, hb4⟩
    have z4 := hb4.size; (try simp at z4); have y4_0 : g < w4.heap.size := (by omega); have k4_0 := bel_keeps hb4 (b := g) (o := 1) (v := .string (bA y1)) (by go_simp); have k4_1 := bel_keeps hb4 (b := g) (o := 2) (v := .string (bA y2)) (by go_simp); have k4_2 := bel_keeps hb4 (b := g) (o := 3) (v := .string (bA y3)) (by go_simp); have k4_3 := bel_keeps hb4 (b := g) (o := 4) (v := .string (bA y4)) (by go_simp)
    go_wp2_with fail
    refine (l09Num_any y3 [114] hl3 _).mono ?_
    rintro e w5 ⟨rfl, hb5⟩
    have z5 := hb5.size; (try simp at z5); have y5_0 : g < w5.heap.size := (by omega); have k5_0 := bel_keeps hb5 (b := g) (o := 1) (v := .string (bA y1)) (by go_simp); have k5_1 := bel_keeps hb5 (b := g) (o := 2) (v := .string (bA y2)) (by go_simp); have k5_2 := bel_keeps hb5 (b := g) (o := 3) (v := .string (bA y3)) (by go_simp); have k5_3 := bel_keeps hb5 (b := g) (o := 4) (v := .string (bA y4)) (by go_simp)
    have HZ5 := Lib.hid (((HZ2.out.below hb3).below hb4).below hb5)
    have hbw5 : Below w.heap.size w w5 := (by (repeat (first | with_reducible exact Below.refl _ _ | (with_reducible refine bel_next ?_ ?_ (by assumption)) | (with_reducible refine Below.alloc ?_ ?_ _) | (with_reducible refine Below.drew ?_) | (with_reducible refine below_drewN ?_ _) | (with_reducible refine Below.setCell ?_ ?_ _))) <;> (first | omega | (simp; done) | (simp; omega)))
    have hz5w := hbw5.size
    have hge := hg2.1
    clear hb3 hb4 hb5
    go_upto_block 2 with fail
    go_cut [10] from 55 to 117 (fun v wx => ∃ (g6 c6 : Nat) (ss : List St), v = .slice (some ⟨g6, 0, none⟩) ss.length c6 ∧ ss.length ≤ 1 ∧ (∀ s, stOk s = true → fmtS s = l → ¬ (3 ≤ s.op ∧ s.op ≤ 9) → s ∈ ss) ∧ Own wx (w.heap.size + 1) 26 6 (some ⟨g6, 0, none⟩) ss.length c6 (stCells ss) ∧ Below w5.heap.size w5 wx)
    case first =>
      by_cases p1 : z0 = [99, 111, 110, 115, 116]
      case pos =>
        have HK := Lib.hid (show ∀ s, stOk s = true → fmtS s = l → ¬ (3 ≤ s.op ∧ s.op ≤ 9) → s ∈ [(⟨1, numF [114] y1, 0, 0, 0, numF [] y2⟩ : St)] from fun s hs e _ => by rw [HY.out.k1 hs e p1]; simp)
        subst p1
        go_wp2_with fail
        refine (l09Num_any y2 [] hl2 _).mono ?_
        rintro e w6 ⟨rfl, hb6⟩
        have z6 := hb6.size; (try simp at z6)
        go_wp2_with (refine wpList_pushSt _ rfl _ _ rfl (w.heap.size + 1) w5.heap.size 0 0 [] ⟨1, numF [114] y1, 0, 0, 0, numF [] y2⟩ _ 1 (by rfl) (by rfl) (((own_new w5 26 6).lo (by omega)).keep (fun a ha => ((Kp.refl _ _).below hb6).alloc _)) (rd_st w6 ⟨1, numF [114] y1, 0, 0, 0, numF [] y2⟩ 26 (by first | rfl | (simp; done))) (by omega) (by first | omega | (simp; omega)) ?_; intro g7 c7 w7 ho7 hb7 hg7 hgg)
        go_meet
        exact ⟨g7, c7, [⟨1, numF [114] y1, 0, 0, 0, numF [] y2⟩], rfl, by simp, HK.out, ho7, Below.grown (by (repeat (first | with_reducible exact Below.refl _ _ | (with_reducible refine bel_next ?_ ?_ (by assumption)) | (with_reducible refine Below.alloc ?_ ?_ _) | (with_reducible refine Below.drew ?_) | (with_reducible refine below_drewN ?_ _) | (with_reducible refine Below.setCell ?_ ?_ _))) <;> (first | omega | (simp; done) | (simp; omega))) hg7 (by first | omega | (simp; omega)) (fun k hk => by simp only [Option.some.injEq] at hk; omega)⟩
      have q1 : (z0 == [99, 111, 110, 115, 116]) = false := beq_eq_false_iff_ne.2 p1
      by_cases p2 : z0 = [105, 110, 112, 117, 116]
      case pos =>
        have HK := Lib.hid (show ∀ s, stOk s = true → fmtS s = l → ¬ (3 ≤ s.op ∧ s.op ≤ 9) → s ∈ [(⟨2, numF [114] y1, numF [112] y2, 0, 0, numF [] y3⟩ : St)] from fun s hs e _ => by rw [HY.out.k2 hs e p2]; simp)
        subst p2
        go_wp2_with fail
        clear HZ2 HZ5 HZ0 HZ1 HO HFL2 HFL HBAD HOP
        go_region_held3 (fun w' => w'.cell? ⟨g, 2, none⟩ = some (.string (bA y2)) ∧ w'.cell? ⟨g, 3, none⟩ = some (.string (bA y3))) (first | go_keep)
          (first | (have q := hb62; clear q; refine step_pushSt _ rfl (.tmp 69) (.tmp 80) rfl (w.heap.size + 1) w5.heap.size 0 0 [] ⟨2, numF [114] y1, numF [112] y2, 0, 0, numF [] y3⟩ _ 1 (by rfl) (by rfl) (((own_new w5 26 6).lo (by omega)).keep (fun a ha => (by (repeat (first | with_reducible exact Kp.refl _ _ | (with_reducible refine Kp.below ?_ (by assumption)) | (with_reducible refine Kp.rng ?_ (by assumption) ?_) | (with_reducible refine Kp.alloc ?_ _) | (with_reducible refine Kp.drew ?_) | (with_reducible refine Kp.drewN ?_ _) | (with_reducible refine Kp.setCell ?_ _ ?_))) <;> (first | omega | (simp; done) | (simp; omega))))) (rd_st w62 ⟨2, numF [114] y1, numF [112] y2, 0, 0, numF [] y3⟩ 26 (by first | rfl | (simp; done))) (by omega) (by first | omega | (simp; omega)) ?_; intro g7 c7 w7 ho7 hb7 hg7 hgg; have k7_2 := grown_cell hg7 (b := g) (o := 2) (x := .string (bA y2)) (by omega) (by go_simp); have k7_3 := grown_cell hg7 (b := g) (o := 3) (x := .string (bA y3)) (by omega) (by go_simp)) | (have q := hb61; clear q; go_at_call 39; refine (l09Num_any y3 [] hl3 _).mono ?_; rintro e w62 ⟨rfl, hb62⟩; have z62 := hb62.size; (try simp at z62); have yg62 : g < w62.heap.size := (by omega); have k62_2 := bel_keeps hb62 (b := g) (o := 2) (v := .string (bA y2)) (by go_simp); have k62_3 := bel_keeps hb62 (b := g) (o := 3) (v := .string (bA y3)) (by go_simp)) | (go_at_call 39; refine (l09Num_any y2 [112] hl2 _).mono ?_; rintro e w61 ⟨rfl, hb61⟩; have z61 := hb61.size; (try simp at z61); have yg61 : g < w61.heap.size := (by omega); have k61_2 := bel_keeps hb61 (b := g) (o := 2) (v := .string (bA y2)) (by go_simp); have k61_3 := bel_keeps hb61 (b := g) (o := 3) (v := .string (bA y3)) (by go_simp)))
        all_goals go_wp2_with fail
        all_goals go_meet
        all_goals exact ⟨g7, c7, [⟨2, numF [114] y1, numF [112] y2, 0, 0, numF [] y3⟩], rfl, by simp, HK.out, ho7, Below.grown (by (repeat (first | with_reducible exact Below.refl _ _ | (with_reducible refine bel_next ?_ ?_ (by assumption)) | (with_reducible refine Below.alloc ?_ ?_ _) | (with_reducible refine Below.drew ?_) | (with_reducible refine below_drewN ?_ _) | (with_reducible refine Below.setCell ?_ ?_ _))) <;> (first | omega | (simp; done) | (simp; omega))) hg7 (by first | omega | (simp; omega)) (fun k hk => by simp only [Option.some.injEq] at hk; omega)⟩
      have q2 : (z0 == [105, 110, 112, 117, 116]) = false := beq_eq_false_iff_ne.2 p2
      by_cases p10 : z0 = [109, 117, 120]
      case pos =>
        have HK := Lib.hid (show ∀ s, stOk s = true → fmtS s = l → ¬ (3 ≤ s.op ∧ s.op ≤ 9) → s ∈ [(⟨10, numF [114] y1, numF [114] y2, numF [114] y3, numF [114] y4, 0⟩ : St)] from fun s hs e _ => by rw [HY.out.k10 hs e p10]; simp)
        subst p10
        go_wp2_with fail
        refine (l09Num_any y4 [114] hl4 _).mono ?_
        rintro e w6 ⟨rfl, hb6⟩
        have z6 := hb6.size; (try simp at z6)
        go_wp2_with (refine wpList_pushSt _ rfl _ _ rfl (w.heap.size + 1) w5.heap.size 0 0 [] ⟨10, numF [114] y1, numF [114] y2, numF [114] y3, numF [114] y4, 0⟩ _ 1 (by rfl) (by rfl) (((own_new w5 26 6).lo (by omega)).keep (fun a ha => ((Kp.refl _ _).below hb6).alloc _)) (rd_st w6 ⟨10, numF [114] y1, numF [114] y2, numF [114] y3, numF [114] y4, 0⟩ 26 (by first | rfl | (simp; done))) (by omega) (by first | omega | (simp; omega)) ?_; intro g7 c7 w7 ho7 hb7 hg7 hgg)
        go_meet
        exact ⟨g7, c7, [⟨10, numF [114] y1, numF [114] y2, numF [114] y3, numF [114] y4, 0⟩], rfl, by simp, HK.out, ho7, Below.grown (by (repeat (first | with_reducible exact Below.refl _ _ | (with_reducible refine bel_next ?_ ?_ (by assumption)) | (with_reducible refine Below.alloc ?_ ?_ _) | (with_reducible refine Below.drew ?_) | (with_reducible refine below_drewN ?_ _) | (with_reducible refine Below.setCell ?_ ?_ _))) <;> (first | omega | (simp; done) | (simp; omega))) hg7 (by first | omega | (simp; omega)) (fun k hk => by simp only [Option.some.injEq] at hk; omega)⟩
      have q10 : (z0 == [109, 117, 120]) = false := beq_eq_false_iff_ne.2 p10
      by_cases p11 : z0 = [111, 117, 116]
      case pos =>
        have HK := Lib.hid (show ∀ s, stOk s = true → fmtS s = l → ¬ (3 ≤ s.op ∧ s.op ≤ 9) → s ∈ [(⟨11, 0, numF [114] y1, 0, 0, 0⟩ : St)] from fun s hs e _ => by rw [HY.out.k11 hs e p11]; simp)
        subst p11
        go_wp2_with (refine wpList_pushSt _ rfl _ _ rfl (w.heap.size + 1) w5.heap.size 0 0 [] ⟨11, 0, numF [114] y1, 0, 0, 0⟩ _ 1 (by rfl) (by rfl) (((own_new w5 26 6).lo (by omega)).keep (fun a ha => (Kp.refl _ _).alloc _)) (rd_st (w5.alloc (.cells #[] 26)) ⟨11, 0, numF [114] y1, 0, 0, 0⟩ 26 (by first | rfl | (simp; done))) (by omega) (by first | omega | (simp; omega)) ?_; intro g7 c7 w7 ho7 hb7 hg7 hgg)
        go_meet
        exact ⟨g7, c7, [⟨11, 0, numF [114] y1, 0, 0, 0⟩], rfl, by simp, HK.out, ho7, Below.grown (by (repeat (first | with_reducible exact Below.refl _ _ | (with_reducible refine bel_next ?_ ?_ (by assumption)) | (with_reducible refine Below.alloc ?_ ?_ _) | (with_reducible refine Below.drew ?_) | (with_reducible refine below_drewN ?_ _) | (with_reducible refine Below.setCell ?_ ?_ _))) <;> (first | omega | (simp; done) | (simp; omega))) hg7 (by first | omega | (simp; omega)) (fun k hk => by simp only [Option.some.injEq] at hk; omega)⟩
      have q11 : (z0 == [111, 117, 116]) = false := beq_eq_false_iff_ne.2 p11
      by_cases p12 : z0 = [108, 111, 111, 112]
      case pos =>
        have HK := Lib.hid (show ∀ s, stOk s = true → fmtS s = l → ¬ (3 ≤ s.op ∧ s.op ≤ 9) → s ∈ [(⟨12, 0, 0, 0, 0, numF [] y1⟩ : St)] from fun s hs e _ => by rw [HY.out.k12 hs e p12]; simp)
        subst p12
        go_wp2_with fail
        refine (l09Num_any y1 [] hl1 _).mono ?_
        rintro e w6 ⟨rfl, hb6⟩
        have z6 := hb6.size; (try simp at z6)
        go_wp2_with (refine wpList_pushSt _ rfl _ _ rfl (w.heap.size + 1) w5.heap.size 0 0 [] ⟨12, 0, 0, 0, 0, numF [] y1⟩ _ 1 (by rfl) (by rfl) (((own_new w5 26 6).lo (by omega)).keep (fun a ha => ((Kp.refl _ _).below hb6).alloc _)) (rd_st w6 ⟨12, 0, 0, 0, 0, numF [] y1⟩ 26 (by first | rfl | (simp; done))) (by omega) (by first | omega | (simp; omega)) ?_; intro g7 c7 w7 ho7 hb7 hg7 hgg)
        go_meet
        exact ⟨g7, c7, [⟨12, 0, 0, 0, 0, numF [] y1⟩], rfl, by simp, HK.out, ho7, Below.grown (by (repeat (first | with_reducible exact Below.refl _ _ | (with_reducible refine bel_next ?_ ?_ (by assumption)) | (with_reducible refine Below.alloc ?_ ?_ _) | (with_reducible refine Below.drew ?_) | (with_reducible refine below_drewN ?_ _) | (with_reducible refine Below.setCell ?_ ?_ _))) <;> (first | omega | (simp; done) | (simp; omega))) hg7 (by first | omega | (simp; omega)) (fun k hk => by simp only [Option.some.injEq] at hk; omega)⟩
      have q12 : (z0 == [108, 111, 111, 112]) = false := beq_eq_false_iff_ne.2 p12
      by_cases p13 : z0 = [101, 110, 100]
      case pos =>
        have HK := Lib.hid (show ∀ s, stOk s = true → fmtS s = l → ¬ (3 ≤ s.op ∧ s.op ≤ 9) → s ∈ [(⟨13, 0, 0, 0, 0, 0⟩ : St)] from fun s hs e _ => by rw [HY.out.k13 hs e p13]; simp)
        subst p13
        go_wp2_with (refine wpList_pushSt _ rfl _ _ rfl (w.heap.size + 1) w5.heap.size 0 0 [] ⟨13, 0, 0, 0, 0, 0⟩ _ 1 (by rfl) (by rfl) (((own_new w5 26 6).lo (by omega)).keep (fun a ha => (Kp.refl _ _).alloc _)) (rd_st (w5.alloc (.cells #[] 26)) ⟨13, 0, 0, 0, 0, 0⟩ 26 (by first | rfl | (simp; done))) (by omega) (by first | omega | (simp; omega)) ?_; intro g7 c7 w7 ho7 hb7 hg7 hgg)
        go_meet
        exact ⟨g7, c7, [⟨13, 0, 0, 0, 0, 0⟩], rfl, by simp, HK.out, ho7, Below.grown (by (repeat (first | with_reducible exact Below.refl _ _ | (with_reducible refine bel_next ?_ ?_ (by assumption)) | (with_reducible refine Below.alloc ?_ ?_ _) | (with_reducible refine Below.drew ?_) | (with_reducible refine below_drewN ?_ _) | (with_reducible refine Below.setCell ?_ ?_ _))) <;> (first | omega | (simp; done) | (simp; omega))) hg7 (by first | omega | (simp; omega)) (fun k hk => by simp only [Option.some.injEq] at hk; omega)⟩
      have q13 : (z0 == [101, 110, 100]) = false := beq_eq_false_iff_ne.2 p13
      have HK := Lib.hid (show ∀ s, stOk s = true → fmtS s = l → ¬ (3 ≤ s.op ∧ s.op ≤ 9) → s ∈ ([] : List St) from fun s hs e hn => absurd (HY.out.none p1 p2 p10 p11 p12 p13 hs e) hn)
      clear p1 p2 p10 p11 p12 p13
      go_wp2_with fail
      go_meet
      exact ⟨w5.heap.size, 0, [], rfl, by simp, HK.out, (own_new w5 26 6).lo (by omega), (Below.refl _ _).alloc (Nat.le_refl _) _⟩
    case rest =>
      obtain ⟨g6, c6, ss, rfl, hss1, hkey, hown, hbwx⟩ := hcut
      have HZC := Lib.hid (show ZBox w.heap.size wc from (hbwx.block _ HZ5.out.lt).trans HZ5.out)
      have hbwc : Below w.heap.size w wc := hbw5.trans (hbwx.mono hz5w)
      have HKEY := Lib.hid hkey
      have HOC := Lib.hid hown
      have hzc := hbwc.size
      have hl5 : w.heap.size + 1 ≤ wc.heap.size := by have := HZC.out.lt; omega
      clear hkey hown hbwx HZ5 HZ2 HZ0 HZ1 HO HFL2 HFL HBAD HOP hbw5 k2_0 k2_1 k2_2 k2_3 k3_0 k3_1 k3_2 k3_3 k4_0 k4_1 k4_2 k4_3 k5_0 k5_1 k5_2 k5_3
      generalize hv1 : numF [114] y1 = v1
      generalize hv2 : numF [114] y2 = v2
      generalize hv3 : numF [114] y3 = v3
      have HK39 : Hid (∀ (k : Int), 3 ≤ k → k ≤ 9 → z0 = wordB k → ∀ s, stOk s = true → fmtS s = l → s = ⟨k, v1, v2, v3, 0, 0⟩) := Lib.hid (fun k h3 h9 hz s hs e => by rw [← hv1, ← hv2, ← hv3]; exact HY.out.k39 hs e h3 h9 hz)
      have HWD : Hid (∀ s, stOk s = true → fmtS s = l → z0 = wordB s.op) := Lib.hid (fun s hs e => HY.out.word hs e)
      clear hv1 hv2 hv3 HY
      go_wp2_with fail
      go_loopw [10, 11] (fun v i wr => ∃ (k g6 c6 : Nat) (ss : List St), 3 ≤ k ∧ k ≤ 10 ∧ i = .int .i64 (k : Int) ∧ v = .slice (some ⟨g6, 0, none⟩) ss.length c6 ∧ ss.length ≤ k ∧ (∀ s, stOk s = true → fmtS s = l → (¬ (3 ≤ s.op ∧ s.op ≤ 9) ∨ s.op < k) → s ∈ ss) ∧ Own wr (w.heap.size + 1) 26 6 (some ⟨g6, 0, none⟩) ss.length c6 (stCells ss) ∧ ZBox w.heap.size wr ∧ Below w.heap.size w wr) (fun _ i _ => 10 - (intOf i).toNat)
      case atStart =>
        exact ⟨3, g6, c6, ss, by omega, by omega, rfl, rfl, by omega, fun s hs e h => by
          rcases h with h | h
          · exact HKEY.out s hs e h
          · exact HKEY.out s hs e (by omega), HOC.out, HZC.out, hbwc⟩
      case round =>
        clear HOC HKEY HZC hss1 hbwc
        obtain ⟨k, g6, c6, ss, hk3, hk10, rfl, rfl, hssk, hkey, hown, hzb, hbw7⟩ := hrel
        have HKEY := Lib.hid hkey
        have HO6 := Lib.hid hown
        have HZB := Lib.hid hzb
        have hz7 := hbw7.size
        have hl6 : w.heap.size + 1 ≤ wr.heap.size := by have := hzb.lt; omega
        clear hkey hown hzb
        by_cases hk9 : k ≤ 9
        · go_wp2_with fail
          refine (l09Word_any k (by omega) (by omega) _).mono ?_
          rintro e w8 ⟨rfl, hb8⟩
          have hz8 := hb8.size
          have HO8 := Lib.hid (HO6.out.keep (w' := w8) (fun a ha => (Kp.refl _ _).below hb8))
          have HZ8 := Lib.hid (HZB.out.below hb8)
          have hbw8 : Below w.heap.size w w8 := hbw7.trans (hb8.mono hz7)
          obtain ⟨wd, hwd⟩ : ∃ wd, wd = wordB (k : Int) := ⟨_, rfl⟩
          rw [← hwd]
          have HW := Lib.hid hwd
          clear hwd
          by_cases pz : z0 = wd
          · have t8 : (z0 == wd) = true := beq_iff_eq.2 pz
            have HK2 := Lib.hid (show ∀ s, stOk s = true → fmtS s = l → (¬ (3 ≤ s.op ∧ s.op ≤ 9) ∨ s.op < ((k + 1 : Nat) : Int)) → s ∈ ss ++ [(⟨(k : Int), v1, v2, v3, 0, 0⟩ : St)] from fun s hs e h => by
              by_cases hop : s.op = k
              · rw [HK39.out k (by omega) (by omega) (pz.trans HW.out) s hs e]; simp
              · exact List.mem_append_left _ (HKEY.out s hs e (by rcases h with h | h; exact .inl h; exact .inr (by omega))))
            clear pz
            go_wp2_with (refine wpList_pushSt _ rfl _ _ rfl (w.heap.size + 1) g6 _ c6 ss ⟨(k : Int), v1, v2, v3, 0, 0⟩ _ 1 (by rfl) (by rfl) (HO8.out.keep (fun a ha => (Kp.refl _ _).alloc _)) (rd_st w8 ⟨(k : Int), v1, v2, v3, 0, 0⟩ 26 (by first | rfl | (simp; done))) (by omega) (by first | omega | (simp; omega)) ?_; intro g9 c9 w9 ho9 hb9 hg9 hgg)
            have hge6 := HO8.out.blk _ rfl
            simp only at hge6
            go_roundw
            case rel =>
              exact ⟨k + 1, g9, c9, ss ++ [⟨(k : Int), v1, v2, v3, 0, 0⟩], by omega, by omega, by go_num, by simp, by simp; omega, HK2.out, by simpa using ho9, (HZ8.out.alloc _).grown hg9 (by omega), (hbw8.alloc (by omega) _).trans (hb9.mono (by omega))⟩
            case measure => first | (simp [intOf]; done) | (simp [intOf]; omega)
          · have t8 : (z0 == wd) = false := beq_eq_false_iff_ne.2 pz
            have HK2 := Lib.hid (show ∀ s, stOk s = true → fmtS s = l → (¬ (3 ≤ s.op ∧ s.op ≤ 9) ∨ s.op < ((k + 1 : Nat) : Int)) → s ∈ ss from fun s hs e h => by
              by_cases hop : s.op = k
              · exact absurd (by rw [HWD.out s hs e, hop, HW.out]) pz
              · exact HKEY.out s hs e (by rcases h with h | h; exact .inl h; exact .inr (by omega)))
            clear pz
            go_wp2_with fail
            go_roundw
            case rel => exact ⟨k + 1, g6, c6, ss, by omega, by omega, by go_num, rfl, by omega, HK2.out, HO8.out, HZ8.out, hbw8⟩
            case measure => first | (simp [intOf]; done) | (simp [intOf]; omega)
        have t7 : decide ((k : Int) ≤ 9) = false := by simp; omega
        have HALL := Lib.hid (show ∀ s, stOk s = true → fmtS s = l → s ∈ ss from fun s hs e => HKEY.out s hs e (by by_cases h : 3 ≤ s.op ∧ s.op ≤ 9; exact .inr (by omega); exact .inl h))
        have HRD := Lib.hid HO6.out.rd
        clear HKEY HO6 HK39 HWD
        obtain ⟨wq, hwq⟩ : ∃ wq, wq = wr := ⟨_, rfl⟩
        subst hwq
        go_wp2_with fail
        clear t7
        go_loopw [12] (fun i wr => ∃ (k : Nat), k ≤ ss.length ∧ i = .int .i64 k ∧ (∀ (j : Nat) s, j < k → ss[j]? = some s → stOk s = true → fmtS s ≠ l) ∧ Below wq.heap.size wq wr) (fun i _ => ss.length - (intOf i).toNat)
        case atStart => exact ⟨0, Nat.zero_le _, rfl, fun j s h => by omega, Below.refl _ _⟩
        case round =>
          obtain ⟨k, hk, rfl, hno, hbx⟩ := hrel
          have HNO2 := Lib.hid hno
          have hzx := hbx.size
          have HZX := Lib.hid (show ZBox w.heap.size wr from (hbx.block _ HZB.out.lt).trans HZB.out)
          clear hno
          by_cases hlt : k < ss.length
          · obtain ⟨b, off, op, dst, sa, sb, sc, sn, hadr, hbl, hx, c0, c1, c2, c3, c4, c5⟩ := (HRD.out.below hbx).st k hlt
            simp only [Option.some.injEq, Addr.mk.injEq, and_true] at hadr
            obtain ⟨rfl, rfl⟩ := hadr
            simp only [Nat.zero_add] at c0 c1 c2 c3 c4 c5
            have HX := Lib.hid hx
            clear hx
            have HFA := Lib.hid (sFormatStmt_any ⟨op, dst, sa, sb, sc, sn⟩)
            cases hok : stOk ⟨op, dst, sa, sb, sc, sn⟩ with
            | false =>
              have HOK := Lib.hid hok
              rw [hok] at HFA
              generalize fmtO ⟨op, dst, sa, sb, sc, sn⟩ = t at HFA
              clear hok
              go_wp2_with fail
              refine (HFA.out _).mono ?_
              rintro e w9 ⟨rfl, hb9⟩
              go_wp2_with fail
              go_roundw
              case rel =>
                refine ⟨k + 1, by omega, by go_num, fun j s hj hs hok2 => ?_, hbx.trans (hb9.mono hzx)⟩
                by_cases hjk : j = k
                · subst hjk
                  have := HX.out.symm.trans hs
                  cases this
                  rw [HOK.out] at hok2; cases hok2
                · exact HNO2.out j s (by omega) hs hok2
              case measure => first | (simp [intOf]; done) | (simp [intOf]; omega)
            | true =>
              have HOK := Lib.hid hok
              rw [hok, fmtO_ok hok] at HFA
              by_cases hf : fmtS ⟨op, dst, sa, sb, sc, sn⟩ = l
              · have HF := Lib.hid hf
                rw [hf] at HFA
                clear hok hf
                go_wp2_with fail
                refine (HFA.out _).mono ?_
                rintro e w9 ⟨rfl, hb9⟩
                have hz9 := hb9.size
                obtain ⟨⟨z0, z1, z2, z3, z4, z5⟩, f0, f1, f2, f3, f4, f5⟩ := (HZX.out.below hb9).cells
                have z9 := hb9.size; (try simp at z9); have y9_0 : g6 < w9.heap.size := (by omega); have k9_0 := bel_keeps hb9 (b := g6) (o := k * 6) (v := .int .i64 op) (by go_simp); have k9_1 := bel_keeps hb9 (b := g6) (o := k * 6 + 1) (v := .int .i64 dst) (by go_simp); have k9_2 := bel_keeps hb9 (b := g6) (o := k * 6 + 2) (v := .int .i64 sa) (by go_simp); have k9_3 := bel_keeps hb9 (b := g6) (o := k * 6 + 3) (v := .int .i64 sb) (by go_simp); have k9_4 := bel_keeps hb9 (b := g6) (o := k * 6 + 4) (v := .int .i64 sc) (by go_simp); have k9_5 := bel_keeps hb9 (b := g6) (o := k * 6 + 5) (v := .int .i64 sn) (by go_simp)
                have hbw9 : Below w.heap.size w w9 := (hbw7.trans (hbx.mono hz7)).trans (hb9.mono (by omega))
                go_wp2_with fail
                exact bodyPost_ret (v := .tuple #[.agg #[.int .i64 op, .int .i64 dst, .int .i64 sa, .int .i64 sb, .int .i64 sc, .int .i64 sn], .bool true]) (by simp [results, Tryd.results16, go_sem, z0, z1, z2, z3, z4, z5]) rfl ⟨⟨⟨op, dst, sa, sb, sc, sn⟩, true, rfl, .inl ⟨rfl, HOK.out, HF.out⟩⟩, (by (repeat (first | with_reducible exact Below.refl _ _ | (with_reducible refine bel_next ?_ ?_ (by assumption)) | (with_reducible refine Below.alloc ?_ ?_ _) | (with_reducible refine Below.drew ?_) | (with_reducible refine below_drewN ?_ _) | (with_reducible refine Below.setCell ?_ ?_ _))) <;> (first | omega | (simp; done) | (simp; omega)))⟩
              · have HF := Lib.hid hf
                have t9 : (fmtS ⟨op, dst, sa, sb, sc, sn⟩ == l) = false := beq_eq_false_iff_ne.2 hf
                generalize fmtS ⟨op, dst, sa, sb, sc, sn⟩ = t at HFA t9
                clear hok hf
                go_wp2_with fail
                refine (HFA.out _).mono ?_
                rintro e w9 ⟨rfl, hb9⟩
                go_wp2_with fail
                go_roundw
                case rel =>
                  refine ⟨k + 1, by omega, by go_num, fun j s hj hs hok2 => ?_, hbx.trans (hb9.mono hzx)⟩
                  by_cases hjk : j = k
                  · subst hjk
                    have := HX.out.symm.trans hs
                    cases this
                    exact HF.out
                  · exact HNO2.out j s (by omega) hs hok2
                case measure => first | (simp [intOf]; done) | (simp [intOf]; omega)
          · have HEND := Lib.hid (show ∀ s, stOk s = true → fmtS s ≠ l from fun s hs e => by
              obtain ⟨j, hj⟩ := List.getElem?_of_mem (HALL.out s hs e)
              have hjl := (List.getElem?_eq_some_iff.1 hj).1
              exact HNO2.out j s (by omega) hj hs e)
            obtain ⟨⟨z0, z1, z2, z3, z4, z5⟩, f0, f1, f2, f3, f4, f5⟩ := HZX.out.cells
            have hbwx : Below w.heap.size w wr := hbw7.trans (hbx.mono hz7)
            go_wp2_with fail
            exact bodyPost_ret (v := .tuple #[.agg #[.int .i64 0, .int .i64 0, .int .i64 0, .int .i64 0, .int .i64 0, .int .i64 0], .bool false]) (by simp [results, Tryd.results16, go_sem, z0, z1, z2, z3, z4, z5]) rfl ⟨⟨⟨0, 0, 0, 0, 0, 0⟩, false, rfl, .inr ⟨rfl, rfl, HEND.out⟩⟩, (by (repeat (first | with_reducible exact Below.refl _ _ | (with_reducible refine bel_next ?_ ?_ (by assumption)) | (with_reducible refine Below.alloc ?_ ?_ _) | (with_reducible refine Below.drew ?_) | (with_reducible refine below_drewN ?_ _) | (with_reducible refine Below.setCell ?_ ?_ _))) <;> (first | omega | (simp; done) | (simp; omega)))⟩
end Go.Proofs.YtigefmobejclaaaDoor
