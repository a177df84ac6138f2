/- Programs as lists of statements, plain: no program text in sight. -/
import Derived.Test.YtigefmobejclaaaDoorHeap
namespace Go.Proofs.YtigefmobejclaaaDoor
open Go.RowKit

/-- A statement. -/
structure St where
  op : Int
  dst : Int
  a : Int
  b : Int
  c : Int
  n : Int

def St.cells (s : St) : List Value := [.int .i64 s.op, .int .i64 s.dst, .int .i64 s.a, .int .i64 s.b, .int .i64 s.c, .int .i64 s.n]
def stCells (ss : List St) : List Value := ss.flatMap St.cells

def stOk (s : St) : Bool :=
  if s.op = 1 then (s.a == 0 && s.b == 0 && s.c == 0) && (inB s.dst 0 7 && inB s.n 0 15)
  else if s.op = 2 then (s.b == 0 && s.c == 0) && (inB s.dst 0 7 && inB s.a 0 4 && inB s.n 0 3)
  else if inB s.op 3 9 then (s.c == 0 && s.n == 0) && (inB s.dst 0 7 && inB s.a 0 7 && inB s.b 0 7)
  else if s.op = 10 then (s.n == 0) && (inB s.dst 0 7 && inB s.a 0 7 && inB s.b 0 7 && inB s.c 0 7)
  else if s.op = 11 then (s.dst == 0 && s.b == 0 && s.c == 0 && s.n == 0) && inB s.a 0 7
  else if s.op = 12 then (s.dst == 0 && s.a == 0 && s.b == 0 && s.c == 0) && inB s.n 1 8
  else (s.op == 13) && (s.dst == 0 && s.a == 0 && s.b == 0 && s.c == 0 && s.n == 0)

/-- The depth behind a statement. -/
def stepD (d : Int) (s : St) : Int := if s.op = 12 then d + 1 else if s.op = 13 then d - 1 else d
/-- The depth behind a list, where every statement is valid and every depth is from 0 to 3. -/
def depF : Int → List St → Option Int
  | d, [] => some d
  | d, s :: r => if stOk s && inB (stepD d s) 0 3 then depF (stepD d s) r else none
def progOk (xs : List St) : Bool := decide (xs.length ≤ 40) && decide (depF 0 xs = some 0)
def dp (d : Int) (xs : List St) : Int := xs.foldl stepD d

theorem depF_append (xs ys : List St) (d : Int) : depF d (xs ++ ys) = (depF d xs).bind fun e => depF e ys := by
  induction xs generalizing d with
  | nil => rfl
  | cons s r ih =>
    simp only [List.cons_append, depF]
    split
    · exact ih _
    · rfl

theorem depF_dp {xs : List St} {d e : Int} (h : depF d xs = some e) : dp d xs = e := by
  induction xs generalizing d with
  | nil => simpa [depF, dp] using h
  | cons s r ih =>
    simp only [depF] at h
    split at h
    · exact ih h
    · cases h

def repS (n : Int) (v : List St) : List St := (List.replicate n.toNat v).flatten
theorem repS_zero (v : List St) : repS 0 v = [] := rfl
theorem repS_succ (n : Nat) (v : List St) : repS ((n : Int) + 1) v = repS n v ++ v := by
  unfold repS
  have : ((n : Int) + 1).toNat = n + 1 := by omega
  rw [this, List.replicate_succ', List.flatten_append]; simp
theorem repS_length (n : Int) (v : List St) : (repS n v).length = n.toNat * v.length := by
  unfold repS; rw [List.length_flatten]; simp

/-- A valid block with at most so many loops inside one another, and its statements without loops. -/
inductive Ur : Nat → List St → List St → Prop
  | nil (b : Nat) : Ur b [] []
  | plain (b : Nat) (s : St) (r u : List St) : stOk s = true → s.op ≠ 12 → s.op ≠ 13 → Ur b r u → Ur b (s :: r) (s :: u)
  | loop (b : Nat) (l e : St) (body r v u : List St) : stOk l = true → stOk e = true → l.op = 12 → e.op = 13 → Ur b body v → Ur (b + 1) r u →
      Ur (b + 1) (l :: (body ++ e :: r)) (repS l.n v ++ u)

theorem stOk_loop {s : St} (h : stOk s = true) (ho : s.op = 12) : 1 ≤ s.n ∧ s.n ≤ 8 := by
  simp only [stOk, ho] at h
  simp at h
  have := inB_iff.1 h.2
  exact this

/-- A valid block leaves the depth as it was. -/
theorem ur_depF {b : Nat} {xs us : List St} (h : Ur b xs us) : ∀ (d : Int), 0 ≤ d → d + b ≤ 3 → depF d xs = some d := by
  induction h with
  | nil b => intro d _ _; rfl
  | plain b s r u h1 h2 h3 h4 ih =>
    intro d hd hb
    have hs : stepD d s = d := by simp [stepD, h2, h3]
    simp only [depF, hs, h1]
    rw [if_pos (by simp [inB_iff]; omega)]
    exact ih d hd hb
  | loop b l e body r v u h1 h2 h3 h4 h5 h6 ih1 ih2 =>
    intro d hd hb
    have hs : stepD d l = d + 1 := by simp [stepD, h3]
    have he : stepD (d + 1) e = d := by simp [stepD, h4]
    simp only [depF, hs, h1]
    rw [if_pos (by simp [inB_iff]; omega), depF_append, ih1 (d + 1) (by omega) (by omega)]
    simp only [Option.bind_some, depF, he, h2]
    rw [if_pos (by simp [inB_iff]; omega)]
    exact ih2 d hd hb

theorem ur_progOk {xs us : List St} (h : Ur 3 xs us) (hl : xs.length ≤ 40) : progOk xs = true := by
  simp [progOk, hl, ur_depF h 0 (by omega) (by omega)]

theorem ur_mono {b b' : Nat} {xs us : List St} (h : Ur b xs us) (hb : b ≤ b') : Ur b' xs us := by
  induction h generalizing b' with
  | nil b => exact .nil _
  | plain b s r u h1 h2 h3 h4 ih => exact .plain _ s r u h1 h2 h3 (ih hb)
  | loop b l e body r v u h1 h2 h3 h4 h5 h6 ih1 ih2 =>
    obtain ⟨c, rfl⟩ : ∃ c, b' = c + 1 := ⟨b' - 1, by omega⟩
    exact .loop c l e body r v u h1 h2 h3 h4 (ih1 (by omega)) (ih2 hb)

/-- What the depths tell: a list splits into a valid block and what closes the loop around it. -/
theorem parse (n : Nat) : ∀ (xs : List St) (d e : Int) (b : Nat), xs.length ≤ n → 0 ≤ d → d + b = 3 → e ≤ d → depF d xs = some e →
    ∃ body us rest, xs = body ++ rest ∧ Ur b body us ∧ (rest = [] ∧ e = d ∨ ∃ E r, rest = E :: r ∧ E.op = 13 ∧ stOk E = true ∧ 0 ≤ d - 1 ∧ depF (d - 1) r = some e) := by
  induction n with
  | zero =>
    intro xs d e b hl hd hb he h
    have : xs = [] := List.eq_nil_of_length_eq_zero (by omega)
    subst this
    exact ⟨[], [], [], rfl, .nil b, .inl ⟨rfl, by simpa [depF] using h.symm⟩⟩
  | succ n ih =>
    intro xs d e b hl hd hb he h
    match xs, hl, h with
    | [], _, h => exact ⟨[], [], [], rfl, .nil b, .inl ⟨rfl, by simpa [depF] using h.symm⟩⟩
    | s :: r, hl, h =>
      simp only [List.length_cons] at hl
      simp only [depF] at h
      split at h
      case isFalse => cases h
      case isTrue hc =>
      simp only [Bool.and_eq_true, inB_iff] at hc
      obtain ⟨hs, hd0, hd3⟩ := hc
      by_cases h13 : s.op = 13
      · have hst : stepD d s = d - 1 := by simp [stepD, h13]
        rw [hst] at h hd0
        exact ⟨[], [], s :: r, rfl, .nil b, .inr ⟨s, r, rfl, h13, hs, hd0, h⟩⟩
      · by_cases h12 : s.op = 12
        · have hst : stepD d s = d + 1 := by simp [stepD, h12]
          rw [hst] at h hd3
          obtain ⟨b', rfl⟩ : ∃ c, b = c + 1 := ⟨b - 1, by omega⟩
          obtain ⟨body1, us1, rest1, hx1, hu1, hr1⟩ := ih r (d + 1) e b' (by omega) (by omega) (by omega) (by omega) h
          rcases hr1 with ⟨_, hed⟩ | ⟨E, r1, hE, hEo, hEs, _, hr⟩
          · omega
          · rw [show d + 1 - 1 = d by omega] at hr
            have hll : r1.length ≤ n := by
              have := congrArg List.length hx1
              rw [hE] at this
              simp at this; omega
            obtain ⟨body2, us2, rest2, hx2, hu2, hr2⟩ := ih r1 d e (b' + 1) hll hd hb he hr
            refine ⟨s :: (body1 ++ E :: body2), repS s.n us1 ++ us2, rest2, ?_, .loop b' s E body1 body2 us1 us2 hs hEs h12 hEo hu1 hu2, hr2⟩
            rw [hx1, hE, hx2]; simp
        · have hst : stepD d s = d := by simp [stepD, h12, h13]
          rw [hst] at h
          obtain ⟨body1, us1, rest1, hx1, hu1, hr1⟩ := ih r d e b (by omega) hd hb he h
          exact ⟨s :: body1, s :: us1, rest1, by rw [hx1]; rfl, .plain b s body1 us1 hs h12 h13 hu1, hr1⟩

theorem ur_of_progOk {xs : List St} (h : progOk xs = true) : xs.length ≤ 40 ∧ ∃ us, Ur 3 xs us := by
  simp only [progOk, Bool.and_eq_true, decide_eq_true_eq] at h
  obtain ⟨body, us, rest, hx, hu, hr⟩ := parse xs.length xs 0 0 3 (Nat.le_refl _) (by omega) (by omega) (by omega) h.2
  refine ⟨h.1, us, ?_⟩
  rcases hr with ⟨hr, _⟩ | ⟨_, _, _, _, _, h0, _⟩
  · rw [hx, hr, List.append_nil]; exact hu
  · omega

theorem ur_plains {b : Nat} {xs us : List St} (h : Ur b xs us) : ∀ s ∈ us, stOk s = true ∧ s.op ≠ 12 ∧ s.op ≠ 13 := by
  induction h with
  | nil b => intro s hs; cases hs
  | plain b s r u h1 h2 h3 h4 ih =>
    intro x hx
    rcases List.mem_cons.1 hx with rfl | hx
    · exact ⟨h1, h2, h3⟩
    · exact ih x hx
  | loop b l e body r v u h1 h2 h3 h4 h5 h6 ih1 ih2 =>
    intro x hx
    rcases List.mem_append.1 hx with hx | hx
    · unfold repS at hx
      obtain ⟨y, hy, hxy⟩ := List.mem_flatten.1 hx
      have := List.eq_of_mem_replicate hy
      subst this
      exact ih1 x hxy
    · exact ih2 x hx

theorem ur_bound {b : Nat} {xs us : List St} (h : Ur b xs us) : us.length ≤ 8 ^ b * xs.length := by
  induction h with
  | nil b => simp
  | plain b s r u h1 h2 h3 h4 ih =>
    simp only [List.length_cons, Nat.mul_add, Nat.mul_one]
    have := Nat.one_le_two_pow (n := 3 * b)
    have h8 : 1 ≤ 8 ^ b := Nat.one_le_pow _ _ (by omega)
    omega
  | loop b l e body r v u h1 h2 h3 h4 h5 h6 ih1 ih2 =>
    have hn := stOk_loop h1 h3
    have hn' : l.n.toNat ≤ 8 := by omega
    rw [List.length_append, repS_length]
    have e1 : l.n.toNat * v.length ≤ 8 * (8 ^ b * body.length) := Nat.le_trans (Nat.mul_le_mul hn' ih1) (Nat.le_refl _)
    have e2 : 8 * (8 ^ b * body.length) = 8 ^ (b + 1) * body.length := by rw [Nat.pow_succ, Nat.mul_comm (8 ^ b) 8, Nat.mul_assoc]
    have e3 : (l :: (body ++ e :: r)).length = body.length + r.length + 2 := by simp; omega
    rw [e3, Nat.mul_add, Nat.mul_add]
    omega

/-- An unrolled list is its own unrolling. -/
theorem ur_noloop {b : Nat} {xs us : List St} (h : Ur b xs us) (hn : ∀ s ∈ xs, s.op ≠ 12) : us = xs := by
  induction h with
  | nil b => rfl
  | plain b s r u h1 h2 h3 h4 ih => rw [ih fun x hx => hn x (List.mem_cons_of_mem _ hx)]
  | loop b l e body r v u h1 h2 h3 h4 h5 h6 ih1 ih2 => exact absurd h3 (hn l (List.mem_cons_self ..))

end Go.Proofs.YtigefmobejclaaaDoor
