/- How a statement is written, and how a line is cut into its fields: plain, no program text in sight. -/
import Derived.Lib.ItoaNum
import Derived.Lib.ItoaMem
import Derived.Lib.AtoiAll
import Derived.Lib.SplitLaws
import Derived.Test.YtigefmobejclaaaDoorPlan
namespace Go.Proofs.YtigefmobejclaaaDoor
set_option linter.unusedVariables false
set_option linter.unusedSimpArgs false

abbrev Bs := List UInt8

/-! ### cutting -/
/-- A text cut at every byte c. -/
def spl (c : UInt8) : Bs → List Bs
  | [] => [[]]
  | b :: l => if b = c then [] :: spl c l else match spl c l with
    | [] => [[b]]
    | h :: t => (b :: h) :: t

theorem spl_ne (c : UInt8) (l : Bs) : spl c l ≠ [] := by
  induction l with
  | nil => simp [spl]
  | cons b l ih =>
    simp only [spl]
    split
    · simp
    · split <;> simp

theorem spl_len (c : UInt8) (l : Bs) : (spl c l).length = l.count c + 1 := by
  induction l with
  | nil => rfl
  | cons b l ih =>
    simp only [spl]
    split
    · next h => subst h; simp [ih]
    · next h =>
      rw [List.count_cons_of_ne (by simpa using h)]
      split
      · next he => exact absurd he (spl_ne c l)
      · next x t he => rw [he] at ih; simpa using ih

/-- Nothing to cut. -/
theorem spl_none {c : UInt8} {l : Bs} (h : c ∉ l) : spl c l = [l] := by
  induction l with
  | nil => rfl
  | cons b l ih =>
    simp only [List.mem_cons, not_or] at h
    simp only [spl]
    rw [if_neg (Ne.symm h.1), ih h.2]

/-- The first piece ends at the first c. -/
theorem spl_first {c : UInt8} {l r : Bs} (h : c ∉ l) : spl c (l ++ c :: r) = l :: spl c r := by
  induction l with
  | nil => simp [spl]
  | cons b l ih =>
    simp only [List.mem_cons, not_or] at h
    simp only [List.cons_append, spl]
    rw [if_neg (Ne.symm h.1), ih h.2]

theorem spl_join {c : UInt8} : ∀ (xs : List Bs) (w : Bs), (∀ x ∈ w :: xs, c ∉ x) → spl c (w ++ xs.flatMap (fun x => c :: x)) = w :: xs
  | [], w, h => by simpa using spl_none (h w (by simp))
  | x :: xs, w, h => by
    rw [List.flatMap_cons, List.cons_append, spl_first (h w (by simp)), spl_join xs x (fun y hy => h y (List.mem_cons_of_mem _ hy))]

theorem index_spec (c : UInt8) : ∀ l : Bs, (Lib.index l [c] = -1 ∧ c ∉ l) ∨ ∃ a r, l = a ++ c :: r ∧ c ∉ a ∧ Lib.index l [c] = (a.length : Nat)
  | [] => Or.inl ⟨by simp [Lib.index], by simp⟩
  | b :: l => by
    by_cases h : b = c
    · subst h
      exact Or.inr ⟨[], l, rfl, by simp, by rw [Lib.index]; simp [List.isPrefixOf]⟩
    · have hp : ([c] : List UInt8).isPrefixOf (b :: l) = false := by simp [List.isPrefixOf, Ne.symm h]
      have hix : Lib.index (b :: l) [c] = if Lib.index l [c] == -1 then -1 else Lib.index l [c] + 1 := by rw [Lib.index, hp]; simp
      rcases index_spec c l with ⟨h1, h2⟩ | ⟨a, r, h1, h2, h3⟩
      · refine Or.inl ⟨by rw [hix, h1]; rfl, ?_⟩
        simp only [List.mem_cons, not_or]; exact ⟨Ne.symm h, h2⟩
      · refine Or.inr ⟨b :: a, r, by rw [h1]; rfl, ?_, ?_⟩
        · simp only [List.mem_cons, not_or]; exact ⟨Ne.symm h, h2⟩
        · rw [hix, h3, if_neg (by simp)]; simp

theorem splitK_spl (c : UInt8) : ∀ (k : Nat) (l : Bs), l.count c = k → Lib.splitK [c] 0 k l = spl c l
  | 0, l, h => by
    have : c ∉ l := List.count_eq_zero.1 h
    rw [spl_none this]; rfl
  | k + 1, l, h => by
    rcases index_spec c l with ⟨_, h2⟩ | ⟨a, r, h1, h2, h3⟩
    · have := List.count_eq_zero.2 h2; omega
    · subst h1
      rw [spl_first h2]
      unfold Lib.splitK
      have e : (Lib.index (a ++ c :: r) [c]).toNat = a.length := by rw [h3]; simp
      rw [if_neg (by rw [h3]; simp), e]
      have hc : r.count c = k := by
        rw [List.count_append, List.count_cons_self, List.count_eq_zero.2 h2] at h; omega
      rw [show a.length + 0 = a.length from rfl, List.take_left' rfl, show a.length + [c].length = (a ++ [c]).length by simp, show a ++ c :: r = (a ++ [c]) ++ r by simp, List.drop_left' rfl, splitK_spl c k r hc]

/-- WHAT strings.Split HANDS BACK, as lists of bytes. -/
theorem splitB_spl (c : UInt8) (s : ByteArray) : (Lib.splitB ⟨#[c]⟩ 0 (Lib.countB s ⟨#[c]⟩) s).map (·.data.toList) = spl c s.data.toList := by
  rw [Lib.splitB_data]
  have : Lib.countB s ⟨#[c]⟩ = s.data.toList.count c := by
    show Lib.count s.data.toList [c] = _
    exact Lib.count_one c _
  rw [this]
  exact splitK_spl c _ _ rfl

/-! ### writing -/
def dig (n : Int) : Bs := Lib.decDigits n.toNat
def opW : List Bs := [[], [99, 111, 110, 115, 116], [105, 110, 112, 117, 116], [97, 100, 100], [115, 117, 98], [109, 117, 108], [97, 110, 100], [120, 111, 114], [108, 101, 115, 115], [101, 113, 117, 97, 108], [109, 117, 120], [111, 117, 116], [108, 111, 111, 112], [101, 110, 100]]
def wordB (op : Int) : Bs := opW.getD op.toNat []
def argsF (s : St) : List Bs :=
  if s.op = 1 then [114 :: dig s.dst, dig s.n]
  else if s.op = 2 then [114 :: dig s.dst, 112 :: dig s.a, dig s.n]
  else if s.op = 10 then [114 :: dig s.dst, 114 :: dig s.a, 114 :: dig s.b, 114 :: dig s.c]
  else if s.op = 11 then [114 :: dig s.a]
  else if s.op = 12 then [dig s.n]
  else if s.op = 13 then []
  else [114 :: dig s.dst, 114 :: dig s.a, 114 :: dig s.b]
def fmtS (s : St) : Bs := wordB s.op ++ (argsF s).flatMap (fun x => 32 :: x)

theorem dig_one {n : Int} (h0 : 0 ≤ n) (h : n < 10) : dig n = [UInt8.ofNat (48 + n.toNat)] := Lib.decDigits_one (by omega)
theorem dig_two {n : Int} (h0 : 10 ≤ n) (h : n < 100) : dig n = [UInt8.ofNat (48 + n.toNat / 10), UInt8.ofNat (48 + n.toNat % 10)] := Lib.decDigits_two (by omega) (by omega)
theorem digit_byte (k : Nat) (h : k < 10) : (UInt8.ofNat (48 + k)).toNat = 48 + k := by
  rw [UInt8.toNat_ofNat']; omega
/-- The bytes of a numeral are digits. -/
theorem decDigits_bytes : ∀ (n : Nat), ∀ x ∈ Lib.decDigits n, 48 ≤ x.toNat ∧ x.toNat ≤ 57 := by
  intro n
  induction n using Nat.strongRecOn with
  | ind n ih =>
    intro x hx
    rw [Lib.decDigits] at hx
    split at hx
    · next h => simp only [List.mem_singleton] at hx; subst hx; rw [digit_byte _ h]; omega
    · next h =>
      rcases List.mem_append.1 hx with h1 | h1
      · exact ih (n / 10) (by omega) x h1
      · simp only [List.mem_singleton] at h1; subst h1; rw [digit_byte _ (by omega)]; omega
theorem dig_bytes (n : Int) : ∀ x ∈ dig n, 48 ≤ x.toNat ∧ x.toNat ≤ 57 := decDigits_bytes _

/-! ### which word is it -/
/-- The number of the word x, by a look at the first k words. -/
def opK (x : Bs) : Nat → Int
  | 0 => 0
  | k + 1 => if (decide ((k : Int) > 0) && decide (opW.getD k [] = x)) = true then (k : Int) else opK x k
def opOf (x : Bs) : Int := opK x 14
theorem opK_range (x : Bs) (k : Nat) (h : k ≤ 14) : 0 ≤ opK x k ∧ opK x k ≤ 13 := by
  induction k with
  | zero => simp [opK]
  | succ k ih =>
    simp only [opK]
    split
    · omega
    · exact ih (by omega)
theorem opOf_range (x : Bs) : 0 ≤ opOf x ∧ opOf x ≤ 13 := opK_range x 14 (by omega)
theorem opOf_word {op : Int} (h : 1 ≤ op) (h' : op ≤ 13) : opOf (wordB op) = op := by
  have : op = 1 ∨ op = 2 ∨ op = 3 ∨ op = 4 ∨ op = 5 ∨ op = 6 ∨ op = 7 ∨ op = 8 ∨ op = 9 ∨ op = 10 ∨ op = 11 ∨ op = 12 ∨ op = 13 := by omega
  rcases this with rfl | rfl | rfl | rfl | rfl | rfl | rfl | rfl | rfl | rfl | rfl | rfl | rfl <;> rfl
theorem stok_op {s : St} (h : stOk s = true) : 1 ≤ s.op ∧ s.op ≤ 13 := by
  unfold stOk at h
  repeat' split at h
  all_goals try omega
  · next h1 => have := inB_iff.1 h1; omega
  · simp at h; omega

theorem word_bytes {op : Int} : (∀ x ∈ wordB op, 97 ≤ x.toNat ∧ x.toNat ≤ 122) := by
  have key : ∀ y ∈ opW, ∀ x ∈ y, 97 ≤ x.toNat ∧ x.toNat ≤ 122 := by decide
  intro x hx
  unfold wordB at hx
  by_cases h : op.toNat < opW.length
  · rw [List.getD_eq_getElem?_getD, List.getElem?_eq_getElem h, Option.getD_some] at hx
    exact key _ (List.getElem_mem h) x hx
  · rw [List.getD_eq_getElem?_getD, List.getElem?_eq_none (by omega)] at hx; simp at hx

/-- No field holds a blank or a byte that no line may hold. -/
theorem field_bytes (s : St) : ∀ y ∈ wordB s.op :: argsF s, ∀ x ∈ y, 33 ≤ x.toNat ∧ x.toNat ≤ 122 := by
  intro y hy x hx
  rcases List.mem_cons.1 hy with rfl | hy
  · have := word_bytes x hx; omega
  have hr : ∀ (n : Int) (x : UInt8), x ∈ (114 : UInt8) :: dig n → 33 ≤ x.toNat ∧ x.toNat ≤ 122 := by
    intro n x hx
    rcases List.mem_cons.1 hx with rfl | hx
    · decide
    · have := dig_bytes n x hx; omega
  have hp : ∀ (n : Int) (x : UInt8), x ∈ (112 : UInt8) :: dig n → 33 ≤ x.toNat ∧ x.toNat ≤ 122 := by
    intro n x hx
    rcases List.mem_cons.1 hx with rfl | hx
    · decide
    · have := dig_bytes n x hx; omega
  have hd : ∀ (n : Int) (x : UInt8), x ∈ dig n → 33 ≤ x.toNat ∧ x.toNat ≤ 122 := by
    intro n x hx
    have := dig_bytes n x hx; omega
  unfold argsF at hy
  repeat' split at hy
  all_goals simp only [List.mem_cons, List.mem_nil_iff, or_false] at hy
  · rcases hy with rfl | rfl
    · exact hr _ _ hx
    · exact hd _ _ hx
  · rcases hy with rfl | rfl | rfl
    · exact hr _ _ hx
    · exact hp _ _ hx
    · exact hd _ _ hx
  · rcases hy with rfl | rfl | rfl | rfl
    · exact hr _ _ hx
    · exact hr _ _ hx
    · exact hr _ _ hx
    · exact hr _ _ hx
  · subst hy; exact hr _ _ hx
  · subst hy; exact hd _ _ hx
  · rcases hy with rfl | rfl | rfl
    · exact hr _ _ hx
    · exact hr _ _ hx
    · exact hr _ _ hx

theorem spl_fmtS (s : St) : spl 32 (fmtS s) = wordB s.op :: argsF s :=
  spl_join _ _ fun y hy hm => by have := field_bytes s y hy 32 hm; simp at this
theorem fmtS_bytes (s : St) : ∀ x ∈ fmtS s, 32 ≤ x.toNat ∧ x.toNat ≤ 122 := by
  intro x hx
  unfold fmtS at hx
  rcases List.mem_append.1 hx with h | h
  · have := field_bytes s _ (by simp) x h; omega
  · obtain ⟨y, hy, hm⟩ := List.mem_flatMap.1 h
    rcases List.mem_cons.1 hm with rfl | hm
    · decide
    · have := field_bytes s y (List.mem_cons_of_mem _ hy) x hm; omega

/-- What a number field's reader owes: at a numeral of a small number, that number. -/
def NumOf (l : Bs) (v : Int) : Prop := ∀ n : Int, 0 ≤ n → n < 16 → l = dig n → v = n

/-! ### a written statement is found again -/
theorem ok1 {s : St} (h : stOk s = true) (e : s.op = 1) : s = ⟨1, s.dst, 0, 0, 0, s.n⟩ ∧ 0 ≤ s.dst ∧ s.dst < 16 ∧ 0 ≤ s.n ∧ s.n < 16 := by
  obtain ⟨op, dst, a, b, c, n⟩ := s
  subst e
  simp [stOk, inB] at h
  obtain ⟨⟨⟨rfl, rfl⟩, rfl⟩, ⟨h1, h2⟩, h3, h4⟩ := h
  exact ⟨rfl, h1, by show dst < 16; omega, h3, by show n < 16; omega⟩
theorem ok2 {s : St} (h : stOk s = true) (e : s.op = 2) : s = ⟨2, s.dst, s.a, 0, 0, s.n⟩ ∧ 0 ≤ s.dst ∧ s.dst < 16 ∧ 0 ≤ s.a ∧ s.a < 16 ∧ 0 ≤ s.n ∧ s.n < 16 := by
  obtain ⟨op, dst, a, b, c, n⟩ := s
  subst e
  simp [stOk, inB] at h
  obtain ⟨⟨rfl, rfl⟩, ⟨⟨h1, h2⟩, h3, h4⟩, h5, h6⟩ := h
  exact ⟨rfl, h1, by show dst < 16; omega, h3, by show a < 16; omega, h5, by show n < 16; omega⟩
theorem ok39 {s : St} (h : stOk s = true) (e : 3 ≤ s.op) (e' : s.op ≤ 9) : s = ⟨s.op, s.dst, s.a, s.b, 0, 0⟩ ∧ 0 ≤ s.dst ∧ s.dst < 16 ∧ 0 ≤ s.a ∧ s.a < 16 ∧ 0 ≤ s.b ∧ s.b < 16 := by
  obtain ⟨op, dst, a, b, c, n⟩ := s
  simp only at e e'
  have e1 : ¬ op = 1 := by omega
  have e2 : ¬ op = 2 := by omega
  simp [stOk, inB, e1, e2, e, e'] at h
  obtain ⟨⟨rfl, rfl⟩, ⟨⟨h1, h2⟩, h3, h4⟩, h5, h6⟩ := h
  exact ⟨rfl, h1, by show dst < 16; omega, h3, by show a < 16; omega, h5, by show b < 16; omega⟩
theorem ok10 {s : St} (h : stOk s = true) (e : s.op = 10) : s = ⟨10, s.dst, s.a, s.b, s.c, 0⟩ ∧ 0 ≤ s.dst ∧ s.dst < 16 ∧ 0 ≤ s.a ∧ s.a < 16 ∧ 0 ≤ s.b ∧ s.b < 16 ∧ 0 ≤ s.c ∧ s.c < 16 := by
  obtain ⟨op, dst, a, b, c, n⟩ := s
  subst e
  simp [stOk, inB] at h
  obtain ⟨rfl, ⟨⟨⟨h1, h2⟩, h3, h4⟩, h5, h6⟩, h7, h8⟩ := h
  exact ⟨rfl, h1, by show dst < 16; omega, h3, by show a < 16; omega, h5, by show b < 16; omega, h7, by show c < 16; omega⟩
theorem ok11 {s : St} (h : stOk s = true) (e : s.op = 11) : s = ⟨11, 0, s.a, 0, 0, 0⟩ ∧ 0 ≤ s.a ∧ s.a < 16 := by
  obtain ⟨op, dst, a, b, c, n⟩ := s
  subst e
  simp [stOk, inB] at h
  obtain ⟨⟨⟨⟨rfl, rfl⟩, rfl⟩, rfl⟩, h1, h2⟩ := h
  exact ⟨rfl, h1, by show a < 16; omega⟩
theorem ok12 {s : St} (h : stOk s = true) (e : s.op = 12) : s = ⟨12, 0, 0, 0, 0, s.n⟩ ∧ 0 ≤ s.n ∧ s.n < 16 := by
  obtain ⟨op, dst, a, b, c, n⟩ := s
  subst e
  simp [stOk, inB] at h
  obtain ⟨⟨⟨⟨rfl, rfl⟩, rfl⟩, rfl⟩, h1, h2⟩ := h
  exact ⟨rfl, by show 0 ≤ n; omega, by show n < 16; omega⟩
theorem ok13 {s : St} (h : stOk s = true) (e : s.op = 13) : s = ⟨13, 0, 0, 0, 0, 0⟩ := by
  obtain ⟨op, dst, a, b, c, n⟩ := s
  subst e
  simp [stOk, inB] at h
  obtain ⟨⟨⟨⟨rfl, rfl⟩, rfl⟩, rfl⟩, rfl⟩ := h
  rfl

theorem args_op1 {s : St} (e : s.op = 1) : argsF s = [114 :: dig s.dst, dig s.n] := by simp [argsF, e]
theorem args_op2 {s : St} (e : s.op = 2) : argsF s = [114 :: dig s.dst, 112 :: dig s.a, dig s.n] := by simp [argsF, e]
theorem args_op10 {s : St} (e : s.op = 10) : argsF s = [114 :: dig s.dst, 114 :: dig s.a, 114 :: dig s.b, 114 :: dig s.c] := by simp [argsF, e]
theorem args_op11 {s : St} (e : s.op = 11) : argsF s = [114 :: dig s.a] := by simp [argsF, e]
theorem args_op12 {s : St} (e : s.op = 12) : argsF s = [dig s.n] := by simp [argsF, e]
theorem args_op13 {s : St} (e : s.op = 13) : argsF s = [] := by simp [argsF, e]
theorem args_op39 {s : St} (e : 3 ≤ s.op) (e' : s.op ≤ 9) : argsF s = [114 :: dig s.dst, 114 :: dig s.a, 114 :: dig s.b] := by
  have e1 : ¬ s.op = 1 := by omega
  have e2 : ¬ s.op = 2 := by omega
  have e3 : ¬ s.op = 10 := by omega
  have e4 : ¬ s.op = 11 := by omega
  have e5 : ¬ s.op = 12 := by omega
  have e6 : ¬ s.op = 13 := by omega
  simp [argsF, e1, e2, e3, e4, e5, e6]

/-- WHAT PARSING ONE LINE ANSWERS: the statement that is written so, or nothing. -/
def PS (line : Bs) (s : St) (b : Bool) : Prop :=
  (b = true ∧ stOk s = true ∧ fmtS s = line) ∨ (b = false ∧ s = ⟨0, 0, 0, 0, 0, 0⟩ ∧ ∀ s0, stOk s0 = true → fmtS s0 ≠ line)

theorem fmt_head {s : St} {line : Bs} (h : fmtS s = line) {w : Bs} {xs : List Bs} (e : spl 32 line = w :: xs) : w = wordB s.op ∧ xs = argsF s := by
  rw [← h, spl_fmtS] at e
  cases e
  exact ⟨rfl, rfl⟩

theorem NumOf.self {v n : Int} (h : NumOf (dig n) v) (h0 : 0 ≤ n) (h1 : n < 16) : v = n := h n h0 h1 rfl

/-- The number that digits spell. -/
def valD (l : Bs) : Nat := l.foldl (fun a c => 10 * a + (c.toNat - 48)) 0
theorem valD_snoc (l : Bs) (c : UInt8) : valD (l ++ [c]) = 10 * valD l + (c.toNat - 48) := by simp [valD]
theorem valD_dec (n : Nat) : valD (Lib.decDigits n) = n := by
  induction n using Nat.strongRecOn with
  | ind n ih =>
    rw [Lib.decDigits]
    split
    · next h => simp only [valD, List.foldl_cons, List.foldl_nil]; rw [digit_byte _ h]; omega
    · next h => rw [valD_snoc, ih (n / 10) (by omega), digit_byte _ (by omega)]; omega
/-- The writing tells the number. -/
theorem dig_inj {n m : Int} (h0 : 0 ≤ n) (g0 : 0 ≤ m) (h : dig n = dig m) : n = m := by
  have := congrArg valD h
  unfold dig at this
  rw [valD_dec, valD_dec] at this
  omega
theorem numOf_dig {n : Int} (h0 : 0 ≤ n) : NumOf (dig n) n := fun m g0 g1 h => (dig_inj h0 g0 h)
end Go.Proofs.YtigefmobejclaaaDoor
