/- Which lines of a machine's program may be (no symbol): the form of an op, its registers, its number; asm.MayLine and the reference's as printed say it. -/
import Derived.Test.YtpoofggcodiaiaaWdA
import Derived.Test.YtpoofggcodiaiaaBy
import Derived.Test.YtpoofggcodiaiaaX5
import Derived.Test.YtpoofggcodiaiaaX4
import Derived.Test.YtpoofggcodiaiaaX3
set_option linter.unusedVariables false
namespace Go.Proofs.Ytpoofggcodiaiaa.Pure
open Go.RowKit Go.Proofs.Ytpoofggcodiaiaa.X Go.Proofs.YtpoofggcodiaiaaW.PrintWords Go.Proofs.YtpoofggcodiaiaaW.PrintLast

/-- The form of an op. -/
def formL (op : Int) : Int :=
  if op = 1 then 1 else if 2 ≤ op ∧ op ≤ 7 then 2 else if 8 ≤ op ∧ op ≤ 10 then 3 else if 11 ≤ op ∧ op ≤ 23 then 4 else if op = 24 ∨ op = 29 then 5
  else if op = 25 then 6 else if op = 26 ∨ op = 27 then 7 else if op = 28 then 8 else if op = 30 then 0 else 9
def hasD (f : Int) : Bool := f == 1 || f == 8 || f == 2 || f == 3 || f == 5 || f == 4
def hasA (f : Int) : Bool := f == 2 || f == 3 || f == 5 || f == 4 || f == 6 || f == 7
def hasB (f : Int) : Bool := f == 4 || f == 6 || f == 7
def regOk (had : Bool) (r : Int) : Bool := r == 0 || (had && decide (1 ≤ r) && decide (r ≤ 31))
def numOk (f n : Int) : Bool :=
  if f = 1 then decide (0 ≤ n) && decide (n ≤ 1048575) else if f = 2 ∨ f = 5 ∨ f = 6 then decide (-2048 ≤ n) && decide (n ≤ 2047)
  else if f = 3 then decide (0 ≤ n) && decide (n ≤ 31) else if f = 7 then decide (-4096 ≤ n) && decide (n ≤ 4095) && (n % 2 == 0)
  else if f = 8 then decide (-1048576 ≤ n) && decide (n ≤ 1048575) && (n % 2 == 0) else n == 0
/-- May an instruction without a symbol be so? -/
def mayP (op d a b n : Int) : Bool := (formL op != 9) && regOk (hasD (formL op)) d && regOk (hasA (formL op)) a && regOk (hasB (formL op)) b && numOk (formL op) n

theorem form_is (op : Int) (k : Nat) : asm_form.f (k + 5) op = some (formL op) := by
  by_cases h1 : op = 1
  · subst h1; rfl
  unfold asm_form.f formL
  rw [if_neg h1, if_neg h1]
  by_cases c1 : 2 ≤ op ∧ op ≤ 7
  · rw [if_pos c1, if_pos c1.1]; simp [asm_form.j0, c1.2]
  have e1 : ∀ b : Bool, b = true → (if 2 ≤ op then asm_form.j0 (k + 5) op (decide (op ≤ 7)) else asm_form.j0 (k + 5) op false) = asm_form.j0 (k + 5) op false := by
    intro b _
    by_cases c : 2 ≤ op
    · rw [if_pos c]; congr 1; exact decide_eq_false (by omega)
    · rw [if_neg c]
  rw [if_neg c1]
  show (if 2 ≤ op then asm_form.j0 (k + 5) op (decide (op ≤ 7)) else asm_form.j0 (k + 5) op false) = _
  rw [e1 true rfl]
  simp only [asm_form.j0, Bool.false_eq_true, if_false]
  by_cases c2 : 8 ≤ op ∧ op ≤ 10
  · rw [if_pos c2, if_pos c2.1]; simp [asm_form.j1, c2.2]
  rw [if_neg c2]
  have e2 : (if op ≥ 8 then asm_form.j1 (k + 4) op (decide (op ≤ 10)) else asm_form.j1 (k + 4) op false) = asm_form.j1 (k + 4) op false := by
    by_cases c : 8 ≤ op
    · rw [if_pos c]; congr 1; exact decide_eq_false (by omega)
    · rw [if_neg c]
  rw [e2]
  simp only [asm_form.j1, Bool.false_eq_true, if_false]
  by_cases c3 : 11 ≤ op ∧ op ≤ 23
  · rw [if_pos c3, if_pos c3.1]; simp [asm_form.j2, c3.2]
  rw [if_neg c3]
  have e3 : (if op ≥ 11 then asm_form.j2 (k + 3) op (decide (op ≤ 23)) else asm_form.j2 (k + 3) op false) = asm_form.j2 (k + 3) op false := by
    by_cases c : 11 ≤ op
    · rw [if_pos c]; congr 1; exact decide_eq_false (by omega)
    · rw [if_neg c]
  rw [e3]
  simp only [asm_form.j2, Bool.false_eq_true, if_false]
  by_cases c4 : op = 24
  · subst c4; simp [asm_form.j3]
  by_cases c5 : op = 29
  · subst c5; simp [asm_form.j3]
  rw [if_neg c4, if_neg (by omega), beq_eq_false_iff_ne.2 c5]
  simp only [asm_form.j3, Bool.false_eq_true, if_false]
  by_cases c6 : op = 25
  · subst c6; simp
  rw [if_neg c6, if_neg c6]
  by_cases c7 : op = 26
  · subst c7; simp [asm_form.j4]
  by_cases c8 : op = 27
  · subst c8; simp [asm_form.j4]
  rw [if_neg c7, if_neg (by omega), beq_eq_false_iff_ne.2 c8]
  simp only [asm_form.j4, Bool.false_eq_true, if_false]
  by_cases c9 : op = 28
  · subst c9; simp
  rw [if_neg c9, if_neg c9]
  by_cases c10 : op = 30
  · subst c10; simp
  · rw [if_neg c10, if_neg c10]
theorem has_is (f : Int) (k : Nat) : asm_has.f (k + 2) f = some (hasD f, hasA f, hasB f) := by
  unfold asm_has.f
  by_cases h1 : f = 1
  · subst h1; rfl
  rw [if_neg h1]
  by_cases h8 : f = 8
  · subst h8; rfl
  rw [beq_eq_false_iff_ne.2 h8]
  simp only [asm_has.j0, Bool.false_eq_true, if_false]
  by_cases h2 : f = 2
  · subst h2; rfl
  by_cases h3 : f = 3
  · subst h3; rfl
  by_cases h5 : f = 5
  · subst h5; rfl
  rw [if_neg h2, if_neg h3, beq_eq_false_iff_ne.2 h5]
  simp only [asm_has.j1, Bool.false_eq_true, if_false]
  by_cases h4 : f = 4
  · subst h4; rfl
  by_cases h6 : f = 6
  · subst h6; rfl
  by_cases h7 : f = 7
  · subst h7; rfl
  simp [h4, h6, h7, hasD, hasA, hasB, h1, h8, h2, h3, h5]
theorem isReg_is (b : Bool) (r : Int) : asm_isReg.f b r = some (regOk b r) := by
  unfold asm_isReg.f regOk
  by_cases h : r = 0
  · rw [if_pos h]; simp [h]
  · rw [if_neg h]
    cases b
    · simp [h]
    · by_cases c : 0 < r
      · simp [h, c, show (1 : Int) ≤ r from by omega]
      · simp [h, c, show ¬ (1 : Int) ≤ r from by omega]
theorem powL_bd (m : Nat) (h : m ≤ 31) : (1 : Int) ≤ 2 ^ m ∧ (2 : Int) ^ m ≤ 2147483648 := by
  refine ⟨Int.pow_pos (by decide), ?_⟩
  have h2 : (2 : Nat) ^ m ≤ 2 ^ 31 := Nat.pow_le_pow_right (by decide) h
  have h3 : ((2 ^ m : Nat) : Int) ≤ ((2 ^ 31 : Nat) : Int) := by exact_mod_cast h2
  simpa using h3
theorem fitsL_is (n b : Int) (hn : -2147483648 ≤ n ∧ n ≤ 2147483647) (h1 : 1 ≤ b) (h2 : b ≤ 32) : word_Fits.f n b = some (decide (-(2 : Int) ^ (b - 1).toNat ≤ n) && decide (n < 2 ^ (b - 1).toNat)) := by
  unfold word_Fits.f
  have hb := powL_bd (b - 1).toNat (by omega)
  have hs : shl .i64 1 (b - 1) = 2 ^ (b - 1).toNat := by
    unfold shl
    rw [Nat.min_eq_left (by simp [IntKind.bits]; omega), Int.one_mul, i64_wrap, w64 (by omega) (by omega)]
  rw [if_neg (by omega), if_neg (by omega), w64 (n := b - 1) (by omega) (by omega), if_pos (by omega), w64 (n := n) (by omega) (by omega), hs]
  generalize (2 : Int) ^ (b - 1).toNat = p at *
  rw [w64 (by omega) (by omega)]
  by_cases c : -p ≤ n
  · rw [if_pos c]; simp [c]
  · rw [if_neg c]; simp [c]
theorem even_is (n : Int) (hn : -2147483648 ≤ n ∧ n ≤ 2147483647) : (Go.bits .and .i32 n 1 == 0) = (n % 2 == 0) := by
  rw [bits_and_nat, show nat32 1 = 1 from by decide, Go.nat_mask1]
  have h := nat32_cast n
  have e : wrap32 ((nat32 n % 2 : Nat) : Int) = n % 2 := by
    unfold wrap32; omega
  rw [e]
theorem isNum_is (f n : Int) (hn : -2147483648 ≤ n ∧ n ≤ 2147483647) (k : Nat) : asm_isNum.f (k + 1) f n = some (numOk f n) := by
  unfold asm_isNum.f
  by_cases h1 : f = 1
  · subst h1
    rw [if_pos rfl]
    unfold numOk
    by_cases c : 0 ≤ n
    · rw [if_pos c, if_pos rfl]; simp [c]; omega
    · rw [if_neg c, if_pos rfl]; simp [c]
  rw [if_neg h1]
  have fits12 := fitsL_is n 12 hn (by decide) (by decide)
  have fits13 := fitsL_is n 13 hn (by decide) (by decide)
  have fits21 := fitsL_is n 21 hn (by decide) (by decide)
  have p12 : (2 : Int) ^ ((12 : Int) - 1).toNat = 2048 := by decide
  have p13 : (2 : Int) ^ ((13 : Int) - 1).toNat = 4096 := by decide
  have p21 : (2 : Int) ^ ((21 : Int) - 1).toNat = 1048576 := by decide
  rw [p12] at fits12
  rw [p13] at fits13
  rw [p21] at fits21
  have d12 : (decide (-2048 ≤ n) && decide (n < 2048)) = (decide (-2048 ≤ n) && decide (n ≤ 2047)) := by congr 1; rw [decide_eq_decide]; omega
  have d13 : (decide (-4096 ≤ n) && decide (n < 4096)) = (decide (-4096 ≤ n) && decide (n ≤ 4095)) := by congr 1; rw [decide_eq_decide]; omega
  have d21 : (decide (-1048576 ≤ n) && decide (n < 1048576)) = (decide (-1048576 ≤ n) && decide (n ≤ 1048575)) := by congr 1; rw [decide_eq_decide]; omega
  rw [d12] at fits12
  rw [d13] at fits13
  rw [d21] at fits21
  by_cases h2 : f = 2
  · subst h2; simp only [asm_isNum.j0, fits12]; simp [numOk]
  rw [if_neg h2]
  by_cases h5 : f = 5
  · subst h5; simp only [asm_isNum.j0, fits12]; simp [numOk]
  rw [if_neg h5]
  by_cases h6 : f = 6
  · subst h6; simp only [asm_isNum.j0, fits12]; simp [numOk]
  rw [beq_eq_false_iff_ne.2 h6]
  simp only [asm_isNum.j0, Bool.false_eq_true, if_false]
  by_cases h3 : f = 3
  · subst h3
    rw [if_pos rfl]
    by_cases c : 0 ≤ n
    · rw [if_pos c]; simp [numOk, c]
    · rw [if_neg c]; simp [numOk, c]
  rw [if_neg h3]
  by_cases h7 : f = 7
  · subst h7
    rw [if_pos rfl, fits13, Option.bind_some, even_is n hn]
    rw [show numOk 7 n = (decide (-4096 ≤ n) && decide (n ≤ 4095) && (n % 2 == 0)) from rfl]
    cases (decide (-4096 ≤ n) && decide (n ≤ 4095)) <;> rfl
  rw [if_neg h7]
  by_cases h8 : f = 8
  · subst h8
    rw [if_pos rfl, fits21, Option.bind_some, even_is n hn]
    rw [show numOk 8 n = (decide (-1048576 ≤ n) && decide (n ≤ 1048575) && (n % 2 == 0)) from rfl]
    cases (decide (-1048576 ≤ n) && decide (n ≤ 1048575)) <;> rfl
  rw [if_neg h8]
  unfold numOk
  rw [if_neg h1, if_neg (by omega), if_neg h3, if_neg h7, if_neg h8]
theorem mayLine_is (op d a b n : Int) (s : ByteArray) (hs : s.toList = []) (hn : -2147483648 ≤ n ∧ n ≤ 2147483647) (k : Nat) (hk : 10 ≤ k) : asm_MayLine.f k 2 op d a b n s = some (mayP op d a b n) := by
  obtain ⟨k, rfl⟩ : ∃ j, k = j + 5 := ⟨k - 5, by omega⟩
  unfold asm_MayLine.f
  rw [if_neg (by decide), form_is op k, Option.bind_some, show k + 5 = (k + 3) + 2 from rfl, has_is, Option.bind_some, if_pos rfl]
  have j1 : ∀ x6 x7 x1 x2 x3 x4, asm_MayLine.j0 (k + 3 + 2) true x1 x2 x3 x4 x6 x7 s = some false := by
    intro x6 x7 x1 x2 x3 x4
    rw [show k + 3 + 2 = (k + 4) + 1 from rfl]
    simp only [asm_MayLine.j0, if_true]
  by_cases c9 : formL op = 9
  · rw [if_pos c9, j1]; simp [mayP, c9]
  rw [if_neg c9]
  have e9 : (formL op != 9) = true := by simp [c9]
  simp only [isReg_is, Option.bind_some]
  unfold mayP
  rw [e9]
  cases hD : regOk (hasD (formL op)) d
  · simp [j1]
  cases hA : regOk (hasA (formL op)) a
  · simp [j1]
  cases hB : regOk (hasB (formL op)) b
  · simp [j1]
  rw [show k + 3 + 2 = (k + 4) + 1 from rfl, isNum_is _ _ hn]
  simp only [if_true, Option.bind_some, asm_MayLine.j0, hs]
  cases numOk (formL op) n <;> simp
end Go.Proofs.Ytpoofggcodiaiaa.Pure
