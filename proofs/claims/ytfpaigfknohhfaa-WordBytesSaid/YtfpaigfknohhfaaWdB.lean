/- What the printed word.Bin answers, operator by operator; the document's examples of layer 1. -/
import Derived.Test.YtfpaigfknohhfaaWdA
import Derived.Test.YtfpaigfknohhfaaX3
namespace Go.Proofs.Ytfpaigfknohhfaa.Pure
open Go.RowKit Go.Proofs.Ytfpaigfknohhfaa.X Go.Proofs.YtfpaigfknohhfaaW.PrintWords Go.Proofs.YtfpaigfknohhfaaW.PrintLast

theorem bits_31 (y : Int) : Go.bits .and .u32 (y % 4294967296) 31 = y % 32 := by
  rw [Go.u32_and _ _ (by omega) (by omega) (by decide) (by decide)]
  have h : ((31 : Int).toNat) = 31 := rfl
  rw [h, Go.nat_mask5]
  omega

/-- Of two words, what Go's binary operators make (layer 1): the value, and whether there is one. -/
def binV (op a b : Int) : Int × Bool :=
  if op = 1 then (wrap32 (a + b), true) else if op = 2 then (wrap32 (a - b), true) else if op = 3 then (wrap32 (a * b), true)
  else if op = 4 then (if b = 0 then (0, false) else (wrap32 (Int.tdiv a b), true))
  else if op = 5 then (if b = 0 then (0, false) else (Int.tmod a b, true))
  else if op = 6 then (wrap32 (a * 2 ^ (b % 32).toNat), true)
  else if op = 7 then (a / 2 ^ (b % 32).toNat, true)
  else if op = 8 then (Go.bits .and .i32 a b, true) else if op = 9 then (Go.bits .or .i32 a b, true) else if op = 10 then (Go.bits .xor .i32 a b, true)
  else if op = 11 then (if a < b then 1 else 0, true) else if op = 12 then (if a ≤ b then 1 else 0, true)
  else if op = 13 then (if b < a then 1 else 0, true) else if op = 14 then (if b ≤ a then 1 else 0, true)
  else if op = 15 then (if a = b then 1 else 0, true) else if op = 16 then (if a = b then 0 else 1, true)
  else if op = 17 then (if a = 0 ∨ b = 0 then 0 else 1, true) else if op = 18 then (if a = 0 ∧ b = 0 then 0 else 1, true)
  else (0, false)

theorem divide_is (a b : Int) (h : b ≠ 0) : word_divide.f a b = some (wrap32 (Int.tdiv a b), Int.tmod a b) := by
  unfold word_divide.f
  by_cases h1 : a = -2147483648
  · rw [if_pos h1]
    by_cases h2 : b = -1
    · rw [if_pos h2]; subst h1; subst h2; decide +kernel
    · rw [if_neg h2, if_neg h]
  · rw [if_neg h1, if_neg h]
theorem compare_is (op a b : Int) (h : op < 1 ∨ 10 < op) : word_compare.f op a b = some (binV op a b) := by
  have e : binV op a b = if op = 11 then (if a < b then 1 else 0, true) else if op = 12 then (if a ≤ b then 1 else 0, true)
      else if op = 13 then (if b < a then 1 else 0, true) else if op = 14 then (if b ≤ a then 1 else 0, true)
      else if op = 15 then (if a = b then 1 else 0, true) else if op = 16 then (if a = b then 0 else 1, true)
      else if op = 17 then (if a = 0 ∨ b = 0 then 0 else 1, true) else if op = 18 then (if a = 0 ∧ b = 0 then 0 else 1, true) else (0, false) := by
    unfold binV
    repeat (rw [if_neg (by omega)])
  rw [e]
  unfold word_compare.f word_truth.f
  by_cases h11 : op = 11
  · simp only [if_pos h11]; by_cases c : a < b <;> simp [c]
  by_cases h12 : op = 12
  · simp only [if_neg h11, if_pos h12]; by_cases c : a ≤ b <;> simp [c]
  by_cases h13 : op = 13
  · simp only [if_neg h11, if_neg h12, if_pos h13]; by_cases c : b < a <;> simp [c]
  by_cases h14 : op = 14
  · simp only [if_neg h11, if_neg h12, if_neg h13, if_pos h14]; by_cases c : b ≤ a <;> simp [c]
  by_cases h15 : op = 15
  · simp only [if_neg h11, if_neg h12, if_neg h13, if_neg h14, if_pos h15]; by_cases c : a = b <;> simp [c]
  by_cases h16 : op = 16
  · simp only [if_neg h11, if_neg h12, if_neg h13, if_neg h14, if_neg h15, if_pos h16]; by_cases c : a = b <;> simp [c]
  by_cases h17 : op = 17
  · simp only [if_neg h11, if_neg h12, if_neg h13, if_neg h14, if_neg h15, if_neg h16, if_pos h17]
    by_cases c : a = 0 <;> by_cases d : b = 0 <;> simp [c, d]
  by_cases h18 : op = 18
  · simp only [if_neg h11, if_neg h12, if_neg h13, if_neg h14, if_neg h15, if_neg h16, if_neg h17, if_pos h18]
    by_cases c : a = 0 <;> by_cases d : b = 0 <;> simp [c, d]
  simp only [if_neg h11, if_neg h12, if_neg h13, if_neg h14, if_neg h15, if_neg h16, if_neg h17, if_neg h18]
theorem shl_is (a y : Int) : shl .i32 a (y % 32) = wrap32 (a * 2 ^ (y % 32).toNat) := by
  unfold shl
  rw [i32_wrap, Nat.min_eq_left (by simp [IntKind.bits]; omega)]
theorem shr_is (a y : Int) : shr .i32 a (y % 32) = a / 2 ^ (y % 32).toNat := by
  unfold shr
  rw [Nat.min_eq_left (by simp [IntKind.bits]; omega)]
theorem bin_is (k : Nat) (op a b : Int) : word_Bin.f (k + 1) op a b = some (binV op a b) := by
  unfold word_Bin.f
  by_cases h1 : op = 1
  · subst h1; simp [binV]
  by_cases h2 : op = 2
  · subst h2; simp [binV]
  by_cases h3 : op = 3
  · subst h3; simp [binV]
  rw [if_neg h1, if_neg h2, if_neg h3]
  by_cases h4 : op = 4
  · subst h4
    simp only [word_Bin.j0, if_pos, binV]
    by_cases hb : b = 0
    · simp [hb]
    · simp [hb, divide_is a b hb]
  rw [if_neg h4]
  by_cases h5 : op = 5
  · subst h5
    simp only [word_Bin.j0, binV]
    by_cases hb : b = 0
    · simp [hb]
    · simp [hb, divide_is a b hb]
  have e5 : (op == 5) = false := beq_eq_false_iff_ne.mpr h5
  simp only [word_Bin.j0, e5, Bool.false_eq_true, if_false, bits_31]
  have hn : (0 : Int) ≤ b % 32 := by omega
  by_cases h6 : op = 6
  · subst h6; simp [binV, shl_is, hn]
  by_cases h7 : op = 7
  · subst h7; simp [binV, shr_is, hn]
  by_cases h8 : op = 8
  · subst h8; simp [binV]
  by_cases h9 : op = 9
  · subst h9; simp [binV]
  by_cases h10 : op = 10
  · subst h10; simp [binV]
  rw [if_neg h6, if_neg h7, if_neg h8, if_neg h9, if_neg h10, compare_is op a b (by omega)]
  rfl
theorem bin_ev (op a b : Int) : Ev (fun k => word_Bin.f k op a b) (binV op a b) := ⟨1, fun k hk => by
  obtain ⟨m, rfl⟩ : ∃ m, k = m + 1 := ⟨k - 1, by omega⟩
  exact bin_is m op a b⟩

theorem lives_at : brazierlaw01_lives.f 40 = some true := by decide +kernel
theorem lives_ev : Ev (fun k => brazierlaw01_lives.f k) true := Ev.of brazierlaw01_lives.mono lives_at
end Go.Proofs.Ytfpaigfknohhfaa.Pure
