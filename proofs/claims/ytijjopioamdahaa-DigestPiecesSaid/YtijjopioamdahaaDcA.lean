/- The CRC's register, plain: steps of a number of any length; no Go, no program. -/
import Derived.RowKit
namespace Go.Proofs.Ytijjopioamdahaa.C
/-- One bit more: the number goes down by one bit, the polynomial is laid over it when a 1 goes out. -/
def stepN (r : Nat) : Nat := if r % 2 = 1 then (r / 2) ^^^ 3988292384 else r / 2
def stepsN : Nat → Nat → Nat
  | 0, r => r
  | n + 1, r => stepsN n (stepN r)
def byteN (r c : Nat) : Nat := stepsN 8 (r ^^^ c)
def regN (r : Nat) : List Nat → Nat
  | [] => r
  | c :: l => regN (byteN r c) l
theorem regN_append (r : Nat) (a b : List Nat) : regN r (a ++ b) = regN (regN r a) b := by
  induction a generalizing r with
  | nil => rfl
  | cons c a ih => exact ih _
theorem xor_half (a b : Nat) : (a ^^^ b) / 2 = a / 2 ^^^ b / 2 := by
  apply Nat.eq_of_testBit_eq
  intro i
  rw [Nat.testBit_div_two, Nat.testBit_xor, Nat.testBit_xor, Nat.testBit_div_two, Nat.testBit_div_two]
theorem xor_odd (a b : Nat) : (a ^^^ b) % 2 = (a % 2 + b % 2) % 2 := by
  have h : ((a ^^^ b) % 2 = 1) ↔ ¬ ((a % 2 = 1) ↔ (b % 2 = 1)) := Nat.xor_mod_two_eq_one
  have h1 := Nat.mod_two_eq_zero_or_one (a ^^^ b)
  have h2 := Nat.mod_two_eq_zero_or_one a
  have h3 := Nat.mod_two_eq_zero_or_one b
  omega
theorem xor_nil {a b : Nat} (h : a ^^^ b = 0) : a = b := by
  have h2 := congrArg (fun x => x ^^^ b) h
  simpa only [Nat.xor_assoc, Nat.xor_self, Nat.xor_zero, Nat.zero_xor] using h2
theorem add_xor {i b : Nat} (h : b < 2 ^ i) (a : Nat) : 2 ^ i * a + b = 2 ^ i * a ^^^ b := by
  apply Nat.eq_of_testBit_eq
  intro j
  rw [Nat.testBit_xor, Nat.testBit_two_pow_mul_add a h, Nat.testBit_two_pow_mul]
  by_cases hj : j < i
  · rw [if_pos hj, decide_eq_false (by omega)]; simp
  · rw [if_neg hj, decide_eq_true (by omega), Nat.testBit_lt_two_pow (x := b) (Nat.lt_of_lt_of_le h (Nat.pow_le_pow_right (by decide) (by omega)))]; simp
theorem stepN_xor (a b : Nat) : stepN (a ^^^ b) = stepN a ^^^ stepN b := by
  unfold stepN
  rw [xor_half, xor_odd]
  rcases Nat.mod_two_eq_zero_or_one a with h | h <;> rcases Nat.mod_two_eq_zero_or_one b with h' | h' <;> simp [h, h']
  · ac_rfl
  · ac_rfl
  · rw [Nat.xor_comm (b / 2), Nat.xor_assoc (a / 2), ← Nat.xor_assoc 3988292384, Nat.xor_self, Nat.zero_xor]
theorem stepsN_xor (n a b : Nat) : stepsN n (a ^^^ b) = stepsN n a ^^^ stepsN n b := by
  induction n generalizing a b with
  | zero => rfl
  | succ n ih => rw [stepsN, stepsN, stepsN, stepN_xor, ih]
theorem stepN_twice (x : Nat) : stepN (2 * x) = x := by unfold stepN; rw [if_neg (by omega)]; omega
theorem stepsN_up (n x : Nat) : stepsN n (x * 2 ^ n) = x := by
  induction n generalizing x with
  | zero => simp [stepsN]
  | succ n ih => rw [stepsN, show x * 2 ^ (n + 1) = 2 * (x * 2 ^ n) by rw [Nat.pow_succ]; ac_rfl, stepN_twice, ih]
theorem stepsN_add (m n x : Nat) : stepsN (m + n) x = stepsN n (stepsN m x) := by
  induction m generalizing x with
  | zero => rw [Nat.zero_add]; rfl
  | succ m ih => rw [show m + 1 + n = (m + n) + 1 by omega, stepsN, stepsN, ih]
theorem stepN_lt (x : Nat) (h : x < 2 ^ 32) : stepN x < 2 ^ 32 := by
  unfold stepN
  split
  · exact Nat.xor_lt_two_pow (by omega) (by decide)
  · omega
theorem stepsN_lt (n x : Nat) (h : x < 2 ^ 32) : stepsN n x < 2 ^ 32 := by
  induction n generalizing x with
  | zero => exact h
  | succ n ih => exact ih _ (stepN_lt x h)
theorem stepN_zero (x : Nat) (h : x < 2 ^ 32) (h0 : stepN x = 0) : x = 0 := by
  unfold stepN at h0
  split at h0
  · have : x / 2 = 3988292384 := xor_nil h0
    omega
  · omega
theorem stepsN_zero (n x : Nat) (h : x < 2 ^ 32) (h0 : stepsN n x = 0) : x = 0 := by
  induction n generalizing x with
  | zero => exact h0
  | succ n ih => exact stepN_zero x h (ih _ (stepN_lt x h) h0)
theorem stepsN_nil (n : Nat) : stepsN n 0 = 0 := by
  induction n with
  | zero => rfl
  | succ n ih => exact ih
theorem byteN_lt (r c : Nat) (h : r < 2 ^ 32) (hc : c < 256) : byteN r c < 2 ^ 32 := stepsN_lt _ _ (Nat.xor_lt_two_pow h (by omega))
theorem regN_lt (r : Nat) (l : List Nat) (h : r < 2 ^ 32) (hl : ∀ c ∈ l, c < 256) : regN r l < 2 ^ 32 := by
  induction l generalizing r with
  | nil => exact h
  | cons c l ih => exact ih _ (byteN_lt r c h (hl c (by simp))) (fun x hx => hl x (by simp [hx]))
/-- Bytes as one number, the lowest first. -/
def numOf : List Nat → Nat
  | [] => 0
  | c :: l => c + 256 * numOf l
theorem xor_high (c x : Nat) (h : c < 256) : c + 256 * x = c ^^^ (x * 2 ^ 8) := by
  rw [Nat.xor_comm, Nat.mul_comm x, ← add_xor (i := 8) (b := c) (by omega) x]
  omega
theorem regN_cons (r c : Nat) (l : List Nat) : regN r (c :: l) = regN (byteN r c) l := rfl
theorem numOf_cons (c : Nat) (l : List Nat) (h : c < 256) : numOf (c :: l) = c ^^^ numOf l * 2 ^ 8 := xor_high _ _ h
theorem byteN_is (r c : Nat) : byteN r c = stepsN 8 (r ^^^ c) := rfl
theorem regN_num (l : List Nat) (hl : ∀ c ∈ l, c < 256) : ∀ r, regN r l = stepsN (8 * l.length) (r ^^^ numOf l) := by
  induction l with
  | nil => intro r; rw [numOf, Nat.xor_zero, List.length_nil, Nat.mul_zero]; rfl
  | cons c l ih =>
    intro r
    have e3 : stepsN 8 (r ^^^ numOf (c :: l)) = byteN r c ^^^ numOf l := by
      rw [numOf_cons c l (hl c (List.mem_cons_self ..)), ← Nat.xor_assoc, stepsN_xor 8 (r ^^^ c) (numOf l * 2 ^ 8), stepsN_up 8 (numOf l), byteN_is]
    have e4 : stepsN (8 * (c :: l).length) (r ^^^ numOf (c :: l)) = stepsN (8 * l.length) (stepsN 8 (r ^^^ numOf (c :: l))) := by
      rw [← stepsN_add, List.length_cons, Nat.mul_succ, Nat.add_comm]
    rw [regN_cons, ih (fun x hx => hl x (List.mem_cons_of_mem _ hx)), e4, e3]
theorem set_num (l : List Nat) (hl : ∀ c ∈ l, c < 256) (k : Nat) (hk : k < 8 * l.length) : numOf (l.set (k / 8) (l.getD (k / 8) 0 ^^^ 2 ^ (k % 8))) = numOf l ^^^ 2 ^ k := by
  induction l generalizing k with
  | nil => simp at hk
  | cons c l ih =>
    have hc : c < 256 := hl c (by simp)
    rcases Nat.lt_or_ge k 8 with h8 | h8
    · rw [show k / 8 = 0 by omega, show k % 8 = k by omega]
      have hp : (2 : Nat) ^ k < 256 := by
        have : (2 : Nat) ^ k < 2 ^ 8 := Nat.pow_lt_pow_right (by decide) h8
        omega
      simp only [List.set_cons_zero, List.getD_cons_zero, numOf]
      rw [xor_high _ _ (Nat.xor_lt_two_pow (n := 8) hc hp), xor_high _ _ hc]
      ac_rfl
    · obtain ⟨j, rfl⟩ : ∃ j, k = j + 8 := ⟨k - 8, by omega⟩
      rw [show (j + 8) / 8 = j / 8 + 1 by omega, show (j + 8) % 8 = j % 8 by omega]
      simp only [List.set_cons_succ, List.getD_cons_succ, numOf]
      rw [ih (fun x hx => hl x (by simp [hx])) j (by simp at hk; omega), xor_high _ _ hc, xor_high _ _ hc]
      rw [show (numOf l ^^^ 2 ^ j) * 2 ^ 8 = numOf l * 2 ^ 8 ^^^ 2 ^ (j + 8) by
        rw [Nat.pow_add, ← Nat.shiftLeft_eq, ← Nat.shiftLeft_eq, ← Nat.shiftLeft_eq, Nat.shiftLeft_xor_distrib]]
      ac_rfl
/-- Turned within 32 bits: the register tells it. -/
theorem turned_reg (b c : List Nat) (hb : ∀ x ∈ b, x < 256) (hc : ∀ x ∈ c, x < 256) (hl : c.length = b.length) (r m s : Nat) (hm : m < 2 ^ 32) (hs : s ≤ 8 * b.length)
    (h : numOf c = numOf b ^^^ (m * 2 ^ s)) : (regN r c = regN r b) ↔ m = 0 := by
  rw [regN_num c hc r, regN_num b hb r, hl, h, ← Nat.xor_assoc, stepsN_xor _ (r ^^^ numOf b)]
  have h2 : stepsN (8 * b.length) (m * 2 ^ s) = stepsN (8 * b.length - s) m := by
    rw [show 8 * b.length = s + (8 * b.length - s) by omega, stepsN_add, stepsN_up, show s + (8 * b.length - s) - s = 8 * b.length - s by omega]
  rw [h2]
  constructor
  · intro h3
    refine stepsN_zero (8 * b.length - s) _ hm ?_
    have h4 := congrArg (fun x => stepsN (8 * b.length) (r ^^^ numOf b) ^^^ x) h3
    simp only [← Nat.xor_assoc, Nat.xor_self, Nat.zero_xor] at h4
    exact h4
  · rintro rfl
    rw [stepsN_nil, Nat.xor_zero]
/-- The document's way: bit by bit. -/
def refBit (r b : Nat) : Nat := if r % 2 = b then r / 2 else (r / 2) ^^^ 3988292384
theorem refBit_is (r b : Nat) (hb : b < 2) : refBit r b = stepN (r ^^^ b) := by
  unfold refBit stepN
  rw [xor_half, xor_odd, show b / 2 = 0 by omega, Nat.xor_zero]
  have := Nat.mod_two_eq_zero_or_one r
  by_cases h : r % 2 = b
  · rw [if_pos h, if_neg (by omega)]
  · rw [if_neg h, if_pos (by omega)]
def refN (c : Nat) : Nat → Nat → Nat → Nat
  | 0, _, r => r
  | n + 1, i, r => refN c n (i + 1) (refBit r (c / 2 ^ i % 2))
theorem refN_is (c n i r : Nat) (h : c / 2 ^ (i + n) = 0) : refN c n i r = stepsN n (r ^^^ c / 2 ^ i) := by
  induction n generalizing i r with
  | zero => rw [refN, show c / 2 ^ i = 0 from h, Nat.xor_zero]; rfl
  | succ n ih =>
    rw [refN, ih (i + 1) _ (by rw [show i + 1 + n = i + (n + 1) by omega]; exact h), stepsN, refBit_is _ _ (by omega)]
    congr 1
    have e : c / 2 ^ i = (c / 2 ^ i % 2) ^^^ (2 * (c / 2 ^ (i + 1))) := by
      rw [Nat.pow_succ, ← Nat.div_div_eq_div_mul]
      generalize c / 2 ^ i = x
      have h1 := add_xor (i := 1) (b := x % 2) (by omega) (x / 2)
      rw [Nat.xor_comm, show (2 : Nat) = 2 ^ 1 by rfl, ← h1]
      omega
    rw [show stepN (r ^^^ c / 2 ^ i) = stepN ((r ^^^ (c / 2 ^ i % 2)) ^^^ (2 * (c / 2 ^ (i + 1)))) by rw [Nat.xor_assoc, ← e], stepN_xor _ (2 * _), stepN_twice]
theorem refByte (r c : Nat) (h : c < 256) : refN c 8 0 r = byteN r c := by
  rw [refN_is c 8 0 r (by rw [Nat.zero_add]; omega), Nat.pow_zero, Nat.div_one]
  rfl
end Go.Proofs.Ytijjopioamdahaa.C
