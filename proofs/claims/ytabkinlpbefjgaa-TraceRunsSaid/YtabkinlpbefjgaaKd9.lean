/- Texts of this seat that a claim bears, put together by this session's own program shake.py: TrB, TrC, TrI. -/
import Derived.Test.YtabkinlpbefjgaaKps
import Derived.Test.YtabkinlpbefjgaaKd2
import Derived.Test.YtabkinlpbefjgaaKd8
import Derived.Test.YtabkinlpbefjgaaKd7
namespace Go.Proofs.Ytabkinlpbefjgaa.Pure
open Go.RowKit Go.Proofs.Ytabkinlpbefjgaa.X Go.Proofs.YtabkinlpbefjgaaW.PrintWords Go.Proofs.YtabkinlpbefjgaaW.PrintLast
theorem bits_31 (y : Int) : Go.bits .and .u32 (y % 4294967296) 31 = y % 32 := by
  rw [Go.u32_and _ _ (by omega) (by omega) (by decide) (by decide)]
  have h : ((31 : Int).toNat) = 31 := rfl
  rw [h, Go.nat_mask5]
  omega
def binV (op a b : Int) : Int × Bool :=
  if op = 1 then (wrap32 (a + b), true) else if op = 2 then (wrap32 (a - b), true) else if op = 3 then (wrap32 (a * b), true)
  else if op = 4 then (if b = 0 then (0, false) else (wrap32 (Int.tdiv a b), true))
  else if op = 5 then (if b = 0 then (0, false) else (Int.tmod a b, true))
  else if op = 6 then (wrap32 (a * 2 ^ (b % 32).toNat), true)
  else if op = 7 then (a / 2 ^ (b % 32).toNat, true)
  else if op = 8 then (Go.bits .and .i32 a b, true) else if op = 9 then (Go.bits .or .i32 a b, true) else if op = 10 then (Go.bits .xor .i32 a b, true)
  else if op = 11 then (if a < b then 1 else 0, true) else if op = 12 then (if a ≤ b then 1 else 0, true)
  else if op = 13 then (if b < a then 1 else 0, true) else if op = 14 then (if b ≤ a then 1 else 0, true)
  else if op = 15 then (if a = b then 1 else 0, true) else if op = 16 then (if a = b then 0 else 1, true)
  else if op = 17 then (if a = 0 ∨ b = 0 then 0 else 1, true) else if op = 18 then (if a = 0 ∧ b = 0 then 0 else 1, true)
  else (0, false)
theorem divide_is (a b : Int) (h : b ≠ 0) : word_divide.f a b = some (wrap32 (Int.tdiv a b), Int.tmod a b) := by
  unfold word_divide.f
  by_cases h1 : a = -2147483648
  · rw [if_pos h1]
    by_cases h2 : b = -1
    · rw [if_pos h2]; subst h1; subst h2; decide +kernel
    · rw [if_neg h2, if_neg h]
  · rw [if_neg h1, if_neg h]
theorem compare_is (op a b : Int) (h : op < 1 ∨ 10 < op) : word_compare.f op a b = some (binV op a b) := by
  have e : binV op a b = if op = 11 then (if a < b then 1 else 0, true) else if op = 12 then (if a ≤ b then 1 else 0, true)
      else if op = 13 then (if b < a then 1 else 0, true) else if op = 14 then (if b ≤ a then 1 else 0, true)
      else if op = 15 then (if a = b then 1 else 0, true) else if op = 16 then (if a = b then 0 else 1, true)
      else if op = 17 then (if a = 0 ∨ b = 0 then 0 else 1, true) else if op = 18 then (if a = 0 ∧ b = 0 then 0 else 1, true) else (0, false) := by
    unfold binV
    repeat (rw [if_neg (by omega)])
  rw [e]
  unfold word_compare.f word_truth.f
  by_cases h11 : op = 11
  · simp only [if_pos h11]; by_cases c : a < b <;> simp [c]
  by_cases h12 : op = 12
  · simp only [if_neg h11, if_pos h12]; by_cases c : a ≤ b <;> simp [c]
  by_cases h13 : op = 13
  · simp only [if_neg h11, if_neg h12, if_pos h13]; by_cases c : b < a <;> simp [c]
  by_cases h14 : op = 14
  · simp only [if_neg h11, if_neg h12, if_neg h13, if_pos h14]; by_cases c : b ≤ a <;> simp [c]
  by_cases h15 : op = 15
  · simp only [if_neg h11, if_neg h12, if_neg h13, if_neg h14, if_pos h15]; by_cases c : a = b <;> simp [c]
  by_cases h16 : op = 16
  · simp only [if_neg h11, if_neg h12, if_neg h13, if_neg h14, if_neg h15, if_pos h16]; by_cases c : a = b <;> simp [c]
  by_cases h17 : op = 17
  · simp only [if_neg h11, if_neg h12, if_neg h13, if_neg h14, if_neg h15, if_neg h16, if_pos h17]
    by_cases c : a = 0 <;> by_cases d : b = 0 <;> simp [c, d]
  by_cases h18 : op = 18
  · simp only [if_neg h11, if_neg h12, if_neg h13, if_neg h14, if_neg h15, if_neg h16, if_neg h17, if_pos h18]
    by_cases c : a = 0 <;> by_cases d : b = 0 <;> simp [c, d]
  simp only [if_neg h11, if_neg h12, if_neg h13, if_neg h14, if_neg h15, if_neg h16, if_neg h17, if_neg h18]
theorem shl_is (a y : Int) : shl .i32 a (y % 32) = wrap32 (a * 2 ^ (y % 32).toNat) := by
  unfold shl
  rw [i32_wrap, Nat.min_eq_left (by simp [IntKind.bits]; omega)]
theorem shr_is (a y : Int) : shr .i32 a (y % 32) = a / 2 ^ (y % 32).toNat := by
  unfold shr
  rw [Nat.min_eq_left (by simp [IntKind.bits]; omega)]
theorem bin_is (k : Nat) (op a b : Int) : word_Bin.f (k + 1) op a b = some (binV op a b) := by
  unfold word_Bin.f
  by_cases h1 : op = 1
  · subst h1; simp [binV]
  by_cases h2 : op = 2
  · subst h2; simp [binV]
  by_cases h3 : op = 3
  · subst h3; simp [binV]
  rw [if_neg h1, if_neg h2, if_neg h3]
  by_cases h4 : op = 4
  · subst h4
    simp only [word_Bin.j0, if_pos, binV]
    by_cases hb : b = 0
    · simp [hb]
    · simp [hb, divide_is a b hb]
  rw [if_neg h4]
  by_cases h5 : op = 5
  · subst h5
    simp only [word_Bin.j0, binV]
    by_cases hb : b = 0
    · simp [hb]
    · simp [hb, divide_is a b hb]
  have e5 : (op == 5) = false := beq_eq_false_iff_ne.mpr h5
  simp only [word_Bin.j0, e5, Bool.false_eq_true, if_false, bits_31]
  have hn : (0 : Int) ≤ b % 32 := by omega
  by_cases h6 : op = 6
  · subst h6; simp [binV, shl_is, hn]
  by_cases h7 : op = 7
  · subst h7; simp [binV, shr_is, hn]
  by_cases h8 : op = 8
  · subst h8; simp [binV]
  by_cases h9 : op = 9
  · subst h9; simp [binV]
  by_cases h10 : op = 10
  · subst h10; simp [binV]
  rw [if_neg h6, if_neg h7, if_neg h8, if_neg h9, if_neg h10, compare_is op a b (by omega)]
  rfl
end Go.Proofs.Ytabkinlpbefjgaa.Pure

namespace Go.Proofs.Ytabkinlpbefjgaa.Pure
open Go.RowKit Go.Proofs.Ytabkinlpbefjgaa.X Go.Proofs.YtabkinlpbefjgaaW.PrintWords Go.Proofs.YtabkinlpbefjgaaW.PrintLast
theorem round_is (n : Int) (h0 : -9223372036854775808 ≤ n) (h1 : n ≤ 9223372036854775807) : brazierref01_Round.f n = some (wrap32 n) := by
  unfold brazierref01_Round.f
  obtain ⟨m, hm, hs⟩ : ∃ m, Int.tmod n 4294967296 = m ∧ (m % 4294967296 = n % 4294967296 ∧ -4294967296 < m ∧ m < 4294967296) := by
    refine ⟨_, rfl, ?_⟩
    by_cases c : 0 ≤ n
    · rw [tmod_nn c]; omega
    · rw [tmod_neg', tmod_nn (by omega)]; omega
  rw [hm]
  unfold wrap32 wrap64
  split
  · split <;> (congr 1; omega)
  · split <;> (congr 1; omega)
theorem bits_is (x : Int) (h : -2147483648 ≤ x ∧ x ≤ 2147483647) : brazierref01_bits.f x = some (nat32 x : Int) := by
  unfold brazierref01_bits.f
  rw [nat32_cast]
  by_cases c : x < 0
  · rw [if_pos c, w64 (n := x) (by omega) (by omega), w64 (by omega) (by omega)]; congr 1; omega
  · rw [if_neg c, w64 (by omega) (by omega)]; congr 1; omega
theorem floor_is (a k : Int) (ha : -2147483648 ≤ a ∧ a ≤ 2147483647) (hk : 1 ≤ k) (hk2 : k ≤ 2147483648) : brazierref01_floor.f a k = some (a / k) := by
  unfold brazierref01_floor.f
  have hq := Int.mul_ediv_add_emod a k
  have h0 := Int.emod_nonneg a (show k ≠ 0 by omega)
  have h1 := Int.emod_lt_of_pos a (show 0 < k by omega)
  have hb : -2147483648 ≤ a / k ∧ a / k ≤ 2147483647 := by
    constructor
    · rw [Int.le_ediv_iff_mul_le (by omega)]
      omega
    · rcases Int.lt_or_le a 0 with c | c
      · have := Int.ediv_neg_of_neg_of_pos c (show 0 < k by omega); omega
      · have := Int.ediv_le_self k c; omega
  have hqr : Int.tdiv a k = a / k ∨ (Int.tdiv a k = a / k + 1 ∧ a < (a / k + 1) * k ∧ a < 0) := by
    rw [Int.tdiv_eq_ediv]
    by_cases c : 0 ≤ a ∨ k ∣ a
    · simp [c]
    · right
      have hneg : a < 0 := by omega
      simp only [c, if_false]
      refine ⟨by rw [Int.sign_eq_one_of_pos (by omega)], ?_, hneg⟩
      rw [Int.add_mul, Int.one_mul, Int.mul_comm (a / k) k]; omega
  rw [if_neg (by omega)]
  have hm : (a / k) * k = k * (a / k) := Int.mul_comm _ _
  have hlo : -2147483648 - 2147483648 ≤ k * (a / k) := by omega
  rcases hqr with e | ⟨e, hlt, hneg⟩
  · rw [e, w64 (n := a / k) (by omega) (by omega), w64 (n := a / k * k) (by omega) (by omega), if_neg (by omega)]
  · rw [e, w64 (n := a / k + 1) (by omega) (by omega)]
    have hx : (a / k + 1) * k = k * (a / k) + k := by rw [Int.add_mul, Int.one_mul, hm]
    rw [hx] at hlt ⊢
    rw [w64 (n := k * (a / k) + k) (by omega) (by omega), if_pos (by omega), w64 (by omega) (by omega)]
    congr 1; omega
theorem truth_is (c : Bool) : brazierref01_truth.f c = some (if c = true then 1 else 0) := by
  unfold brazierref01_truth.f; cases c <;> rfl
theorem tdiv_bd (a b : Int) (ha : -2147483648 ≤ a ∧ a ≤ 2147483647) : -2147483648 ≤ Int.tdiv a b ∧ Int.tdiv a b ≤ 2147483648 := by
  have h := Int.natAbs_tdiv_le_natAbs a b
  omega
theorem tmod_bd (a b : Int) (ha : -2147483648 ≤ a ∧ a ≤ 2147483647) : -2147483648 ≤ Int.tmod a b ∧ Int.tmod a b ≤ 2147483647 := by
  have h := Int.natAbs_tmod a b
  have h2 := Nat.mod_le a.natAbs b.natAbs
  rcases Int.lt_or_le a 0 with c | c
  · have h1 := Int.tmod_nonneg b (show 0 ≤ -a by omega)
    have h3 := tmod_neg' (a := a) (b := b)
    omega
  · omega
theorem bin_end (k : Nat) (op x y : Int) (hx : -2147483648 ≤ x ∧ x ≤ 2147483647) (hy : -2147483648 ≤ y ∧ y ≤ 2147483647) :
    brazierref01_Bin.l1 (k + 1) op x y x y (2 ^ (y % 32).toNat) ((nat32 x &&& nat32 y : Nat) : Int) ((nat32 x ||| nat32 y : Nat) : Int) 4294967296 32 = some (binV op x y) := by
  have hp0 : (1 : Int) ≤ 2 ^ (y % 32).toNat := Int.pow_pos (by decide)
  have hp1 : (2 : Int) ^ (y % 32).toNat ≤ 2147483648 := by
    have h1 : (y % 32).toNat ≤ 31 := by omega
    have h2 : (2 : Nat) ^ (y % 32).toNat ≤ 2 ^ 31 := Nat.pow_le_pow_right (by decide) h1
    have h3 : ((2 ^ (y % 32).toNat : Nat) : Int) ≤ ((2 ^ 31 : Nat) : Int) := by exact_mod_cast h2
    simpa using h3
  have hand := Nat.and_lt_two_pow (nat32 x) (n := 32) (nat32_lt y)
  have hor := Nat.or_lt_two_pow (n := 32) (nat32_lt x) (nat32_lt y)
  have hox := or_and_xor (nat32 x) (nat32 y)
  have hm : -4611686018427387904 ≤ x * y ∧ x * y ≤ 4611686018427387904 := by
    have h := Int.natAbs_mul x y
    have h2 : x.natAbs * y.natAbs ≤ 2147483648 * 2147483648 := Nat.mul_le_mul (by omega) (by omega)
    omega
  have hmp : -4611686018427387904 ≤ x * 2 ^ (y % 32).toNat ∧ x * 2 ^ (y % 32).toNat ≤ 4611686018427387904 := by
    have h := Int.natAbs_mul x (2 ^ (y % 32).toNat)
    have h2 : x.natAbs * ((2 : Int) ^ (y % 32).toNat).natAbs ≤ 2147483648 * 2147483648 := Nat.mul_le_mul (by omega) (by omega)
    omega
  have htd := tdiv_bd x y hx
  have htm := tmod_bd x y hx
  have hrem : x - Int.tdiv x y * y = Int.tmod x y := by rw [Int.tmod_def, Int.mul_comm]
  obtain ⟨p, hp⟩ : ∃ p : Int, 2 ^ (y % 32).toNat = p := ⟨_, rfl⟩
  rw [hp] at hp0 hp1 hmp ⊢
  simp only [brazierref01_Bin.l1]
  rw [if_neg (by decide)]
  by_cases h1 : op = 1
  · subst h1; rw [if_pos rfl, w64 (by omega) (by omega), round_is _ (by omega) (by omega)]; simp [binV]
  by_cases h2 : op = 2
  · subst h2; rw [if_neg (by decide), if_pos rfl, w64 (by omega) (by omega), round_is _ (by omega) (by omega)]; simp [binV]
  by_cases h3 : op = 3
  · subst h3; rw [if_neg (by decide), if_neg (by decide), if_pos rfl, w64 (by omega) (by omega), round_is _ (by omega) (by omega)]; simp [binV]
  rw [if_neg h1, if_neg h2, if_neg h3]
  by_cases h4 : op = 4
  · subst h4
    rw [if_pos rfl]
    by_cases hb : y = 0
    · simp [hb, binV]
    · rw [if_neg hb, w64 (by omega) (by omega), round_is _ (by omega) (by omega)]; simp [binV, hb]
  by_cases h5 : op = 5
  · subst h5
    rw [if_neg (by decide), if_pos rfl]
    by_cases hb : y = 0
    · simp [hb, binV]
    · rw [if_neg hb, w64 (n := Int.tdiv x y) (by omega) (by omega)]
      have hq : -9223372036854775808 ≤ Int.tdiv x y * y ∧ Int.tdiv x y * y ≤ 9223372036854775807 := by omega
      rw [w64 hq.1 hq.2, hrem, w64 (by omega) (by omega), round_is _ (by omega) (by omega)]
      simp [binV, hb, w32 htm.1 htm.2]
  rw [if_neg h4, if_neg h5]
  by_cases h6 : op = 6
  · subst h6; rw [if_pos rfl, w64 (by omega) (by omega), round_is _ (by omega) (by omega)]; simp [binV, hp]
  by_cases h7 : op = 7
  · subst h7
    rw [if_neg (by decide), if_pos rfl, floor_is x p hx hp0 hp1]
    have hb : -2147483648 ≤ x / p ∧ x / p ≤ 2147483647 := by
      constructor
      · rw [Int.le_ediv_iff_mul_le (by omega)]; omega
      · rcases Int.lt_or_le x 0 with c | c
        · have := Int.ediv_neg_of_neg_of_pos c (show 0 < p by omega); omega
        · have := Int.ediv_le_self p c; omega
    simp only [Option.bind_some]
    rw [round_is _ (by omega) (by omega), w32 hb.1 hb.2]; simp [binV, hp]
  rw [if_neg h6, if_neg h7]
  by_cases h8 : op = 8
  · subst h8; rw [if_pos rfl, round_is _ (by omega) (by omega)]; simp [binV, bits_and_nat]
  by_cases h9 : op = 9
  · subst h9; rw [if_neg (by decide), if_pos rfl, round_is _ (by omega) (by omega)]; simp [binV, bits_or_nat]
  by_cases h10 : op = 10
  · subst h10
    have he : (((nat32 x ||| nat32 y : Nat) : Int) - ((nat32 x &&& nat32 y : Nat) : Int)) = ((nat32 x ^^^ nat32 y : Nat) : Int) := by omega
    rw [if_neg (by decide), if_neg (by decide), if_pos rfl, w64 (by omega) (by omega), round_is _ (by omega) (by omega), he]; simp [binV, bits_xor_nat]
  rw [if_neg h8, if_neg h9, if_neg h10]
  by_cases h11 : op = 11
  · subst h11; by_cases c : x < y <;> simp [truth_is, binV, c]
  by_cases h12 : op = 12
  · subst h12; by_cases c : x ≤ y <;> simp [truth_is, binV, c]
  by_cases h13 : op = 13
  · subst h13; by_cases c : y < x <;> simp [truth_is, binV, c]
  by_cases h14 : op = 14
  · subst h14; by_cases c : y ≤ x <;> simp [truth_is, binV, c]
  by_cases h15 : op = 15
  · subst h15; by_cases c : x = y <;> simp [truth_is, binV, c]
  by_cases h16 : op = 16
  · subst h16; by_cases c : x = y <;> simp [truth_is, binV, c]
  by_cases h17 : op = 17
  · subst h17
    rw [w64 (n := x * y) (by omega) (by omega)]
    by_cases c : x = 0 <;> by_cases d : y = 0 <;> simp [truth_is, binV, c, d]
  by_cases h18 : op = 18
  · subst h18; by_cases c : x = 0 <;> by_cases d : y = 0 <;> simp [truth_is, binV, c, d]
  rw [if_neg h11, if_neg h12, if_neg h13, if_neg h14, if_neg h15, if_neg h16, if_neg h17, if_neg h18]
  unfold binV
  repeat (rw [if_neg (by assumption)])
theorem half_is (X T : Nat) (hX : X < 4294967296) : Int.tmod (wrap64 (Int.tdiv (X : Int) (T : Int))) 2 = ((X / T % 2 : Nat) : Int) := by
  rw [tdiv_nn (by omega), ← Int.natCast_ediv]
  have hd : X / T ≤ X := Nat.div_le_self _ _
  generalize X / T = q at *
  rw [w64 (by omega) (by omega), tmod_nn (by omega)]
  omega
theorem add_w {A B : Int} (h0 : -9223372036854775808 ≤ B) (h1 : B ≤ 9223372036854775807) (h2 : -9223372036854775808 ≤ A + B) (h3 : A + B ≤ 9223372036854775807) : wrap64 (A + wrap64 B) = A + B := by
  rw [w64 h0 h1, w64 h2 h3]
theorem l1_congr (k : Nat) (op x y : Int) {p a a' o o' t t' i : Int} (ha : a = a') (ho : o = o') (ht : t = t') : brazierref01_Bin.l1 k op x y x y p a o t i = brazierref01_Bin.l1 k op x y x y p a' o' t' i := by rw [ha, ho, ht]
theorem l0_congr (k : Nat) (op x y : Int) {p p' i i' : Int} (ha : p = p') (ho : i = i') : brazierref01_Bin.l0 k op x y x y p i = brazierref01_Bin.l0 k op x y x y p' i' := by rw [ha, ho]
theorem bin_l1 (op x y : Int) (hx : -2147483648 ≤ x ∧ x ≤ 2147483647) (hy : -2147483648 ≤ y ∧ y ≤ 2147483647) (d : Nat) : ∀ (k i : Nat), i + d = 32 → d < k →
    brazierref01_Bin.l1 k op x y x y (2 ^ (y % 32).toNat) (((nat32 x &&& nat32 y) % 2 ^ i : Nat) : Int) (((nat32 x ||| nat32 y) % 2 ^ i : Nat) : Int) ((2 ^ i : Nat) : Int) (i : Int) = some (binV op x y) := by
  induction d with
  | zero =>
    intro k i hi hk
    obtain ⟨k, rfl⟩ : ∃ m, k = m + 1 := ⟨k - 1, by omega⟩
    obtain rfl : i = 32 := by omega
    have h := bin_end k op x y hx hy
    have e1 := Nat.mod_eq_of_lt (Nat.and_lt_two_pow (nat32 x) (n := 32) (nat32_lt y))
    have e2 := Nat.mod_eq_of_lt (Nat.or_lt_two_pow (n := 32) (nat32_lt x) (nat32_lt y))
    have e3 : ((2 ^ 32 : Nat) : Int) = 4294967296 := by decide
    have e4 : ((32 : Nat) : Int) = 32 := rfl
    rw [e1, e2, e3, e4]
    with_reducible exact h
  | succ d ih =>
    intro k i hi hk
    obtain ⟨k, rfl⟩ : ∃ m, k = m + 1 := ⟨k - 1, by omega⟩
    have h := ih k (i + 1) (by omega) (by omega)
    simp only [brazierref01_Bin.l1]
    have hp0 : 0 < 2 ^ i := Nat.pow_pos (by decide)
    have hp1 : 2 ^ i ≤ 2147483648 := by
      have := Nat.pow_le_pow_right (show 0 < 2 by decide) (show i ≤ 31 by omega)
      simpa using this
    rw [if_pos (by omega), bits_is x hx, bits_is y hy]
    simp only [Option.bind_some]
    rw [if_neg (by omega)]
    rw [half_is _ _ (nat32_lt x), half_is _ _ (nat32_lt y)]
    have ha := mod_more (nat32 x &&& nat32 y) i
    have ho := mod_more (nat32 x ||| nat32 y) i
    rw [bit_and] at ha
    rw [bit_or] at ho
    have hla := Nat.mod_lt (nat32 x &&& nat32 y) hp0
    have hlo := Nat.mod_lt (nat32 x ||| nat32 y) hp0
    have hps : 2 ^ (i + 1) = 2 ^ i * 2 := Nat.pow_succ ..
    rw [ha, ho, hps] at h
    generalize (nat32 x &&& nat32 y) % 2 ^ i = A at *
    generalize (nat32 x ||| nat32 y) % 2 ^ i = O at *
    have hb1 := Nat.mod_two_eq_zero_or_one (nat32 x / 2 ^ i)
    have hb2 := Nat.mod_two_eq_zero_or_one (nat32 y / 2 ^ i)
    generalize nat32 x / 2 ^ i % 2 = p at *
    generalize nat32 y / 2 ^ i % 2 = q at *
    generalize 2 ^ i = T at *
    clear ha ho hps ih
    have ei : wrap64 ((i : Int) + 1) = ((i + 1 : Nat) : Int) := by rw [w64 (by omega) (by omega)]; rfl
    rw [ei]
    have z0 : wrap64 0 = 0 := by unfold wrap64; decide
    have z1 : wrap64 1 = 1 := by unfold wrap64; decide
    have z2 : wrap64 2 = 2 := by unfold wrap64; decide
    rcases hb1 with rfl | rfl <;> rcases hb2 with rfl | rfl <;> simp only [Int.natCast_zero, Int.natCast_one, Int.mul_zero, Int.mul_one, Int.add_zero, Int.zero_add, Int.sub_zero, Int.reduceAdd, Int.reduceSub, Nat.zero_mul, Nat.one_mul, Nat.mul_zero, Nat.mul_one, Nat.add_zero, Nat.zero_add, Nat.sub_zero, Nat.reduceAdd, Nat.reduceSub, z0, z1, z2] at h ⊢ <;> (refine Eq.trans (l1_congr _ _ _ _ ?_ ?_ ?_) h <;> first | (rw [add_w (by omega) (by omega) (by omega) (by omega)]; omega) | (rw [w64 (by omega) (by omega)]; omega))
theorem bin_l0 (op x y : Int) (hx : -2147483648 ≤ x ∧ x ≤ 2147483647) (hy : -2147483648 ≤ y ∧ y ≤ 2147483647) (d : Nat) : ∀ (k i : Nat), i + d = (y % 32).toNat → d + 33 < k →
    brazierref01_Bin.l0 k op x y x y ((2 ^ i : Nat) : Int) (i : Int) = some (binV op x y) := by
  induction d with
  | zero =>
    intro k i hi hk
    obtain ⟨k, rfl⟩ : ∃ m, k = m + 1 := ⟨k - 1, by omega⟩
    simp only [brazierref01_Bin.l0]
    rw [bits_is y hy]
    simp only [Option.bind_some]
    have hn := nat32_cast y
    rw [tmod_nn (by omega), if_neg (by omega)]
    have h := bin_l1 op x y hx hy 32 k 0 (by omega) (by omega)
    obtain rfl : i = (y % 32).toNat := by omega
    simp only [Nat.pow_zero, Nat.mod_one, Int.natCast_zero, Int.natCast_one] at h
    have hp : ((2 ^ (y % 32).toNat : Nat) : Int) = 2 ^ (y % 32).toNat := by simp
    rw [hp]
    exact h
  | succ d ih =>
    intro k i hi hk
    obtain ⟨k, rfl⟩ : ∃ m, k = m + 1 := ⟨k - 1, by omega⟩
    have h := ih k (i + 1) (by omega) (by omega)
    simp only [brazierref01_Bin.l0]
    rw [bits_is y hy]
    simp only [Option.bind_some]
    have hn := nat32_cast y
    have hp1 : 2 ^ i ≤ 2147483648 := by
      have := Nat.pow_le_pow_right (show 0 < 2 by decide) (show i ≤ 31 by omega)
      simpa using this
    rw [tmod_nn (by omega), if_pos (by omega)]
    rw [Nat.pow_succ] at h
    generalize 2 ^ i = T at *
    refine Eq.trans (l0_congr _ _ _ _ ?_ ?_) h <;> (rw [w64 (by omega) (by omega)]; omega)
theorem refbin_is (k : Nat) (hk : 70 ≤ k) (op x y : Int) (hx : -2147483648 ≤ x ∧ x ≤ 2147483647) (hy : -2147483648 ≤ y ∧ y ≤ 2147483647) : brazierref01_Bin.f k op x y = some (binV op x y) := by
  unfold brazierref01_Bin.f
  rw [w64 (by omega) (by omega), w64 (by omega) (by omega)]
  exact bin_l0 op x y hx hy (y % 32).toNat k 0 (by omega) (by omega)
end Go.Proofs.Ytabkinlpbefjgaa.Pure

namespace Go.Proofs.Ytabkinlpbefjgaa.L
open Go.RowKit Go.Proofs.Ytabkinlpbefjgaa.X Go.Proofs.YtabkinlpbefjgaaW.PrintWords Go.Proofs.YtabkinlpbefjgaaW.PrintLast Go.Proofs.YtabkinlpbefjgaaW.PrintMore
attribute [local go_sem] max2_int min2_int max_two min_two max_three min_three max_four min_four   -- for this text's walks alone
set_option linter.unusedVariables false
set_option linter.unusedSimpArgs false
open Go.Proofs.Ytabkinlpbefjgaa.Pure
theorem not_bits (a : Int) : Go.bits .xor .i32 (-1) a = wrap32 (-1 - a) := by
  rw [bits_xor_nat]
  have e : nat32 (-1) = 4294967295 := by decide
  have h1 := or_and_xor (nat32 (-1)) (nat32 a)
  have h2 := Nat.or_lt_two_pow (n := 32) (nat32_lt (-1)) (nat32_lt a)
  have h3 : nat32 (-1) ≤ nat32 (-1) ||| nat32 a := Nat.left_le_or
  have h4 := nat32_lt a
  have h5 := nat32_cast a
  rw [e] at h1 h2 h3 ⊢
  have h6 : 4294967295 &&& nat32 a = nat32 a := by
    rw [Nat.and_comm, show 4294967295 = 2 ^ 32 - 1 from rfl, Nat.and_two_pow_sub_one_eq_mod, Nat.mod_eq_of_lt h4]
  apply wrap32_congr
  omega
theorem un_same (op a : Int) (ha : -2147483648 ≤ a ∧ a ≤ 2147483647) : ∃ r, word_Un.f op a = some r ∧ brazierref01_Un.f op a = some r := by
  unfold word_Un.f brazierref01_Un.f
  by_cases h19 : op = 19
  · subst h19
    rw [if_pos rfl, if_pos rfl, w64 (n := a) (by omega) (by omega), w64 (n := -a) (by omega) (by omega), round_is _ (by omega) (by omega)]
    exact ⟨_, rfl, rfl⟩
  by_cases h20 : op = 20
  · subst h20
    rw [if_neg (by decide), if_pos rfl, if_neg (by decide), if_pos rfl]
    unfold word_truth.f brazierref01_truth.f
    by_cases c : a = 0 <;> simp [c]
  by_cases h21 : op = 21
  · subst h21
    rw [if_neg (by decide), if_neg (by decide), if_pos rfl, if_neg (by decide), if_neg (by decide), if_pos rfl, w64 (n := a) (by omega) (by omega), w64 (n := -1 - a) (by omega) (by omega), round_is _ (by omega) (by omega), w32 (by omega) (by omega)]
    refine ⟨_, rfl, ?_⟩
    rw [not_bits, w32 (by omega) (by omega)]
    rfl
  rw [if_neg h19, if_neg h20, if_neg h21, if_neg h19, if_neg h20, if_neg h21]
  exact ⟨_, rfl, rfl⟩
def unV (op a : Int) : Int × Bool := (word_Un.f op a).getD (0, false)
theorem un_is (op a : Int) (ha : -2147483648 ≤ a ∧ a ≤ 2147483647) : word_Un.f op a = some (unV op a) := by
  obtain ⟨r, h, _⟩ := un_same op a ha
  unfold unV; rw [h]; rfl
theorem refun_is (op a : Int) (ha : -2147483648 ≤ a ∧ a ≤ 2147483647) : brazierref01_Un.f op a = some (unV op a) := by
  obtain ⟨r, h, h2⟩ := un_same op a ha
  unfold unV; rw [h2, h]; rfl
theorem un_bd (op a : Int) : -2147483648 ≤ (unV op a).1 ∧ (unV op a).1 ≤ 2147483647 := by
  unfold unV word_Un.f
  split
  · exact wrap32_lo _
  split
  · unfold word_truth.f; by_cases c : (a == 0) = true <;> simp [c]
  split
  · rw [not_bits]; exact wrap32_lo _
  · exact ⟨by decide, by decide⟩
set_option maxHeartbeats 4000000 in
set_option maxRecDepth 100000 in
theorem ins_num (fp : Addr) (rb : Nat) (regs : List Int) (n : Nat) (hn : regs.length = n) (blk ins d : Int) (W : World) (mp : Value) (cb : Nat) (hc : W.heap[cb]? = some (.cells (fC fp rb n blk ins d) 70 (0, 0))) (hr : W.heap[rb]? = some (.cells (row32 regs) 21 (0, 0)))
    (hne : rb ≠ cb) (op D A B num : Int) (nm : ByteArray) (av : Value) (hav : av.oneCell' = true) (hD0 : 0 ≤ D) (hD1 : D < n) :
    Calls Try.prog 26 #[mp, .pointer (some ⟨cb, 0, none⟩), .agg #[.int .i64 1, .int .i64 op, .int .i64 D, .int .i64 A, .int .i64 B, .int .i32 num, .string nm, av]] W fun e w' => e = .returned (.tuple #[]) ∧ Turned W w' rb (row32 (put32 regs D num)) 21 := by
  have cc0 : W.cell? ⟨cb, 0, none⟩ = some (.pointer (some fp)) := (blk_cell hc 0).trans rfl; have fc0 := blk_frozen hc 0; have cc1 : W.cell? ⟨cb, 1, none⟩ = some (.slice (some ⟨rb, 0, none⟩) n n) := (blk_cell hc 1).trans rfl; have fc1 := blk_frozen hc 1; have cc2 : W.cell? ⟨cb, 2, none⟩ = some (.int .i64 blk) := (blk_cell hc 2).trans rfl; have fc2 := blk_frozen hc 2; have cc3 : W.cell? ⟨cb, 3, none⟩ = some (.int .i64 ins) := (blk_cell hc 3).trans rfl; have fc3 := blk_frozen hc 3; have cc4 : W.cell? ⟨cb, 4, none⟩ = some (.int .i64 d) := (blk_cell hc 4).trans rfl; have fc4 := blk_frozen hc 4
  have hltc := blk_lt hc
  have hltr := blk_lt hr
  have HR := Aside0.mk hr
  have cd := row32_cell hr D hD0 (by omega)
  have fcd := row32_frozen hr D
  obtain ⟨z, hz⟩ : ∃ z, get32 regs D = z := ⟨_, rfl⟩
  rw [hz] at cd
  clear hc hr hn hz
  go_enter Try.func26, Try.ntmps26
  go_wp2
  clear cc0 fc0 cc1 fc1 cc2 fc2 cc3 fc3 cc4 fc4
  refine bodyPost_end (v := .tuple #[]) (by simp [results, Try.results26, go_sem]) rfl ⟨rfl, ?_, ?_⟩
  · exact (show _ from blk_alloc (row32_put HR.out D num) _)
  · exact ((Tr.refl (one rb) W).set (S := one rb) (.inl (one_self rb)) _).alloc _
set_option maxHeartbeats 4000000 in
set_option maxRecDepth 100000 in
theorem ins_copy (fp : Addr) (rb : Nat) (regs : List Int) (n : Nat) (hn : regs.length = n) (blk ins d : Int) (W : World) (mp : Value) (cb : Nat) (hc : W.heap[cb]? = some (.cells (fC fp rb n blk ins d) 70 (0, 0))) (hr : W.heap[rb]? = some (.cells (row32 regs) 21 (0, 0)))
    (hne : rb ≠ cb) (op D A B num : Int) (nm : ByteArray) (av : Value) (hav : av.oneCell' = true) (hD0 : 0 ≤ D) (hD1 : D < n) (hA0 : 0 ≤ A) (hA1 : A < n) :
    Calls Try.prog 26 #[mp, .pointer (some ⟨cb, 0, none⟩), .agg #[.int .i64 2, .int .i64 op, .int .i64 D, .int .i64 A, .int .i64 B, .int .i32 num, .string nm, av]] W fun e w' => e = .returned (.tuple #[]) ∧ Turned W w' rb (row32 (put32 regs D (get32 regs A))) 21 := by
  have cc0 : W.cell? ⟨cb, 0, none⟩ = some (.pointer (some fp)) := (blk_cell hc 0).trans rfl; have fc0 := blk_frozen hc 0; have cc1 : W.cell? ⟨cb, 1, none⟩ = some (.slice (some ⟨rb, 0, none⟩) n n) := (blk_cell hc 1).trans rfl; have fc1 := blk_frozen hc 1; have cc2 : W.cell? ⟨cb, 2, none⟩ = some (.int .i64 blk) := (blk_cell hc 2).trans rfl; have fc2 := blk_frozen hc 2; have cc3 : W.cell? ⟨cb, 3, none⟩ = some (.int .i64 ins) := (blk_cell hc 3).trans rfl; have fc3 := blk_frozen hc 3; have cc4 : W.cell? ⟨cb, 4, none⟩ = some (.int .i64 d) := (blk_cell hc 4).trans rfl; have fc4 := blk_frozen hc 4
  have hltc := blk_lt hc
  have hltr := blk_lt hr
  have HR := Aside0.mk hr
  have cd := row32_cell hr D hD0 (by omega)
  have fcd := row32_frozen hr D
  have ca := row32_cell hr A hA0 (by omega)
  have fca := row32_frozen hr A
  obtain ⟨v, hv⟩ : ∃ v, get32 regs A = v := ⟨_, rfl⟩
  rw [hv] at ca ⊢
  have HCD := Aside0.mk cd
  have HCA := Aside0.mk ca
  clear hc hr hn hv cd ca fcd fca
  go_enter Try.func26, Try.ntmps26
  go_wp2
  have ht1 : Tr nil_ W (W.alloc (.cells #[.int .i64 2, .int .i64 op, .int .i64 D, .int .i64 A, .int .i64 B, .int .i32 num, .string nm, av] 44)) := (Tr.refl nil_ W).alloc _
  have hx1 : (W.alloc (.cells #[.int .i64 2, .int .i64 op, .int .i64 D, .int .i64 A, .int .i64 B, .int .i32 num, .string nm, av] 44)).heap[W.heap.size]? = some (.cells #[.int .i64 2, .int .i64 op, .int .i64 D, .int .i64 A, .int .i64 B, .int .i32 num, .string nm, av] 44 (0, 0)) := blk_new _ _
  generalize W.alloc (.cells #[.int .i64 2, .int .i64 op, .int .i64 D, .int .i64 A, .int .i64 B, .int .i32 num, .string nm, av] 44) = w1 at ht1 hx1 ⊢
  have ed := ht1.cell HCD.out (fun h => h)
  have ea := ht1.cell HCA.out (fun h => h)
  have hr1 := ht1.blk HR.out (fun h => h)
  have fd := row32_frozen hr1 D
  have e2 : w1.cell? ⟨W.heap.size, 2, none⟩ = some (.int .i64 D) := (blk_cell hx1 2).trans rfl
  have e3 : w1.cell? ⟨W.heap.size, 3, none⟩ = some (.int .i64 A) := (blk_cell hx1 3).trans rfl
  clear cc0 fc0 cc1 fc1 cc2 fc2 cc3 fc3 cc4 fc4
  have HT1 := Aside0.mk ht1
  have HR1 := Aside0.mk hr1
  clear ht1 hx1 hr1
  go_still_tail 9, (by kernel_rfl)
  go_wp2
  refine bodyPost_end (v := .tuple #[]) (by simp [results, Try.results26, go_sem]) rfl ⟨rfl, ?_, ?_⟩
  · exact blk_drew (row32_put HR1.out D v)
  · exact ((HT1.out.mono (fun q hq => hq.elim)).set (S := one rb) (.inl (one_self rb)) _).drew
set_option maxHeartbeats 4000000 in
set_option maxRecDepth 100000 in
theorem ins_un (fp : Addr) (rb : Nat) (regs : List Int) (n : Nat) (hn : regs.length = n) (blk ins d : Int) (W : World) (mp : Value) (cb : Nat) (hc : W.heap[cb]? = some (.cells (fC fp rb n blk ins d) 70 (0, 0))) (hr : W.heap[rb]? = some (.cells (row32 regs) 21 (0, 0)))
    (hne : rb ≠ cb) (op D A B num : Int) (nm : ByteArray) (av : Value) (hav : av.oneCell' = true) (hD0 : 0 ≤ D) (hD1 : D < n) (hA0 : 0 ≤ A) (hA1 : A < n) (hw : -2147483648 ≤ get32 regs A ∧ get32 regs A ≤ 2147483647) :
    Calls Try.prog 26 #[mp, .pointer (some ⟨cb, 0, none⟩), .agg #[.int .i64 3, .int .i64 op, .int .i64 D, .int .i64 A, .int .i64 B, .int .i32 num, .string nm, av]] W fun e w' => e = .returned (.tuple #[]) ∧ Turned W w' rb (row32 (put32 regs D (unV op (get32 regs A)).1)) 21 := by
  have cc0 : W.cell? ⟨cb, 0, none⟩ = some (.pointer (some fp)) := (blk_cell hc 0).trans rfl; have fc0 := blk_frozen hc 0; have cc1 : W.cell? ⟨cb, 1, none⟩ = some (.slice (some ⟨rb, 0, none⟩) n n) := (blk_cell hc 1).trans rfl; have fc1 := blk_frozen hc 1; have cc2 : W.cell? ⟨cb, 2, none⟩ = some (.int .i64 blk) := (blk_cell hc 2).trans rfl; have fc2 := blk_frozen hc 2; have cc3 : W.cell? ⟨cb, 3, none⟩ = some (.int .i64 ins) := (blk_cell hc 3).trans rfl; have fc3 := blk_frozen hc 3; have cc4 : W.cell? ⟨cb, 4, none⟩ = some (.int .i64 d) := (blk_cell hc 4).trans rfl; have fc4 := blk_frozen hc 4
  have hltc := blk_lt hc
  have hltr := blk_lt hr
  have HR := Aside0.mk hr
  have cd := row32_cell hr D hD0 (by omega)
  have fcd := row32_frozen hr D
  have ca := row32_cell hr A hA0 (by omega)
  have fca := row32_frozen hr A
  obtain ⟨v, hv⟩ : ∃ v, get32 regs A = v := ⟨_, rfl⟩
  rw [hv] at ca hw ⊢
  obtain ⟨r1, r2, hun⟩ : ∃ r1 r2, unV op v = (r1, r2) := ⟨_, _, rfl⟩
  rw [hun]
  have HU : Aside0 (word_Un.f op v = some (r1, r2)) := ⟨by rw [un_is op v hw, hun]⟩
  have HCD := Aside0.mk cd
  have HCA := Aside0.mk ca
  clear hc hr hn hv cd ca fcd fca hun hw
  go_enter Try.func26, Try.ntmps26
  go_wp2
  have ht1 : Tr nil_ W (W.alloc (.cells #[.int .i64 3, .int .i64 op, .int .i64 D, .int .i64 A, .int .i64 B, .int .i32 num, .string nm, av] 44)) := (Tr.refl nil_ W).alloc _
  have hx1 : (W.alloc (.cells #[.int .i64 3, .int .i64 op, .int .i64 D, .int .i64 A, .int .i64 B, .int .i32 num, .string nm, av] 44)).heap[W.heap.size]? = some (.cells #[.int .i64 3, .int .i64 op, .int .i64 D, .int .i64 A, .int .i64 B, .int .i32 num, .string nm, av] 44 (0, 0)) := blk_new _ _
  generalize W.alloc (.cells #[.int .i64 3, .int .i64 op, .int .i64 D, .int .i64 A, .int .i64 B, .int .i32 num, .string nm, av] 44) = w1 at ht1 hx1 ⊢
  have ed := ht1.cell HCD.out (fun h => h)
  have ea := ht1.cell HCA.out (fun h => h)
  have hr1 := ht1.blk HR.out (fun h => h)
  have fd := row32_frozen hr1 D
  have e1 : w1.cell? ⟨W.heap.size, 1, none⟩ = some (.int .i64 op) := (blk_cell hx1 1).trans rfl
  have e2 : w1.cell? ⟨W.heap.size, 2, none⟩ = some (.int .i64 D) := (blk_cell hx1 2).trans rfl
  have e3 : w1.cell? ⟨W.heap.size, 3, none⟩ = some (.int .i64 A) := (blk_cell hx1 3).trans rfl
  clear cc0 fc0 cc1 fc1 cc2 fc2 cc3 fc3 cc4 fc4
  have HT1 := Aside0.mk ht1
  have HR1 := Aside0.mk hr1
  clear ht1 hx1 hr1
  refine start_ (n := 16) (S := fun w_ => w_.cell? ⟨W.heap.size, 1, none⟩ = some (.int .i64 op) ∧ w_.cell? ⟨W.heap.size, 2, none⟩ = some (.int .i64 D) ∧ w_.cell? ⟨W.heap.size, 3, none⟩ = some (.int .i64 A) ∧ w_.cell? ⟨rb, A.toNat, none⟩ = some (.int .i32 v) ∧ Aside0 (∃ k, w_ = w1.drewN k)) (ds := [15]) #[false, false, false, false, false, false, false, false, false, false, false, false, false, false, false, false] (by kernel_rfl) rfl rfl ⟨e1, e2, e3, ea, ⟨⟨1, rfl⟩⟩⟩ (fun hHeld => ?_)
  refine pure_ (i := 0) (N := some 40) (v := ?_) (a' := ?_) #[true, false, false, false, false, false, false, false, false, false, false, false, false, false, false, false] rfl rfl (by kernel_rfl) (fun _ _ _ h => h) (Or.inl ⟨by rfl, ?_⟩) ?_ ?_
  rotate_left
  · intro w'
    go_simp
    with_reducible rfl
  rotate_left
  · simp only [ps_]
    rfl
  refine pure_ (i := 1) (N := some 41) (v := ?_) (a' := ?_) #[true, true, false, false, false, false, false, false, false, false, false, false, false, false, false, false] rfl rfl (by kernel_rfl) (fun _ _ _ h => h) (Or.inl ⟨by rfl, ?_⟩) ?_ ?_
  rotate_left
  · intro w'
    go_simp
    with_reducible rfl
  rotate_left
  · simp only [ps_]
    rfl
  refine take_ (i := 2) (N := some 42) (v := ?_) (a' := ?_) #[true, true, true, false, false, false, false, false, false, false, false, false, false, false, false, false] rfl rfl (by kernel_rfl) (fun _ _ _ h => h) (Or.inl ⟨by rfl, ?_⟩) hHeld ?_ ?_
  rotate_left
  · rintro w' ⟨hs1_, hs2_, hs3_, hs4_, hs5_⟩
    go_simp
    with_reducible rfl
  rotate_left
  · simp only [ps_]
    rfl
  refine pure_ (i := 3) (N := some 43) (v := ?_) (a' := ?_) #[true, true, true, true, false, false, false, false, false, false, false, false, false, false, false, false] rfl rfl (by kernel_rfl) (fun _ _ _ h => h) (Or.inl ⟨by rfl, ?_⟩) ?_ ?_
  rotate_left
  · intro w'
    go_simp
    with_reducible rfl
  rotate_left
  · simp only [ps_]
    rfl
  refine take_ (i := 4) (N := some 44) (v := ?_) (a' := ?_) #[true, true, true, true, true, false, false, false, false, false, false, false, false, false, false, false] rfl rfl (by kernel_rfl) (fun _ _ _ h => h) (Or.inl ⟨by rfl, ?_⟩) hHeld ?_ ?_
  rotate_left
  · rintro w' ⟨hs1_, hs2_, hs3_, hs4_, hs5_⟩
    go_simp
    with_reducible rfl
  rotate_left
  · simp only [ps_]
    rfl
  refine pure_ (i := 5) (N := some 45) (v := ?_) (a' := ?_) #[true, true, true, true, true, true, false, false, false, false, false, false, false, false, false, false] rfl rfl (by kernel_rfl) (fun _ _ _ h => h) (Or.inl ⟨by rfl, ?_⟩) ?_ ?_
  rotate_left
  · intro w'
    go_simp
    with_reducible rfl
  rotate_left
  · simp only [ps_]
    rfl
  refine pure_ (i := 6) (N := some 46) (v := ?_) (a' := ?_) #[true, true, true, true, true, true, true, false, false, false, false, false, false, false, false, false] rfl rfl (by kernel_rfl) (fun _ _ _ h => h) (Or.inl ⟨by rfl, ?_⟩) ?_ ?_
  rotate_left
  · intro w'
    go_simp
    with_reducible rfl
  rotate_left
  · simp only [ps_]
    rfl
  refine take_ (i := 7) (N := some 47) (v := ?_) (a' := ?_) #[true, true, true, true, true, true, true, true, false, false, false, false, false, false, false, false] rfl rfl (by kernel_rfl) (fun _ _ _ h => h) (Or.inl ⟨by rfl, ?_⟩) hHeld ?_ ?_
  rotate_left
  · rintro w' ⟨hs1_, hs2_, hs3_, hs4_, hs5_⟩
    go_simp
    with_reducible rfl
  rotate_left
  · simp only [ps_]
    rfl
  refine pure_ (i := 8) (N := some 48) (v := ?_) (a' := ?_) #[true, true, true, true, true, true, true, true, true, false, false, false, false, false, false, false] rfl rfl (by kernel_rfl) (fun _ _ _ h => h) (Or.inl ⟨by rfl, ?_⟩) ?_ ?_
  rotate_left
  · intro w'
    go_simp
    with_reducible rfl
  rotate_left
  · simp only [ps_]
    rfl
  refine take_ (i := 9) (N := some 49) (v := ?_) (a' := ?_) #[true, true, true, true, true, true, true, true, true, true, false, false, false, false, false, false] rfl rfl (by kernel_rfl) (fun _ _ _ h => h) (Or.inl ⟨by rfl, ?_⟩) hHeld ?_ ?_
  rotate_left
  · rintro w' ⟨hs1_, hs2_, hs3_, hs4_, hs5_⟩
    go_simp
    with_reducible rfl
  rotate_left
  · simp only [ps_]
    rfl
  refine one_ (i := 10) (N := some 50) #[true, true, true, true, true, true, true, true, true, true, true, false, false, false, false, false] rfl rfl (by kernel_rfl) (by decide) (fun K hK => ?_)
  refine goes_ Try.func35 (by kernel_rfl) rfl #[.int .i64 op, .int .i32 v] (by rfl) rfl rfl (by first | rfl | (simp only [List.map_toArray, List.map_cons, List.map_nil]; done) | (simp only [List.map_toArray, List.map_cons, List.map_nil]; rfl)) ?_
  refine (word_Un.calls _ _ _ _ _ HU.out).mono ?_
  rintro e_ w9 ⟨rfl, ⟨k9, rfl⟩⟩
  refine ⟨_, rfl, ?_⟩
  refine hK.out _ _ ⟨hHeld.1, hHeld.2.1, hHeld.2.2.1, hHeld.2.2.2.1, ⟨by obtain ⟨k8, h8⟩ := hHeld.2.2.2.2.out; exact ⟨k8 + k9, by rw [h8, World.drewN_drewN]⟩⟩⟩ (fun hHeld => ?_)
  clear hK K
  refine norm_ (a' := ?_) ?_ ?_
  rotate_left
  · show Act.put _ (some 50) _ = _
    simp only [ps_]
    rfl
  refine pure_ (i := 11) (N := some 39) (v := ?_) (a' := ?_) #[true, true, true, true, true, true, true, true, true, true, true, true, false, false, false, false] rfl rfl (by kernel_rfl) (fun _ _ _ h => h) (Or.inl ⟨by rfl, ?_⟩) ?_ ?_
  rotate_left
  · intro w'
    go_simp
    with_reducible rfl
  rotate_left
  · simp only [ps_]
    rfl
  refine pure_ (i := 12) (N := some 51) (v := ?_) (a' := ?_) #[true, true, true, true, true, true, true, true, true, true, true, true, true, false, false, false] rfl rfl (by kernel_rfl) (fun _ _ _ h => h) (Or.inl ⟨by rfl, ?_⟩) ?_ ?_
  rotate_left
  · intro w'
    go_simp
    with_reducible rfl
  rotate_left
  · simp only [ps_]
    rfl
  refine pure_ (i := 13) (N := some 52) (v := ?_) (a' := ?_) #[true, true, true, true, true, true, true, true, true, true, true, true, true, true, false, false] rfl rfl (by kernel_rfl) (fun _ _ _ h => h) (Or.inl ⟨by rfl, ?_⟩) ?_ ?_
  rotate_left
  · intro w'
    go_simp
    with_reducible rfl
  rotate_left
  · simp only [ps_]
    rfl
  refine pure_ (i := 14) (N := some 53) (v := ?_) (a' := ?_) #[true, true, true, true, true, true, true, true, true, true, true, true, true, true, true, false] rfl rfl (by kernel_rfl) (fun _ _ _ h => h) (Or.inl ⟨by rfl, ?_⟩) ?_ ?_
  rotate_left
  · intro w'
    go_simp
    with_reducible rfl
  rotate_left
  · simp only [ps_]
    rfl
  refine last_ (i := 15) (N := none) #[true, true, true, true, true, true, true, true, true, true, true, true, true, true, true, true] rfl rfl (by kernel_rfl) (by decide) (fun K hK => ?_)
  rw [if_pos (by rfl)]
  go_simp
  refine hK.out _ _ ?_
  clear hK K
  refine done_ (by kernel_rfl) ?_
  go_wp2
  refine bodyPost_end (v := .tuple #[]) (by simp [results, Try.results26, go_sem]) rfl ⟨rfl, ?_, ?_⟩
  · exact row32_put (blk_drewN HR1.out _) D r1
  · exact ((HT1.out.mono (fun q hq => hq.elim)).drewN _).set (S := one rb) (.inl (one_self rb)) _
set_option maxHeartbeats 4000000 in
set_option maxRecDepth 100000 in
theorem ins_bin (fp : Addr) (rb : Nat) (regs : List Int) (n : Nat) (hn : regs.length = n) (blk ins d : Int) (W : World) (mp : Value) (cb : Nat) (hc : W.heap[cb]? = some (.cells (fC fp rb n blk ins d) 70 (0, 0))) (hr : W.heap[rb]? = some (.cells (row32 regs) 21 (0, 0)))
    (hne : rb ≠ cb) (op D A B num : Int) (nm : ByteArray) (av : Value) (hav : av.oneCell' = true) (hD0 : 0 ≤ D) (hD1 : D < n) (hA0 : 0 ≤ A) (hA1 : A < n) (hB0 : 0 ≤ B) (hB1 : B < n) (hw : -2147483648 ≤ get32 regs A ∧ get32 regs A ≤ 2147483647) (hw2 : -2147483648 ≤ get32 regs B ∧ get32 regs B ≤ 2147483647) (hok : (binV op (get32 regs A) (get32 regs B)).2 = true) :
    Calls Try.prog 26 #[mp, .pointer (some ⟨cb, 0, none⟩), .agg #[.int .i64 4, .int .i64 op, .int .i64 D, .int .i64 A, .int .i64 B, .int .i32 num, .string nm, av]] W fun e w' => e = .returned (.tuple #[]) ∧ Turned W w' rb (row32 (put32 regs D (binV op (get32 regs A) (get32 regs B)).1)) 21 := by
  have cc0 : W.cell? ⟨cb, 0, none⟩ = some (.pointer (some fp)) := (blk_cell hc 0).trans rfl; have fc0 := blk_frozen hc 0; have cc1 : W.cell? ⟨cb, 1, none⟩ = some (.slice (some ⟨rb, 0, none⟩) n n) := (blk_cell hc 1).trans rfl; have fc1 := blk_frozen hc 1; have cc2 : W.cell? ⟨cb, 2, none⟩ = some (.int .i64 blk) := (blk_cell hc 2).trans rfl; have fc2 := blk_frozen hc 2; have cc3 : W.cell? ⟨cb, 3, none⟩ = some (.int .i64 ins) := (blk_cell hc 3).trans rfl; have fc3 := blk_frozen hc 3; have cc4 : W.cell? ⟨cb, 4, none⟩ = some (.int .i64 d) := (blk_cell hc 4).trans rfl; have fc4 := blk_frozen hc 4
  have hltc := blk_lt hc
  have hltr := blk_lt hr
  have HR := Aside0.mk hr
  have cd := row32_cell hr D hD0 (by omega)
  have fcd := row32_frozen hr D
  have ca := row32_cell hr A hA0 (by omega)
  have fca := row32_frozen hr A
  have cu := row32_cell hr B hB0 (by omega)
  have fcu := row32_frozen hr B
  obtain ⟨v, hv⟩ : ∃ v, get32 regs A = v := ⟨_, rfl⟩
  obtain ⟨u, hu⟩ : ∃ u, get32 regs B = u := ⟨_, rfl⟩
  rw [hv] at ca hw hok ⊢
  rw [hu] at cu hw2 hok ⊢
  obtain ⟨r1, r2, hun⟩ : ∃ r1 r2, binV op v u = (r1, r2) := ⟨_, _, rfl⟩
  rw [hun] at hok ⊢
  obtain rfl : r2 = true := hok
  have HU : Aside0 (word_Bin.f 1 op v u = some (r1, true)) := ⟨by rw [bin_is 0 op v u, hun]⟩
  have HCD := Aside0.mk cd
  have HCA := Aside0.mk ca
  have HCU := Aside0.mk cu
  clear hc hr hn hv hu cd ca cu fcd fca fcu hun hw hw2
  go_enter Try.func26, Try.ntmps26
  go_wp2
  have ht1 : Tr nil_ W (W.alloc (.cells #[.int .i64 4, .int .i64 op, .int .i64 D, .int .i64 A, .int .i64 B, .int .i32 num, .string nm, av] 44)) := (Tr.refl nil_ W).alloc _
  have hx1 : (W.alloc (.cells #[.int .i64 4, .int .i64 op, .int .i64 D, .int .i64 A, .int .i64 B, .int .i32 num, .string nm, av] 44)).heap[W.heap.size]? = some (.cells #[.int .i64 4, .int .i64 op, .int .i64 D, .int .i64 A, .int .i64 B, .int .i32 num, .string nm, av] 44 (0, 0)) := blk_new _ _
  generalize W.alloc (.cells #[.int .i64 4, .int .i64 op, .int .i64 D, .int .i64 A, .int .i64 B, .int .i32 num, .string nm, av] 44) = w1 at ht1 hx1 ⊢
  have ed := ht1.cell HCD.out (fun h => h)
  have ea := ht1.cell HCA.out (fun h => h)
  have eu := ht1.cell HCU.out (fun h => h)
  have hr1 := ht1.blk HR.out (fun h => h)
  have fd := row32_frozen hr1 D
  have e1 : w1.cell? ⟨W.heap.size, 1, none⟩ = some (.int .i64 op) := (blk_cell hx1 1).trans rfl
  have e2 : w1.cell? ⟨W.heap.size, 2, none⟩ = some (.int .i64 D) := (blk_cell hx1 2).trans rfl
  have e3 : w1.cell? ⟨W.heap.size, 3, none⟩ = some (.int .i64 A) := (blk_cell hx1 3).trans rfl
  have e4 : w1.cell? ⟨W.heap.size, 4, none⟩ = some (.int .i64 B) := (blk_cell hx1 4).trans rfl
  clear cc0 fc0 cc1 fc1 cc2 fc2 cc3 fc3 cc4 fc4
  have HT1 := Aside0.mk ht1
  have HR1 := Aside0.mk hr1
  clear ht1 hx1 hr1
  refine start_ (n := 18) (S := fun w_ => w_.cell? ⟨W.heap.size, 1, none⟩ = some (.int .i64 op) ∧ w_.cell? ⟨W.heap.size, 3, none⟩ = some (.int .i64 A) ∧ w_.cell? ⟨W.heap.size, 4, none⟩ = some (.int .i64 B) ∧ w_.cell? ⟨rb, A.toNat, none⟩ = some (.int .i32 v) ∧ w_.cell? ⟨rb, B.toNat, none⟩ = some (.int .i32 u) ∧ Aside0 (∃ k, w_ = w1.drewN k)) (ds := []) #[false, false, false, false, false, false, false, false, false, false, false, false, false, false, false, false, false, false] (by kernel_rfl) rfl rfl ⟨e1, e3, e4, ea, eu, ⟨⟨1, rfl⟩⟩⟩ (fun hHeld => ?_)
  refine pure_ (i := 0) (N := some 57) (v := ?_) (a' := ?_) #[true, false, false, false, false, false, false, false, false, false, false, false, false, false, false, false, false, false] rfl rfl (by kernel_rfl) (fun _ _ _ h => h) (Or.inl ⟨by rfl, ?_⟩) ?_ ?_
  rotate_left
  · intro w'
    go_simp
    with_reducible rfl
  rotate_left
  · simp only [ps_]
    rfl
  refine take_ (i := 1) (N := some 58) (v := ?_) (a' := ?_) #[true, true, false, false, false, false, false, false, false, false, false, false, false, false, false, false, false, false] rfl rfl (by kernel_rfl) (fun _ _ _ h => h) (Or.inl ⟨by rfl, ?_⟩) hHeld ?_ ?_
  rotate_left
  · rintro w' ⟨hs1_, hs2_, hs3_, hs4_, hs5_, hs6_⟩
    go_simp
    with_reducible rfl
  rotate_left
  · simp only [ps_]
    rfl
  refine pure_ (i := 2) (N := some 59) (v := ?_) (a' := ?_) #[true, true, true, false, false, false, false, false, false, false, false, false, false, false, false, false, false, false] rfl rfl (by kernel_rfl) (fun _ _ _ h => h) (Or.inl ⟨by rfl, ?_⟩) ?_ ?_
  rotate_left
  · intro w'
    go_simp
    with_reducible rfl
  rotate_left
  · simp only [ps_]
    rfl
  refine pure_ (i := 3) (N := some 60) (v := ?_) (a' := ?_) #[true, true, true, true, false, false, false, false, false, false, false, false, false, false, false, false, false, false] rfl rfl (by kernel_rfl) (fun _ _ _ h => h) (Or.inl ⟨by rfl, ?_⟩) ?_ ?_
  rotate_left
  · intro w'
    go_simp
    with_reducible rfl
  rotate_left
  · simp only [ps_]
    rfl
  refine take_ (i := 4) (N := some 61) (v := ?_) (a' := ?_) #[true, true, true, true, true, false, false, false, false, false, false, false, false, false, false, false, false, false] rfl rfl (by kernel_rfl) (fun _ _ _ h => h) (Or.inl ⟨by rfl, ?_⟩) hHeld ?_ ?_
  rotate_left
  · rintro w' ⟨hs1_, hs2_, hs3_, hs4_, hs5_, hs6_⟩
    go_simp
    with_reducible rfl
  rotate_left
  · simp only [ps_]
    rfl
  refine pure_ (i := 5) (N := some 62) (v := ?_) (a' := ?_) #[true, true, true, true, true, true, false, false, false, false, false, false, false, false, false, false, false, false] rfl rfl (by kernel_rfl) (fun _ _ _ h => h) (Or.inl ⟨by rfl, ?_⟩) ?_ ?_
  rotate_left
  · intro w'
    go_simp
    with_reducible rfl
  rotate_left
  · simp only [ps_]
    rfl
  refine take_ (i := 6) (N := some 63) (v := ?_) (a' := ?_) #[true, true, true, true, true, true, true, false, false, false, false, false, false, false, false, false, false, false] rfl rfl (by kernel_rfl) (fun _ _ _ h => h) (Or.inl ⟨by rfl, ?_⟩) hHeld ?_ ?_
  rotate_left
  · rintro w' ⟨hs1_, hs2_, hs3_, hs4_, hs5_, hs6_⟩
    go_simp
    with_reducible rfl
  rotate_left
  · simp only [ps_]
    rfl
  refine pure_ (i := 7) (N := some 64) (v := ?_) (a' := ?_) #[true, true, true, true, true, true, true, true, false, false, false, false, false, false, false, false, false, false] rfl rfl (by kernel_rfl) (fun _ _ _ h => h) (Or.inl ⟨by rfl, ?_⟩) ?_ ?_
  rotate_left
  · intro w'
    go_simp
    with_reducible rfl
  rotate_left
  · simp only [ps_]
    rfl
  refine pure_ (i := 8) (N := some 65) (v := ?_) (a' := ?_) #[true, true, true, true, true, true, true, true, true, false, false, false, false, false, false, false, false, false] rfl rfl (by kernel_rfl) (fun _ _ _ h => h) (Or.inl ⟨by rfl, ?_⟩) ?_ ?_
  rotate_left
  · intro w'
    go_simp
    with_reducible rfl
  rotate_left
  · simp only [ps_]
    rfl
  refine take_ (i := 9) (N := some 66) (v := ?_) (a' := ?_) #[true, true, true, true, true, true, true, true, true, true, false, false, false, false, false, false, false, false] rfl rfl (by kernel_rfl) (fun _ _ _ h => h) (Or.inl ⟨by rfl, ?_⟩) hHeld ?_ ?_
  rotate_left
  · rintro w' ⟨hs1_, hs2_, hs3_, hs4_, hs5_, hs6_⟩
    go_simp
    with_reducible rfl
  rotate_left
  · simp only [ps_]
    rfl
  refine pure_ (i := 10) (N := some 67) (v := ?_) (a' := ?_) #[true, true, true, true, true, true, true, true, true, true, true, false, false, false, false, false, false, false] rfl rfl (by kernel_rfl) (fun _ _ _ h => h) (Or.inl ⟨by rfl, ?_⟩) ?_ ?_
  rotate_left
  · intro w'
    go_simp
    with_reducible rfl
  rotate_left
  · simp only [ps_]
    rfl
  refine take_ (i := 11) (N := some 68) (v := ?_) (a' := ?_) #[true, true, true, true, true, true, true, true, true, true, true, true, false, false, false, false, false, false] rfl rfl (by kernel_rfl) (fun _ _ _ h => h) (Or.inl ⟨by rfl, ?_⟩) hHeld ?_ ?_
  rotate_left
  · rintro w' ⟨hs1_, hs2_, hs3_, hs4_, hs5_, hs6_⟩
    go_simp
    with_reducible rfl
  rotate_left
  · simp only [ps_]
    rfl
  refine one_ (i := 12) (N := some 69) #[true, true, true, true, true, true, true, true, true, true, true, true, true, false, false, false, false, false] rfl rfl (by kernel_rfl) (by decide) (fun K hK => ?_)
  refine goes_ Try.func36 (by kernel_rfl) rfl #[.int .i64 op, .int .i32 v, .int .i32 u] (by rfl) rfl rfl (by first | rfl | (simp only [List.map_toArray, List.map_cons, List.map_nil]; done) | (simp only [List.map_toArray, List.map_cons, List.map_nil]; rfl)) ?_
  refine (word_Bin.calls 1 _ _ _ _ _ _ HU.out).mono ?_
  rintro e_ w9 ⟨rfl, ⟨k9, rfl⟩⟩
  refine ⟨_, rfl, ?_⟩
  refine hK.out _ _ ⟨hHeld.1, hHeld.2.1, hHeld.2.2.1, hHeld.2.2.2.1, hHeld.2.2.2.2.1, ⟨by obtain ⟨k8, h8⟩ := hHeld.2.2.2.2.2.out; exact ⟨k8 + k9, by rw [h8, World.drewN_drewN]⟩⟩⟩ (fun hHeld => ?_)
  clear hK K
  refine norm_ (a' := ?_) ?_ ?_
  rotate_left
  · show Act.put _ (some 69) _ = _
    simp only [ps_]
    rfl
  refine pure_ (i := 13) (N := some 56) (v := ?_) (a' := ?_) #[true, true, true, true, true, true, true, true, true, true, true, true, true, true, false, false, false, false] rfl rfl (by kernel_rfl) (fun _ _ _ h => h) (Or.inl ⟨by rfl, ?_⟩) ?_ ?_
  rotate_left
  · intro w'
    go_simp
    with_reducible rfl
  rotate_left
  · simp only [ps_]
    rfl
  refine pure_ (i := 14) (N := some 70) (v := ?_) (a' := ?_) #[true, true, true, true, true, true, true, true, true, true, true, true, true, true, true, false, false, false] rfl rfl (by kernel_rfl) (fun _ _ _ h => h) (Or.inl ⟨by rfl, ?_⟩) ?_ ?_
  rotate_left
  · intro w'
    go_simp
    with_reducible rfl
  rotate_left
  · simp only [ps_]
    rfl
  refine pure_ (i := 15) (N := some 71) (v := ?_) (a' := ?_) #[true, true, true, true, true, true, true, true, true, true, true, true, true, true, true, true, false, false] rfl rfl (by kernel_rfl) (fun _ _ _ h => h) (Or.inl ⟨by rfl, ?_⟩) ?_ ?_
  rotate_left
  · intro w'
    go_simp
    with_reducible rfl
  rotate_left
  · simp only [ps_]
    rfl
  refine pure_ (i := 16) (N := some 7) (v := ?_) (a' := ?_) #[true, true, true, true, true, true, true, true, true, true, true, true, true, true, true, true, true, false] rfl rfl (by kernel_rfl) (fun _ _ _ h => h) (Or.inl ⟨by rfl, ?_⟩) ?_ ?_
  rotate_left
  · intro w'
    go_simp
    with_reducible rfl
  rotate_left
  · simp only [ps_]
    rfl
  refine pure_ (i := 17) (N := some 8) (v := ?_) (a' := ?_) #[true, true, true, true, true, true, true, true, true, true, true, true, true, true, true, true, true, true] rfl rfl (by kernel_rfl) (fun _ _ _ h => h) (Or.inl ⟨by rfl, ?_⟩) ?_ ?_
  rotate_left
  · intro w'
    go_simp
    with_reducible rfl
  rotate_left
  · simp only [ps_]
    rfl
  refine done_ (by kernel_rfl) ?_
  go_wp2
  refine bodyPost_end (v := .tuple #[]) (by simp [results, Try.results26, go_sem]) rfl ⟨rfl, ?_, ?_⟩
  · exact row32_put (blk_drewN HR1.out _) D r1
  · exact ((HT1.out.mono (fun q hq => hq.elim)).drewN _).set (S := one rb) (.inl (one_self rb)) _
set_option maxHeartbeats 4000000 in
set_option maxRecDepth 100000 in
theorem ins_div (fp : Addr) (rb : Nat) (regs : List Int) (n : Nat) (hn : regs.length = n) (blk ins d : Int) (W : World) (mp : Value) (cb : Nat) (hc : W.heap[cb]? = some (.cells (fC fp rb n blk ins d) 70 (0, 0))) (hr : W.heap[rb]? = some (.cells (row32 regs) 21 (0, 0)))
    (hne : rb ≠ cb) (op D A B num : Int) (nm : ByteArray) (av : Value) (hav : av.oneCell' = true) (hD0 : 0 ≤ D) (hD1 : D < n) (hA0 : 0 ≤ A) (hA1 : A < n) (hB0 : 0 ≤ B) (hB1 : B < n) (hw : -2147483648 ≤ get32 regs A ∧ get32 regs A ≤ 2147483647) (hw2 : -2147483648 ≤ get32 regs B ∧ get32 regs B ≤ 2147483647) (hok : (binV op (get32 regs A) (get32 regs B)).2 = false) :
    Calls Try.prog 26 #[mp, .pointer (some ⟨cb, 0, none⟩), .agg #[.int .i64 4, .int .i64 op, .int .i64 D, .int .i64 A, .int .i64 B, .int .i32 num, .string nm, av]] W fun e w' => e = .panicked [{ v := .iface 66 (.int .i64 2), recovered := false }] ∧ Tr nil_ W w' := by
  have cc0 : W.cell? ⟨cb, 0, none⟩ = some (.pointer (some fp)) := (blk_cell hc 0).trans rfl; have fc0 := blk_frozen hc 0; have cc1 : W.cell? ⟨cb, 1, none⟩ = some (.slice (some ⟨rb, 0, none⟩) n n) := (blk_cell hc 1).trans rfl; have fc1 := blk_frozen hc 1; have cc2 : W.cell? ⟨cb, 2, none⟩ = some (.int .i64 blk) := (blk_cell hc 2).trans rfl; have fc2 := blk_frozen hc 2; have cc3 : W.cell? ⟨cb, 3, none⟩ = some (.int .i64 ins) := (blk_cell hc 3).trans rfl; have fc3 := blk_frozen hc 3; have cc4 : W.cell? ⟨cb, 4, none⟩ = some (.int .i64 d) := (blk_cell hc 4).trans rfl; have fc4 := blk_frozen hc 4
  have hltc := blk_lt hc
  have hltr := blk_lt hr
  have HR := Aside0.mk hr
  have cd := row32_cell hr D hD0 (by omega)
  have fcd := row32_frozen hr D
  have ca := row32_cell hr A hA0 (by omega)
  have fca := row32_frozen hr A
  have cu := row32_cell hr B hB0 (by omega)
  have fcu := row32_frozen hr B
  obtain ⟨v, hv⟩ : ∃ v, get32 regs A = v := ⟨_, rfl⟩
  obtain ⟨u, hu⟩ : ∃ u, get32 regs B = u := ⟨_, rfl⟩
  rw [hv] at ca hw hok
  rw [hu] at cu hw2 hok
  obtain ⟨r1, r2, hun⟩ : ∃ r1 r2, binV op v u = (r1, r2) := ⟨_, _, rfl⟩
  rw [hun] at hok
  obtain rfl : r2 = false := hok
  have HU : Aside0 (word_Bin.f 1 op v u = some (r1, false)) := ⟨by rw [bin_is 0 op v u, hun]⟩
  have HCD := Aside0.mk cd
  have HCA := Aside0.mk ca
  have HCU := Aside0.mk cu
  clear hc hr hn hv hu cd ca cu fcd fca fcu hun hw hw2
  go_enter Try.func26, Try.ntmps26
  go_wp2
  have ht1 : Tr nil_ W (W.alloc (.cells #[.int .i64 4, .int .i64 op, .int .i64 D, .int .i64 A, .int .i64 B, .int .i32 num, .string nm, av] 44)) := (Tr.refl nil_ W).alloc _
  have hx1 : (W.alloc (.cells #[.int .i64 4, .int .i64 op, .int .i64 D, .int .i64 A, .int .i64 B, .int .i32 num, .string nm, av] 44)).heap[W.heap.size]? = some (.cells #[.int .i64 4, .int .i64 op, .int .i64 D, .int .i64 A, .int .i64 B, .int .i32 num, .string nm, av] 44 (0, 0)) := blk_new _ _
  generalize W.alloc (.cells #[.int .i64 4, .int .i64 op, .int .i64 D, .int .i64 A, .int .i64 B, .int .i32 num, .string nm, av] 44) = w1 at ht1 hx1 ⊢
  have ed := ht1.cell HCD.out (fun h => h)
  have ea := ht1.cell HCA.out (fun h => h)
  have eu := ht1.cell HCU.out (fun h => h)
  have hr1 := ht1.blk HR.out (fun h => h)
  have fd := row32_frozen hr1 D
  have e1 : w1.cell? ⟨W.heap.size, 1, none⟩ = some (.int .i64 op) := (blk_cell hx1 1).trans rfl
  have e2 : w1.cell? ⟨W.heap.size, 2, none⟩ = some (.int .i64 D) := (blk_cell hx1 2).trans rfl
  have e3 : w1.cell? ⟨W.heap.size, 3, none⟩ = some (.int .i64 A) := (blk_cell hx1 3).trans rfl
  have e4 : w1.cell? ⟨W.heap.size, 4, none⟩ = some (.int .i64 B) := (blk_cell hx1 4).trans rfl
  clear cc0 fc0 cc1 fc1 cc2 fc2 cc3 fc3 cc4 fc4
  have HT1 := Aside0.mk ht1
  have HR1 := Aside0.mk hr1
  clear ht1 hx1 hr1
  refine start_ (n := 18) (S := fun w_ => w_.cell? ⟨W.heap.size, 1, none⟩ = some (.int .i64 op) ∧ w_.cell? ⟨W.heap.size, 3, none⟩ = some (.int .i64 A) ∧ w_.cell? ⟨W.heap.size, 4, none⟩ = some (.int .i64 B) ∧ w_.cell? ⟨rb, A.toNat, none⟩ = some (.int .i32 v) ∧ w_.cell? ⟨rb, B.toNat, none⟩ = some (.int .i32 u) ∧ Aside0 (∃ k, w_ = w1.drewN k)) (ds := []) #[false, false, false, false, false, false, false, false, false, false, false, false, false, false, false, false, false, false] (by kernel_rfl) rfl rfl ⟨e1, e3, e4, ea, eu, ⟨⟨1, rfl⟩⟩⟩ (fun hHeld => ?_)
  refine pure_ (i := 0) (N := some 57) (v := ?_) (a' := ?_) #[true, false, false, false, false, false, false, false, false, false, false, false, false, false, false, false, false, false] rfl rfl (by kernel_rfl) (fun _ _ _ h => h) (Or.inl ⟨by rfl, ?_⟩) ?_ ?_
  rotate_left
  · intro w'
    go_simp
    with_reducible rfl
  rotate_left
  · simp only [ps_]
    rfl
  refine take_ (i := 1) (N := some 58) (v := ?_) (a' := ?_) #[true, true, false, false, false, false, false, false, false, false, false, false, false, false, false, false, false, false] rfl rfl (by kernel_rfl) (fun _ _ _ h => h) (Or.inl ⟨by rfl, ?_⟩) hHeld ?_ ?_
  rotate_left
  · rintro w' ⟨hs1_, hs2_, hs3_, hs4_, hs5_, hs6_⟩
    go_simp
    with_reducible rfl
  rotate_left
  · simp only [ps_]
    rfl
  refine pure_ (i := 2) (N := some 59) (v := ?_) (a' := ?_) #[true, true, true, false, false, false, false, false, false, false, false, false, false, false, false, false, false, false] rfl rfl (by kernel_rfl) (fun _ _ _ h => h) (Or.inl ⟨by rfl, ?_⟩) ?_ ?_
  rotate_left
  · intro w'
    go_simp
    with_reducible rfl
  rotate_left
  · simp only [ps_]
    rfl
  refine pure_ (i := 3) (N := some 60) (v := ?_) (a' := ?_) #[true, true, true, true, false, false, false, false, false, false, false, false, false, false, false, false, false, false] rfl rfl (by kernel_rfl) (fun _ _ _ h => h) (Or.inl ⟨by rfl, ?_⟩) ?_ ?_
  rotate_left
  · intro w'
    go_simp
    with_reducible rfl
  rotate_left
  · simp only [ps_]
    rfl
  refine take_ (i := 4) (N := some 61) (v := ?_) (a' := ?_) #[true, true, true, true, true, false, false, false, false, false, false, false, false, false, false, false, false, false] rfl rfl (by kernel_rfl) (fun _ _ _ h => h) (Or.inl ⟨by rfl, ?_⟩) hHeld ?_ ?_
  rotate_left
  · rintro w' ⟨hs1_, hs2_, hs3_, hs4_, hs5_, hs6_⟩
    go_simp
    with_reducible rfl
  rotate_left
  · simp only [ps_]
    rfl
  refine pure_ (i := 5) (N := some 62) (v := ?_) (a' := ?_) #[true, true, true, true, true, true, false, false, false, false, false, false, false, false, false, false, false, false] rfl rfl (by kernel_rfl) (fun _ _ _ h => h) (Or.inl ⟨by rfl, ?_⟩) ?_ ?_
  rotate_left
  · intro w'
    go_simp
    with_reducible rfl
  rotate_left
  · simp only [ps_]
    rfl
  refine take_ (i := 6) (N := some 63) (v := ?_) (a' := ?_) #[true, true, true, true, true, true, true, false, false, false, false, false, false, false, false, false, false, false] rfl rfl (by kernel_rfl) (fun _ _ _ h => h) (Or.inl ⟨by rfl, ?_⟩) hHeld ?_ ?_
  rotate_left
  · rintro w' ⟨hs1_, hs2_, hs3_, hs4_, hs5_, hs6_⟩
    go_simp
    with_reducible rfl
  rotate_left
  · simp only [ps_]
    rfl
  refine pure_ (i := 7) (N := some 64) (v := ?_) (a' := ?_) #[true, true, true, true, true, true, true, true, false, false, false, false, false, false, false, false, false, false] rfl rfl (by kernel_rfl) (fun _ _ _ h => h) (Or.inl ⟨by rfl, ?_⟩) ?_ ?_
  rotate_left
  · intro w'
    go_simp
    with_reducible rfl
  rotate_left
  · simp only [ps_]
    rfl
  refine pure_ (i := 8) (N := some 65) (v := ?_) (a' := ?_) #[true, true, true, true, true, true, true, true, true, false, false, false, false, false, false, false, false, false] rfl rfl (by kernel_rfl) (fun _ _ _ h => h) (Or.inl ⟨by rfl, ?_⟩) ?_ ?_
  rotate_left
  · intro w'
    go_simp
    with_reducible rfl
  rotate_left
  · simp only [ps_]
    rfl
  refine take_ (i := 9) (N := some 66) (v := ?_) (a' := ?_) #[true, true, true, true, true, true, true, true, true, true, false, false, false, false, false, false, false, false] rfl rfl (by kernel_rfl) (fun _ _ _ h => h) (Or.inl ⟨by rfl, ?_⟩) hHeld ?_ ?_
  rotate_left
  · rintro w' ⟨hs1_, hs2_, hs3_, hs4_, hs5_, hs6_⟩
    go_simp
    with_reducible rfl
  rotate_left
  · simp only [ps_]
    rfl
  refine pure_ (i := 10) (N := some 67) (v := ?_) (a' := ?_) #[true, true, true, true, true, true, true, true, true, true, true, false, false, false, false, false, false, false] rfl rfl (by kernel_rfl) (fun _ _ _ h => h) (Or.inl ⟨by rfl, ?_⟩) ?_ ?_
  rotate_left
  · intro w'
    go_simp
    with_reducible rfl
  rotate_left
  · simp only [ps_]
    rfl
  refine take_ (i := 11) (N := some 68) (v := ?_) (a' := ?_) #[true, true, true, true, true, true, true, true, true, true, true, true, false, false, false, false, false, false] rfl rfl (by kernel_rfl) (fun _ _ _ h => h) (Or.inl ⟨by rfl, ?_⟩) hHeld ?_ ?_
  rotate_left
  · rintro w' ⟨hs1_, hs2_, hs3_, hs4_, hs5_, hs6_⟩
    go_simp
    with_reducible rfl
  rotate_left
  · simp only [ps_]
    rfl
  refine one_ (i := 12) (N := some 69) #[true, true, true, true, true, true, true, true, true, true, true, true, true, false, false, false, false, false] rfl rfl (by kernel_rfl) (by decide) (fun K hK => ?_)
  refine goes_ Try.func36 (by kernel_rfl) rfl #[.int .i64 op, .int .i32 v, .int .i32 u] (by rfl) rfl rfl (by first | rfl | (simp only [List.map_toArray, List.map_cons, List.map_nil]; done) | (simp only [List.map_toArray, List.map_cons, List.map_nil]; rfl)) ?_
  refine (word_Bin.calls 1 _ _ _ _ _ _ HU.out).mono ?_
  rintro e_ w9 ⟨rfl, ⟨k9, rfl⟩⟩
  refine ⟨_, rfl, ?_⟩
  refine hK.out _ _ ⟨hHeld.1, hHeld.2.1, hHeld.2.2.1, hHeld.2.2.2.1, hHeld.2.2.2.2.1, ⟨by obtain ⟨k8, h8⟩ := hHeld.2.2.2.2.2.out; exact ⟨k8 + k9, by rw [h8, World.drewN_drewN]⟩⟩⟩ (fun hHeld => ?_)
  clear hK K
  refine norm_ (a' := ?_) ?_ ?_
  rotate_left
  · show Act.put _ (some 69) _ = _
    simp only [ps_]
    rfl
  refine pure_ (i := 13) (N := some 56) (v := ?_) (a' := ?_) #[true, true, true, true, true, true, true, true, true, true, true, true, true, true, false, false, false, false] rfl rfl (by kernel_rfl) (fun _ _ _ h => h) (Or.inl ⟨by rfl, ?_⟩) ?_ ?_
  rotate_left
  · intro w'
    go_simp
    with_reducible rfl
  rotate_left
  · simp only [ps_]
    rfl
  refine pure_ (i := 14) (N := some 70) (v := ?_) (a' := ?_) #[true, true, true, true, true, true, true, true, true, true, true, true, true, true, true, false, false, false] rfl rfl (by kernel_rfl) (fun _ _ _ h => h) (Or.inl ⟨by rfl, ?_⟩) ?_ ?_
  rotate_left
  · intro w'
    go_simp
    with_reducible rfl
  rotate_left
  · simp only [ps_]
    rfl
  refine pure_ (i := 15) (N := some 71) (v := ?_) (a' := ?_) #[true, true, true, true, true, true, true, true, true, true, true, true, true, true, true, true, false, false] rfl rfl (by kernel_rfl) (fun _ _ _ h => h) (Or.inl ⟨by rfl, ?_⟩) ?_ ?_
  rotate_left
  · intro w'
    go_simp
    with_reducible rfl
  rotate_left
  · simp only [ps_]
    rfl
  refine pure_ (i := 16) (N := some 7) (v := ?_) (a' := ?_) #[true, true, true, true, true, true, true, true, true, true, true, true, true, true, true, true, true, false] rfl rfl (by kernel_rfl) (fun _ _ _ h => h) (Or.inl ⟨by rfl, ?_⟩) ?_ ?_
  rotate_left
  · intro w'
    go_simp
    with_reducible rfl
  rotate_left
  · simp only [ps_]
    rfl
  refine pure_ (i := 17) (N := some 8) (v := ?_) (a' := ?_) #[true, true, true, true, true, true, true, true, true, true, true, true, true, true, true, true, true, true] rfl rfl (by kernel_rfl) (fun _ _ _ h => h) (Or.inl ⟨by rfl, ?_⟩) ?_ ?_
  rotate_left
  · intro w'
    go_simp
    with_reducible rfl
  rotate_left
  · simp only [ps_]
    rfl
  refine done_ (by kernel_rfl) ?_
  go_wp2
  exact ⟨rfl, rfl, HT1.out.drewN _⟩
end Go.Proofs.Ytabkinlpbefjgaa.L

