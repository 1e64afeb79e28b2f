/- The reference's Bin (layer 1), as printed: its two loops, and that it answers as word.Bin does. -/
import Derived.Test.YtfpaigfknohhfaaWdB
namespace Go.Proofs.Ytfpaigfknohhfaa.Pure
open Go.RowKit Go.Proofs.Ytfpaigfknohhfaa.X Go.Proofs.YtfpaigfknohhfaaW.PrintWords Go.Proofs.YtfpaigfknohhfaaW.PrintLast

theorem round_is (n : Int) (h0 : -9223372036854775808 ≤ n) (h1 : n ≤ 9223372036854775807) : brazierref01_Round.f n = some (wrap32 n) := by
  unfold brazierref01_Round.f
  obtain ⟨m, hm, hs⟩ : ∃ m, Int.tmod n 4294967296 = m ∧ (m % 4294967296 = n % 4294967296 ∧ -4294967296 < m ∧ m < 4294967296) := by
    refine ⟨_, rfl, ?_⟩
    by_cases c : 0 ≤ n
    · rw [tmod_nn c]; omega
    · rw [tmod_neg', tmod_nn (by omega)]; omega
  rw [hm]
  unfold wrap32 wrap64
  split
  · split <;> (congr 1; omega)
  · split <;> (congr 1; omega)
theorem bits_is (x : Int) (h : -2147483648 ≤ x ∧ x ≤ 2147483647) : brazierref01_bits.f x = some (nat32 x : Int) := by
  unfold brazierref01_bits.f
  rw [nat32_cast]
  by_cases c : x < 0
  · rw [if_pos c, w64 (n := x) (by omega) (by omega), w64 (by omega) (by omega)]; congr 1; omega
  · rw [if_neg c, w64 (by omega) (by omega)]; congr 1; omega
theorem floor_is (a k : Int) (ha : -2147483648 ≤ a ∧ a ≤ 2147483647) (hk : 1 ≤ k) (hk2 : k ≤ 2147483648) : brazierref01_floor.f a k = some (a / k) := by
  unfold brazierref01_floor.f
  have hq := Int.mul_ediv_add_emod a k
  have h0 := Int.emod_nonneg a (show k ≠ 0 by omega)
  have h1 := Int.emod_lt_of_pos a (show 0 < k by omega)
  have hb : -2147483648 ≤ a / k ∧ a / k ≤ 2147483647 := by
    constructor
    · rw [Int.le_ediv_iff_mul_le (by omega)]
      omega
    · rcases Int.lt_or_le a 0 with c | c
      · have := Int.ediv_neg_of_neg_of_pos c (show 0 < k by omega); omega
      · have := Int.ediv_le_self k c; omega
  have hqr : Int.tdiv a k = a / k ∨ (Int.tdiv a k = a / k + 1 ∧ a < (a / k + 1) * k ∧ a < 0) := by
    rw [Int.tdiv_eq_ediv]
    by_cases c : 0 ≤ a ∨ k ∣ a
    · simp [c]
    · right
      have hneg : a < 0 := by omega
      simp only [c, if_false]
      refine ⟨by rw [Int.sign_eq_one_of_pos (by omega)], ?_, hneg⟩
      rw [Int.add_mul, Int.one_mul, Int.mul_comm (a / k) k]; omega
  rw [if_neg (by omega)]
  have hm : (a / k) * k = k * (a / k) := Int.mul_comm _ _
  have hlo : -2147483648 - 2147483648 ≤ k * (a / k) := by omega
  rcases hqr with e | ⟨e, hlt, hneg⟩
  · rw [e, w64 (n := a / k) (by omega) (by omega), w64 (n := a / k * k) (by omega) (by omega), if_neg (by omega)]
  · rw [e, w64 (n := a / k + 1) (by omega) (by omega)]
    have hx : (a / k + 1) * k = k * (a / k) + k := by rw [Int.add_mul, Int.one_mul, hm]
    rw [hx] at hlt ⊢
    rw [w64 (n := k * (a / k) + k) (by omega) (by omega), if_pos (by omega), w64 (by omega) (by omega)]
    congr 1; omega
theorem truth_is (c : Bool) : brazierref01_truth.f c = some (if c = true then 1 else 0) := by
  unfold brazierref01_truth.f; cases c <;> rfl
theorem tdiv_bd (a b : Int) (ha : -2147483648 ≤ a ∧ a ≤ 2147483647) : -2147483648 ≤ Int.tdiv a b ∧ Int.tdiv a b ≤ 2147483648 := by
  have h := Int.natAbs_tdiv_le_natAbs a b
  omega
theorem tmod_bd (a b : Int) (ha : -2147483648 ≤ a ∧ a ≤ 2147483647) : -2147483648 ≤ Int.tmod a b ∧ Int.tmod a b ≤ 2147483647 := by
  have h := Int.natAbs_tmod a b
  have h2 := Nat.mod_le a.natAbs b.natAbs
  rcases Int.lt_or_le a 0 with c | c
  · have h1 := Int.tmod_nonneg b (show 0 ≤ -a by omega)
    have h3 := tmod_neg' (a := a) (b := b)
    omega
  · omega

/-- What the loops' end answers, place by place. -/
theorem bin_end (k : Nat) (op x y : Int) (hx : -2147483648 ≤ x ∧ x ≤ 2147483647) (hy : -2147483648 ≤ y ∧ y ≤ 2147483647) :
    brazierref01_Bin.l1 (k + 1) op x y x y (2 ^ (y % 32).toNat) ((nat32 x &&& nat32 y : Nat) : Int) ((nat32 x ||| nat32 y : Nat) : Int) 4294967296 32 = some (binV op x y) := by
  have hp0 : (1 : Int) ≤ 2 ^ (y % 32).toNat := Int.pow_pos (by decide)
  have hp1 : (2 : Int) ^ (y % 32).toNat ≤ 2147483648 := by
    have h1 : (y % 32).toNat ≤ 31 := by omega
    have h2 : (2 : Nat) ^ (y % 32).toNat ≤ 2 ^ 31 := Nat.pow_le_pow_right (by decide) h1
    have h3 : ((2 ^ (y % 32).toNat : Nat) : Int) ≤ ((2 ^ 31 : Nat) : Int) := by exact_mod_cast h2
    simpa using h3
  have hand := Nat.and_lt_two_pow (nat32 x) (n := 32) (nat32_lt y)
  have hor := Nat.or_lt_two_pow (n := 32) (nat32_lt x) (nat32_lt y)
  have hox := or_and_xor (nat32 x) (nat32 y)
  have hm : -4611686018427387904 ≤ x * y ∧ x * y ≤ 4611686018427387904 := by
    have h := Int.natAbs_mul x y
    have h2 : x.natAbs * y.natAbs ≤ 2147483648 * 2147483648 := Nat.mul_le_mul (by omega) (by omega)
    omega
  have hmp : -4611686018427387904 ≤ x * 2 ^ (y % 32).toNat ∧ x * 2 ^ (y % 32).toNat ≤ 4611686018427387904 := by
    have h := Int.natAbs_mul x (2 ^ (y % 32).toNat)
    have h2 : x.natAbs * ((2 : Int) ^ (y % 32).toNat).natAbs ≤ 2147483648 * 2147483648 := Nat.mul_le_mul (by omega) (by omega)
    omega
  have htd := tdiv_bd x y hx
  have htm := tmod_bd x y hx
  have hrem : x - Int.tdiv x y * y = Int.tmod x y := by rw [Int.tmod_def, Int.mul_comm]
  obtain ⟨p, hp⟩ : ∃ p : Int, 2 ^ (y % 32).toNat = p := ⟨_, rfl⟩
  rw [hp] at hp0 hp1 hmp ⊢
  simp only [brazierref01_Bin.l1]
  rw [if_neg (by decide)]
  by_cases h1 : op = 1
  · subst h1; rw [if_pos rfl, w64 (by omega) (by omega), round_is _ (by omega) (by omega)]; simp [binV]
  by_cases h2 : op = 2
  · subst h2; rw [if_neg (by decide), if_pos rfl, w64 (by omega) (by omega), round_is _ (by omega) (by omega)]; simp [binV]
  by_cases h3 : op = 3
  · subst h3; rw [if_neg (by decide), if_neg (by decide), if_pos rfl, w64 (by omega) (by omega), round_is _ (by omega) (by omega)]; simp [binV]
  rw [if_neg h1, if_neg h2, if_neg h3]
  by_cases h4 : op = 4
  · subst h4
    rw [if_pos rfl]
    by_cases hb : y = 0
    · simp [hb, binV]
    · rw [if_neg hb, w64 (by omega) (by omega), round_is _ (by omega) (by omega)]; simp [binV, hb]
  by_cases h5 : op = 5
  · subst h5
    rw [if_neg (by decide), if_pos rfl]
    by_cases hb : y = 0
    · simp [hb, binV]
    · rw [if_neg hb, w64 (n := Int.tdiv x y) (by omega) (by omega)]
      have hq : -9223372036854775808 ≤ Int.tdiv x y * y ∧ Int.tdiv x y * y ≤ 9223372036854775807 := by omega
      rw [w64 hq.1 hq.2, hrem, w64 (by omega) (by omega), round_is _ (by omega) (by omega)]
      simp [binV, hb, w32 htm.1 htm.2]
  rw [if_neg h4, if_neg h5]
  by_cases h6 : op = 6
  · subst h6; rw [if_pos rfl, w64 (by omega) (by omega), round_is _ (by omega) (by omega)]; simp [binV, hp]
  by_cases h7 : op = 7
  · subst h7
    rw [if_neg (by decide), if_pos rfl, floor_is x p hx hp0 hp1]
    have hb : -2147483648 ≤ x / p ∧ x / p ≤ 2147483647 := by
      constructor
      · rw [Int.le_ediv_iff_mul_le (by omega)]; omega
      · rcases Int.lt_or_le x 0 with c | c
        · have := Int.ediv_neg_of_neg_of_pos c (show 0 < p by omega); omega
        · have := Int.ediv_le_self p c; omega
    simp only [Option.bind_some]
    rw [round_is _ (by omega) (by omega), w32 hb.1 hb.2]; simp [binV, hp]
  rw [if_neg h6, if_neg h7]
  by_cases h8 : op = 8
  · subst h8; rw [if_pos rfl, round_is _ (by omega) (by omega)]; simp [binV, bits_and_nat]
  by_cases h9 : op = 9
  · subst h9; rw [if_neg (by decide), if_pos rfl, round_is _ (by omega) (by omega)]; simp [binV, bits_or_nat]
  by_cases h10 : op = 10
  · subst h10
    have he : (((nat32 x ||| nat32 y : Nat) : Int) - ((nat32 x &&& nat32 y : Nat) : Int)) = ((nat32 x ^^^ nat32 y : Nat) : Int) := by omega
    rw [if_neg (by decide), if_neg (by decide), if_pos rfl, w64 (by omega) (by omega), round_is _ (by omega) (by omega), he]; simp [binV, bits_xor_nat]
  rw [if_neg h8, if_neg h9, if_neg h10]
  by_cases h11 : op = 11
  · subst h11; by_cases c : x < y <;> simp [truth_is, binV, c]
  by_cases h12 : op = 12
  · subst h12; by_cases c : x ≤ y <;> simp [truth_is, binV, c]
  by_cases h13 : op = 13
  · subst h13; by_cases c : y < x <;> simp [truth_is, binV, c]
  by_cases h14 : op = 14
  · subst h14; by_cases c : y ≤ x <;> simp [truth_is, binV, c]
  by_cases h15 : op = 15
  · subst h15; by_cases c : x = y <;> simp [truth_is, binV, c]
  by_cases h16 : op = 16
  · subst h16; by_cases c : x = y <;> simp [truth_is, binV, c]
  by_cases h17 : op = 17
  · subst h17
    rw [w64 (n := x * y) (by omega) (by omega)]
    by_cases c : x = 0 <;> by_cases d : y = 0 <;> simp [truth_is, binV, c, d]
  by_cases h18 : op = 18
  · subst h18; by_cases c : x = 0 <;> by_cases d : y = 0 <;> simp [truth_is, binV, c, d]
  rw [if_neg h11, if_neg h12, if_neg h13, if_neg h14, if_neg h15, if_neg h16, if_neg h17, if_neg h18]
  unfold binV
  repeat (rw [if_neg (by assumption)])

theorem half_is (X T : Nat) (hX : X < 4294967296) : Int.tmod (wrap64 (Int.tdiv (X : Int) (T : Int))) 2 = ((X / T % 2 : Nat) : Int) := by
  rw [tdiv_nn (by omega), ← Int.natCast_ediv]
  have hd : X / T ≤ X := Nat.div_le_self _ _
  generalize X / T = q at *
  rw [w64 (by omega) (by omega), tmod_nn (by omega)]
  omega
theorem add_w {A B : Int} (h0 : -9223372036854775808 ≤ B) (h1 : B ≤ 9223372036854775807) (h2 : -9223372036854775808 ≤ A + B) (h3 : A + B ≤ 9223372036854775807) : wrap64 (A + wrap64 B) = A + B := by
  rw [w64 h0 h1, w64 h2 h3]
theorem l1_congr (k : Nat) (op x y : Int) {p a a' o o' t t' i : Int} (ha : a = a') (ho : o = o') (ht : t = t') : brazierref01_Bin.l1 k op x y x y p a o t i = brazierref01_Bin.l1 k op x y x y p a' o' t' i := by rw [ha, ho, ht]
theorem l0_congr (k : Nat) (op x y : Int) {p p' i i' : Int} (ha : p = p') (ho : i = i') : brazierref01_Bin.l0 k op x y x y p i = brazierref01_Bin.l0 k op x y x y p' i' := by rw [ha, ho]
theorem bin_l1 (op x y : Int) (hx : -2147483648 ≤ x ∧ x ≤ 2147483647) (hy : -2147483648 ≤ y ∧ y ≤ 2147483647) (d : Nat) : ∀ (k i : Nat), i + d = 32 → d < k →
    brazierref01_Bin.l1 k op x y x y (2 ^ (y % 32).toNat) (((nat32 x &&& nat32 y) % 2 ^ i : Nat) : Int) (((nat32 x ||| nat32 y) % 2 ^ i : Nat) : Int) ((2 ^ i : Nat) : Int) (i : Int) = some (binV op x y) := by
  induction d with
  | zero =>
    intro k i hi hk
    obtain ⟨k, rfl⟩ : ∃ m, k = m + 1 := ⟨k - 1, by omega⟩
    obtain rfl : i = 32 := by omega
    have h := bin_end k op x y hx hy
    have e1 := Nat.mod_eq_of_lt (Nat.and_lt_two_pow (nat32 x) (n := 32) (nat32_lt y))
    have e2 := Nat.mod_eq_of_lt (Nat.or_lt_two_pow (n := 32) (nat32_lt x) (nat32_lt y))
    have e3 : ((2 ^ 32 : Nat) : Int) = 4294967296 := by decide
    have e4 : ((32 : Nat) : Int) = 32 := rfl
    rw [e1, e2, e3, e4]
    with_reducible exact h
  | succ d ih =>
    intro k i hi hk
    obtain ⟨k, rfl⟩ : ∃ m, k = m + 1 := ⟨k - 1, by omega⟩
    have h := ih k (i + 1) (by omega) (by omega)
    simp only [brazierref01_Bin.l1]
    have hp0 : 0 < 2 ^ i := Nat.pow_pos (by decide)
    have hp1 : 2 ^ i ≤ 2147483648 := by
      have := Nat.pow_le_pow_right (show 0 < 2 by decide) (show i ≤ 31 by omega)
      simpa using this
    rw [if_pos (by omega), bits_is x hx, bits_is y hy]
    simp only [Option.bind_some]
    rw [if_neg (by omega)]
    rw [half_is _ _ (nat32_lt x), half_is _ _ (nat32_lt y)]
    have ha := mod_more (nat32 x &&& nat32 y) i
    have ho := mod_more (nat32 x ||| nat32 y) i
    rw [bit_and] at ha
    rw [bit_or] at ho
    have hla := Nat.mod_lt (nat32 x &&& nat32 y) hp0
    have hlo := Nat.mod_lt (nat32 x ||| nat32 y) hp0
    have hps : 2 ^ (i + 1) = 2 ^ i * 2 := Nat.pow_succ ..
    rw [ha, ho, hps] at h
    generalize (nat32 x &&& nat32 y) % 2 ^ i = A at *
    generalize (nat32 x ||| nat32 y) % 2 ^ i = O at *
    have hb1 := Nat.mod_two_eq_zero_or_one (nat32 x / 2 ^ i)
    have hb2 := Nat.mod_two_eq_zero_or_one (nat32 y / 2 ^ i)
    generalize nat32 x / 2 ^ i % 2 = p at *
    generalize nat32 y / 2 ^ i % 2 = q at *
    generalize 2 ^ i = T at *
    clear ha ho hps ih
    have ei : wrap64 ((i : Int) + 1) = ((i + 1 : Nat) : Int) := by rw [w64 (by omega) (by omega)]; rfl
    rw [ei]
    have z0 : wrap64 0 = 0 := by unfold wrap64; decide
    have z1 : wrap64 1 = 1 := by unfold wrap64; decide
    have z2 : wrap64 2 = 2 := by unfold wrap64; decide
    rcases hb1 with rfl | rfl <;> rcases hb2 with rfl | rfl <;> simp only [Int.natCast_zero, Int.natCast_one, Int.mul_zero, Int.mul_one, Int.add_zero, Int.zero_add, Int.sub_zero, Int.reduceAdd, Int.reduceSub, Nat.zero_mul, Nat.one_mul, Nat.mul_zero, Nat.mul_one, Nat.add_zero, Nat.zero_add, Nat.sub_zero, Nat.reduceAdd, Nat.reduceSub, z0, z1, z2] at h ⊢ <;> (refine Eq.trans (l1_congr _ _ _ _ ?_ ?_ ?_) h <;> first | (rw [add_w (by omega) (by omega) (by omega) (by omega)]; omega) | (rw [w64 (by omega) (by omega)]; omega))

theorem bin_l0 (op x y : Int) (hx : -2147483648 ≤ x ∧ x ≤ 2147483647) (hy : -2147483648 ≤ y ∧ y ≤ 2147483647) (d : Nat) : ∀ (k i : Nat), i + d = (y % 32).toNat → d + 33 < k →
    brazierref01_Bin.l0 k op x y x y ((2 ^ i : Nat) : Int) (i : Int) = some (binV op x y) := by
  induction d with
  | zero =>
    intro k i hi hk
    obtain ⟨k, rfl⟩ : ∃ m, k = m + 1 := ⟨k - 1, by omega⟩
    simp only [brazierref01_Bin.l0]
    rw [bits_is y hy]
    simp only [Option.bind_some]
    have hn := nat32_cast y
    rw [tmod_nn (by omega), if_neg (by omega)]
    have h := bin_l1 op x y hx hy 32 k 0 (by omega) (by omega)
    obtain rfl : i = (y % 32).toNat := by omega
    simp only [Nat.pow_zero, Nat.mod_one, Int.natCast_zero, Int.natCast_one] at h
    have hp : ((2 ^ (y % 32).toNat : Nat) : Int) = 2 ^ (y % 32).toNat := by simp
    rw [hp]
    exact h
  | succ d ih =>
    intro k i hi hk
    obtain ⟨k, rfl⟩ : ∃ m, k = m + 1 := ⟨k - 1, by omega⟩
    have h := ih k (i + 1) (by omega) (by omega)
    simp only [brazierref01_Bin.l0]
    rw [bits_is y hy]
    simp only [Option.bind_some]
    have hn := nat32_cast y
    have hp1 : 2 ^ i ≤ 2147483648 := by
      have := Nat.pow_le_pow_right (show 0 < 2 by decide) (show i ≤ 31 by omega)
      simpa using this
    rw [tmod_nn (by omega), if_pos (by omega)]
    rw [Nat.pow_succ] at h
    generalize 2 ^ i = T at *
    refine Eq.trans (l0_congr _ _ _ _ ?_ ?_) h <;> (rw [w64 (by omega) (by omega)]; omega)
theorem refbin_is (k : Nat) (hk : 70 ≤ k) (op x y : Int) (hx : -2147483648 ≤ x ∧ x ≤ 2147483647) (hy : -2147483648 ≤ y ∧ y ≤ 2147483647) : brazierref01_Bin.f k op x y = some (binV op x y) := by
  unfold brazierref01_Bin.f
  rw [w64 (by omega) (by omega), w64 (by omega) (by omega)]
  exact bin_l0 op x y hx hy (y % 32).toNat k 0 (by omega) (by omega)
end Go.Proofs.Ytfpaigfknohhfaa.Pure
