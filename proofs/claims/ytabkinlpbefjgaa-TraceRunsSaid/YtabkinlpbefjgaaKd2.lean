/- Texts of this seat that a claim bears, put together by this session's own program shake.py: WdA. -/
import Derived.RowKit
import Derived.Laws.BitsAllLaws
import Derived.Laws.BitsLemmas
import Derived.DataShut
namespace Go.Proofs.Ytabkinlpbefjgaa.Pure
open Go.RowKit
theorem w64 {n : Int} (h0 : -9223372036854775808 ≤ n) (h1 : n ≤ 9223372036854775807) : wrap64 n = n := by unfold wrap64; omega
theorem w32 {n : Int} (h0 : -2147483648 ≤ n) (h1 : n ≤ 2147483647) : wrap32 n = n := by unfold wrap32; omega
theorem wrap32_lo (n : Int) : -2147483648 ≤ wrap32 n ∧ wrap32 n ≤ 2147483647 := by unfold wrap32; omega
theorem i32_wrap (n : Int) : IntKind.i32.wrap n = wrap32 n := by rw [IntKind.wrap_i32]; rfl
theorem wrap32_congr {a b : Int} (h : a % 4294967296 = b % 4294967296) : wrap32 a = wrap32 b := by unfold wrap32; omega
theorem tdiv_nn {a b : Int} (h : 0 ≤ a) : Int.tdiv a b = a / b := Int.tdiv_eq_ediv_of_nonneg h
theorem tmod_nn {a b : Int} (h : 0 ≤ a) : Int.tmod a b = a % b := Int.tmod_eq_emod_of_nonneg h
theorem tmod_neg' {a b : Int} : Int.tmod a b = -(Int.tmod (-a) b) := by rw [Int.neg_tmod]; omega
theorem ofInt_toNat (x : Int) : (BitVec.ofInt 32 x).toNat = (x % 4294967296).toNat := by simp [BitVec.toNat_ofInt]
def nat32 (x : Int) : Nat := (x % 4294967296).toNat
theorem nat32_lt (x : Int) : nat32 x < 4294967296 := by unfold nat32; omega
theorem nat32_cast (x : Int) : (nat32 x : Int) = x % 4294967296 := by unfold nat32; omega
theorem bits_and_nat (x y : Int) : Go.bits .and .i32 x y = wrap32 ((nat32 x &&& nat32 y : Nat) : Int) := by
  rw [← i32_wrap]
  show IntKind.i32.wrap (((BitVec.ofInt 32 x &&& BitVec.ofInt 32 y).toNat : Nat) : Int) = _
  rw [BitVec.toNat_and, ofInt_toNat, ofInt_toNat]; rfl
theorem bits_or_nat (x y : Int) : Go.bits .or .i32 x y = wrap32 ((nat32 x ||| nat32 y : Nat) : Int) := by
  rw [← i32_wrap]
  show IntKind.i32.wrap (((BitVec.ofInt 32 x ||| BitVec.ofInt 32 y).toNat : Nat) : Int) = _
  rw [BitVec.toNat_or, ofInt_toNat, ofInt_toNat]; rfl
theorem bits_xor_nat (x y : Int) : Go.bits .xor .i32 x y = wrap32 ((nat32 x ^^^ nat32 y : Nat) : Int) := by
  rw [← i32_wrap]
  show IntKind.i32.wrap (((BitVec.ofInt 32 x ^^^ BitVec.ofInt 32 y).toNat : Nat) : Int) = _
  rw [BitVec.toNat_xor, ofInt_toNat, ofInt_toNat]; rfl
theorem bit_and (x y i : Nat) : (x &&& y) / 2 ^ i % 2 = (x / 2 ^ i % 2) * (y / 2 ^ i % 2) := by
  have h := Nat.testBit_and x y i
  simp only [Nat.testBit_eq_decide_div_mod_eq] at h
  have h1 := Nat.mod_two_eq_zero_or_one (x / 2 ^ i)
  have h2 := Nat.mod_two_eq_zero_or_one (y / 2 ^ i)
  have h3 := Nat.mod_two_eq_zero_or_one ((x &&& y) / 2 ^ i)
  rcases h1 with h1 | h1 <;> rcases h2 with h2 | h2 <;> rcases h3 with h3 | h3 <;> simp [h1, h2, h3] at h ⊢
theorem bit_or (x y i : Nat) : (x ||| y) / 2 ^ i % 2 = (x / 2 ^ i % 2) + (y / 2 ^ i % 2) - (x / 2 ^ i % 2) * (y / 2 ^ i % 2) := by
  have h := Nat.testBit_or x y i
  simp only [Nat.testBit_eq_decide_div_mod_eq] at h
  have h1 := Nat.mod_two_eq_zero_or_one (x / 2 ^ i)
  have h2 := Nat.mod_two_eq_zero_or_one (y / 2 ^ i)
  have h3 := Nat.mod_two_eq_zero_or_one ((x ||| y) / 2 ^ i)
  rcases h1 with h1 | h1 <;> rcases h2 with h2 | h2 <;> rcases h3 with h3 | h3 <;> simp [h1, h2, h3] at h ⊢
theorem mod_more (x i : Nat) : x % 2 ^ (i + 1) = x % 2 ^ i + (x / 2 ^ i % 2) * 2 ^ i := by
  rw [Nat.mod_pow_succ, Nat.mul_comm]
theorem or_and_xor (x y : Nat) : (x ||| y) = (x ^^^ y) + (x &&& y) := by
  have key : ∀ n, (x ||| y) % 2 ^ n = (x ^^^ y) % 2 ^ n + (x &&& y) % 2 ^ n := by
    intro n
    induction n with
    | zero => simp [Nat.mod_one]
    | succ n ih =>
      rw [mod_more, mod_more (x ^^^ y), mod_more (x &&& y), ih]
      have hb : (x ||| y) / 2 ^ n % 2 = (x ^^^ y) / 2 ^ n % 2 + (x &&& y) / 2 ^ n % 2 := by
        have h := Nat.testBit_xor x y n
        simp only [Nat.testBit_eq_decide_div_mod_eq] at h
        rw [bit_or, bit_and]
        have h1 := Nat.mod_two_eq_zero_or_one (x / 2 ^ n)
        have h2 := Nat.mod_two_eq_zero_or_one (y / 2 ^ n)
        have h3 := Nat.mod_two_eq_zero_or_one ((x ^^^ y) / 2 ^ n)
        rcases h1 with h1 | h1 <;> rcases h2 with h2 | h2 <;> rcases h3 with h3 | h3 <;> simp [h1, h2, h3] at h ⊢
      rw [hb, Nat.add_mul]
      omega
  have hx : x < 2 ^ (x + y) := Nat.lt_of_lt_of_le Nat.lt_two_pow_self (Nat.pow_le_pow_right (by decide) (by omega))
  have hy : y < 2 ^ (x + y) := Nat.lt_of_lt_of_le Nat.lt_two_pow_self (Nat.pow_le_pow_right (by decide) (by omega))
  have := key (x + y)
  rwa [Nat.mod_eq_of_lt (Nat.or_lt_two_pow hx hy), Nat.mod_eq_of_lt (Nat.xor_lt_two_pow hx hy), Nat.mod_eq_of_lt (Nat.and_lt_two_pow x hy)] at this
end Go.Proofs.Ytabkinlpbefjgaa.Pure

