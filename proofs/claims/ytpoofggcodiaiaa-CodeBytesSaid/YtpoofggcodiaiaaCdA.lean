/- Fields of words of 32 bits: cut out, laid in, put together. No Go, no program. -/
import Derived.Test.YtpoofggcodiaiaaWdA
namespace Go.Proofs.Ytpoofggcodiaiaa.Pure
open Go.RowKit

theorem or_u32 {x y : Nat} (hx : x < 4294967296) (hy : y < 4294967296) : Go.bits .or .u32 (x : Int) (y : Int) = ((x ||| y : Nat) : Int) := by
  show IntKind.u32.wrap (((BitVec.ofInt 32 (x : Int) ||| BitVec.ofInt 32 (y : Int)).toNat : Nat) : Int) = _
  have hl : x ||| y < 4294967296 := Nat.or_lt_two_pow (n := 32) hx hy
  rw [BitVec.toNat_or, ofInt_toNat, ofInt_toNat, IntKind.wrap_u32, show ((x : Int) % 4294967296).toNat = x from by omega, show ((y : Int) % 4294967296).toNat = y from by omega]
  omega
theorem and_u32 {x y : Nat} (hx : x < 4294967296) (hy : y < 4294967296) : Go.bits .and .u32 (x : Int) (y : Int) = ((x &&& y : Nat) : Int) := by
  show IntKind.u32.wrap (((BitVec.ofInt 32 (x : Int) &&& BitVec.ofInt 32 (y : Int)).toNat : Nat) : Int) = _
  have hl : x &&& y < 4294967296 := Nat.lt_of_le_of_lt Nat.and_le_left hx
  rw [BitVec.toNat_and, ofInt_toNat, ofInt_toNat, IntKind.wrap_u32, show ((x : Int) % 4294967296).toNat = x from by omega, show ((y : Int) % 4294967296).toNat = y from by omega]
  omega
/-- Some bits of a word, from one on. -/
def cut (w f m : Nat) : Nat := w / 2 ^ f % 2 ^ m
/-- A number, at a place of a word. -/
def fld (x a : Nat) : Nat := x * 2 ^ a
theorem cut_lt (w f m : Nat) : cut w f m < 2 ^ m := Nat.mod_lt _ (Nat.two_pow_pos _)
theorem cut_or (x y f m : Nat) : cut (x ||| y) f m = (cut x f m ||| cut y f m) := by
  unfold cut
  rw [← Nat.shiftRight_eq_div_pow, ← Nat.shiftRight_eq_div_pow, ← Nat.shiftRight_eq_div_pow, Nat.shiftRight_or_distrib, Nat.or_mod_two_pow]
theorem cut_lo {x a f m : Nat} (h : f + m ≤ a) : cut (fld x a) f m = 0 := by
  unfold cut fld
  obtain ⟨c, rfl⟩ := Nat.exists_eq_add_of_le h
  rw [Nat.pow_add, Nat.pow_add, show x * (2 ^ f * 2 ^ m * 2 ^ c) = (2 ^ f) * ((x * 2 ^ c) * 2 ^ m) from by ac_rfl, Nat.mul_div_cancel_left _ (Nat.two_pow_pos _), Nat.mul_mod_left]
theorem cut_hi {x a f m c : Nat} (hx : x < 2 ^ c) (h : c + a ≤ f) : cut (fld x a) f m = 0 := by
  unfold cut fld
  have h1 : x * 2 ^ a < 2 ^ f := by
    calc x * 2 ^ a < 2 ^ c * 2 ^ a := Nat.mul_lt_mul_of_pos_right hx (Nat.two_pow_pos _)
      _ = 2 ^ (c + a) := (Nat.pow_add ..).symm
      _ ≤ 2 ^ f := Nat.pow_le_pow_right (by decide) h
  rw [Nat.div_eq_of_lt h1, Nat.zero_mod]
theorem cut_at {x a m : Nat} (hx : x < 2 ^ m) : cut (fld x a) a m = x := by
  unfold cut fld
  rw [Nat.mul_div_cancel _ (Nat.two_pow_pos _), Nat.mod_eq_of_lt hx]
theorem cut_zero (f m : Nat) : cut 0 f m = 0 := by unfold cut; simp
theorem fld_zero (a : Nat) : fld 0 a = 0 := by unfold fld; simp
theorem or_add {x a : Nat} (y : Nat) (h : x < 2 ^ a) : (x ||| fld y a) = x + fld y a := by
  have := Nat.two_pow_add_eq_or_of_lt h y
  unfold fld
  rw [Nat.mul_comm y, Nat.or_comm, ← this, Nat.add_comm]
/-- Fields beside one another are one. -/
theorem cut_join (w f m j : Nat) : cut w f (m + j) = cut w f m + 2 ^ m * cut w (f + m) j := by
  unfold cut
  rw [Nat.pow_add 2 m j, Nat.mod_mul, Nat.pow_add, Nat.div_div_eq_div_mul]
theorem fld_join (w f m j a : Nat) : (fld (cut w f m) a ||| fld (cut w (f + m) j) (a + m)) = fld (cut w f (m + j)) a := by
  have h1 : fld (cut w f m) a < 2 ^ (a + m) := by
    unfold fld
    rw [Nat.add_comm a m, Nat.pow_add]
    exact Nat.mul_lt_mul_of_pos_right (cut_lt ..) (Nat.two_pow_pos _)
  rw [or_add _ h1, cut_join]
  unfold fld
  rw [Nat.add_mul, Nat.pow_add]
  congr 1
  ac_rfl
theorem fld_lt {x a m : Nat} (hx : x < 2 ^ m) (h : a + m ≤ 32) : fld x a < 4294967296 := by
  unfold fld
  calc x * 2 ^ a < 2 ^ m * 2 ^ a := Nat.mul_lt_mul_of_pos_right hx (Nat.two_pow_pos _)
    _ = 2 ^ (m + a) := (Nat.pow_add ..).symm
    _ ≤ 2 ^ 32 := Nat.pow_le_pow_right (by decide) (by omega)
theorem or_lt32 {x y : Nat} (hx : x < 4294967296) (hy : y < 4294967296) : x ||| y < 4294967296 := Nat.or_lt_two_pow (n := 32) hx hy
theorem cut_lt32 {w : Nat} (f m : Nat) (h : m ≤ 32) : cut w f m < 4294967296 := Nat.lt_of_lt_of_le (cut_lt ..) (Nat.pow_le_pow_right (n := 2) (by decide) h)
/-- A number of m bits whose highest is its sign. -/
def sgn (x m : Nat) : Int := if x < 2 ^ (m - 1) then (x : Int) else (x : Int) - 2 ^ m
theorem cut_nat32 (n : Int) (f m : Nat) (h : f + m ≤ 32) : (cut (nat32 n) f m : Int) = n / 2 ^ f % 2 ^ m := by
  unfold cut
  have hn := nat32_cast n
  have e : (4294967296 : Int) = 2 ^ f * 2 ^ (32 - f) := by
    rw [← Int.pow_add, show f + (32 - f) = 32 from by omega]; decide
  have p1 : (0 : Int) < 2 ^ f := Int.pow_pos (by decide)
  rw [Int.natCast_emod, Int.natCast_ediv, hn, e]
  push_cast
  rw [Int.emod_def n, Int.mul_assoc, show n - 2 ^ f * (2 ^ (32 - f) * (n / (2 ^ f * 2 ^ (32 - f)))) = n + 2 ^ f * (-(2 ^ (32 - f) * (n / (2 ^ f * 2 ^ (32 - f))))) from by rw [Int.mul_neg]; omega,
    Int.add_mul_ediv_left _ _ (by omega)]
  obtain ⟨c, hc⟩ := Nat.exists_eq_add_of_le (show m ≤ 32 - f from by omega)
  rw [show (2 : Int) ^ (32 - f) = 2 ^ m * 2 ^ c from by rw [hc, Int.pow_add], ← Int.mul_neg, Int.mul_assoc (2 ^ m), Int.add_mul_emod_self_left]
end Go.Proofs.Ytpoofggcodiaiaa.Pure
