/- WordRing, pure: sums and products of words may be turned round and taken together. No condition. -/
import Derived.Test.YtfpaigfknohhfaaWdB
import Derived.Test.YtfpaigfknohhfaaX4
namespace Go.Proofs.Ytfpaigfknohhfaa.Pure
open Go.RowKit Go.Proofs.Ytfpaigfknohhfaa.X Go.Proofs.YtfpaigfknohhfaaW.PrintWords Go.Proofs.YtfpaigfknohhfaaW.PrintLast

theorem bin_comm (op a b : Int) (h : op = 1 ∨ op = 3 ∨ op = 8 ∨ op = 9 ∨ op = 10) : (binV op a b).1 = (binV op b a).1 := by
  rcases h with rfl | rfl | rfl | rfl | rfl <;> simp only [binV, bits_and32, bits_or32, bits_xor32] <;> simp only [Int.reduceEq, if_true, if_false]
  · rw [Int.add_comm]
  · rw [Int.mul_comm]
  · rw [BitVec.and_comm]
  · rw [BitVec.or_comm]
  · rw [BitVec.xor_comm]
theorem bin_assoc (op a b c : Int) (h : op = 1 ∨ op = 3 ∨ op = 8 ∨ op = 9 ∨ op = 10) : (binV op (binV op a b).1 c).1 = (binV op a (binV op b c).1).1 := by
  rcases h with rfl | rfl | rfl | rfl | rfl <;> simp only [binV, bits_and32, bits_or32, bits_xor32, add_bv, mul_bv] <;> simp only [Int.reduceEq, if_true, if_false, BitVec.ofInt_toInt]
  · rw [BitVec.add_assoc]
  · rw [BitVec.mul_assoc]
  · rw [BitVec.and_assoc]
  · rw [BitVec.or_assoc]
  · rw [BitVec.xor_assoc]
theorem bin_dist (a b c : Int) : (binV 3 a (binV 1 b c).1).1 = (binV 1 (binV 3 a b).1 (binV 3 a c).1).1 := by
  simp only [binV, add_bv, mul_bv]; simp only [Int.reduceEq, if_true, if_false, BitVec.ofInt_toInt, BitVec.mul_add]
theorem bin_back (a b : Int) (ha : -2147483648 ≤ a ∧ a ≤ 2147483647) : (binV 1 (binV 2 a b).1 b).1 = a := by
  simp only [binV]; simp only [Int.reduceEq, if_true, if_false]
  unfold wrap32; omega
theorem ring_end (k : Nat) (hk : 40 ≤ k) (a b c : Int) (ha : -2147483648 ≤ a ∧ a ≤ 2147483647) : brazierlaw01_WordRing.l0 (k + 1) a b c [1, 3, 8, 9, 10] 5 5 = some true := by
  obtain ⟨m, rfl⟩ : ∃ m, k = m + 1 := ⟨k - 1, by omega⟩
  simp only [brazierlaw01_WordRing.l0]
  rw [if_neg (by decide)]
  simp only [bin_is, Option.bind_some]
  rw [if_pos (bin_dist a b c), if_pos (bin_back a b ha), at_rounds brazierlaw01_lives.mono hk lives_at]
  rfl
theorem ring_step (k : Nat) (a b c i op : Int) (h0 : 0 ≤ i) (h5 : i < 5) (ho : rd [1, 3, 8, 9, 10] i = op) (h : op = 1 ∨ op = 3 ∨ op = 8 ∨ op = 9 ∨ op = 10) :
    brazierlaw01_WordRing.l0 (k + 2) a b c [1, 3, 8, 9, 10] 5 i = brazierlaw01_WordRing.l0 (k + 1) a b c [1, 3, 8, 9, 10] 5 (i + 1) := by
  rw [show k + 2 = (k + 1) + 1 from rfl]
  simp only [brazierlaw01_WordRing.l0]
  rw [if_pos h5, if_pos h0, if_pos (by simpa using h5), ho]
  simp only [bin_is, Option.bind_some]
  rw [if_pos (bin_comm op a b h), if_pos (bin_assoc op a b c h), w64 (by omega) (by omega)]
theorem WordRing : brazierlaw01_WordRing.Pure := by
  intro a b c h0 h1 h2
  refine ⟨46, ?_⟩
  unfold brazierlaw01_WordRing.f
  simp only [Option.bind_some]
  show brazierlaw01_WordRing.l0 46 a b c [1, 3, 8, 9, 10] 5 0 = some true
  rw [ring_step 44 a b c 0 1 (by decide) (by decide) rfl (by decide), ring_step 43 a b c (0 + 1) 3 (by decide) (by decide) rfl (by decide), ring_step 42 a b c (0 + 1 + 1) 8 (by decide) (by decide) rfl (by decide),
    ring_step 41 a b c (0 + 1 + 1 + 1) 9 (by decide) (by decide) rfl (by decide), ring_step 40 a b c (0 + 1 + 1 + 1 + 1) 10 (by decide) (by decide) rfl (by decide)]
  exact ring_end 40 (by decide) a b c (wf32 h0)
end Go.Proofs.Ytfpaigfknohhfaa.Pure
