/- The reference's Encode as printed: it answers a line's word. -/
import Derived.Test.YtpoofggcodiaiaaCdE
import Derived.Test.YtpoofggcodiaiaaX12
import Derived.Test.YtpoofggcodiaiaaX11
set_option linter.unusedSimpArgs false
set_option linter.unusedVariables false
namespace Go.Proofs.Ytpoofggcodiaiaa.Pure
open Go.RowKit Go.Proofs.Ytpoofggcodiaiaa.X Go.Proofs.YtpoofggcodiaiaaW.PrintWords Go.Proofs.YtpoofggcodiaiaaW.PrintLast

theorem half_of {x : Int} (h : -4611686018427387904 ≤ x ∧ x ≤ 4611686018427387904) : (Int.tmod x 2 = 0 → wrap64 (Int.tdiv x 2) = x / 2) ∧ (Int.tmod x 2 ≠ 0 → x < 0 → wrap64 (Int.tdiv (wrap64 (x - 1)) 2) = x / 2) ∧ (¬ x < 0 → wrap64 (Int.tdiv x 2) = x / 2) ∧ (Int.tmod x 2 = 0 ↔ x % 2 = 0) := by
  by_cases h0 : 0 ≤ x
  · rw [tdiv_nn h0, tmod_nn h0]
    refine ⟨fun _ => w64 (by omega) (by omega), fun _ c => absurd c (by omega), fun _ => w64 (by omega) (by omega), Iff.rfl⟩
  · have e : Int.tmod x 2 = -((-x) % 2) := by rw [tmod_neg', tmod_nn (by omega)]
    have e2 : Int.tdiv x 2 = -((-x) / 2) := by rw [tdiv_neg', tdiv_nn (by omega)]
    rw [e, e2]
    refine ⟨fun c => ?_, fun c _ => ?_, fun c => absurd c (by omega), by omega⟩
    · rw [w64 (by omega) (by omega)]; omega
    · rw [w64 (n := x - 1) (by omega) (by omega), tdiv_neg', tdiv_nn (by omega), w64 (by omega) (by omega)]; omega
theorem bit_is : ∀ (i : Nat) (x : Int) (k : Nat), -4611686018427387904 ≤ x ∧ x ≤ 4611686018427387904 → i < 4000000000 → i < k → brazierref19_Bit.l0 k x i = some (x / 2 ^ i % 2) := by
  intro i
  induction i with
  | zero =>
    intro x k hx _ hk
    obtain ⟨j, rfl⟩ : ∃ j, k = j + 1 := ⟨k - 1, by omega⟩
    simp only [brazierref19_Bit.l0]
    rw [if_neg (by decide), Int.pow_zero, Int.ediv_one]
    have := (half_of hx).2.2.2
    by_cases c : Int.tmod x 2 = 0
    · rw [if_pos c, this.1 c]
    · rw [if_neg c]
      have : ¬ x % 2 = 0 := fun h => c (this.2 h)
      congr 1; omega
  | succ i ih =>
    intro x k hx hi hk
    obtain ⟨j, rfl⟩ : ∃ j, k = j + 1 := ⟨k - 1, by omega⟩
    simp only [brazierref19_Bit.l0]
    rw [if_pos (by omega), w64 (n := ((i + 1 : Nat) : Int) - 1) (by omega) (by omega), show ((i + 1 : Nat) : Int) - 1 = (i : Int) from by omega]
    have e : x / 2 ^ (i + 1) = x / 2 / 2 ^ i := by
      rw [Int.pow_succ, Int.mul_comm, Int.ediv_ediv_of_nonneg (by decide)]
    have H := ih (x / 2) j (by omega) (by omega) (by omega)
    rw [e]
    by_cases c : Int.tmod x 2 = 0
    · rw [if_pos c, (half_of hx).1 c, H]
    · rw [if_neg c]
      by_cases c2 : x < 0
      · rw [if_pos c2, (half_of hx).2.1 c c2, H]
      · rw [if_neg c2, (half_of hx).2.2.1 c2, H]
theorem cut_next (N f m : Nat) (h : f < 32) (n : Int) (hN : N = nat32 n) : cut N f (m + 1) = (n / 2 ^ f % 2).toNat + 2 * cut N (f + 1) m := by
  have h1 := cut_join N f 1 m
  rw [Nat.add_comm m 1, h1]
  have h2 := cut_nat32 n f 1 (by omega)
  rw [← hN] at h2
  have h3 : cut N f 1 = (n / 2 ^ f % 2).toNat := by rw [show (2 : Int) ^ 1 = 2 from rfl] at h2; omega
  rw [h3]
theorem shl_one {m : Nat} (hm : m < 32) : shl .u32 1 (m : Int) = ((2 ^ m : Nat) : Int) := by
  have hp := pow_le31 hm
  unfold shl
  rw [Nat.min_eq_left (by simp [IntKind.bits]; omega), Int.one_mul, IntKind.wrap_u32, Int.toNat_natCast]
  have : ((2 : Int) ^ m) = ((2 ^ m : Nat) : Int) := by push_cast; rfl
  rw [this]
  omega
theorem lay_l (n : Int) (hn : -2147483648 ≤ n ∧ n ≤ 2147483647) (fr at_ many : Nat) (hf : fr + many ≤ 32) (ha : at_ + many ≤ 32) :
    ∀ (r i w k : Nat), i + r = many → w < 4294967296 → 3 * r + 40 ≤ k → brazierref19_lay.l0 k (w : Int) n fr many at_ i = some (((w ||| fld (cut (nat32 n) (fr + i) r) (at_ + i) : Nat)) : Int) := by
  intro r
  induction r with
  | zero =>
    intro i w k hi hw hk
    obtain ⟨j, rfl⟩ : ∃ j, k = j + 1 := ⟨k - 1, by omega⟩
    simp only [brazierref19_lay.l0]
    have e : cut (nat32 n) (fr + i) 0 = 0 := by have := cut_lt (nat32 n) (fr + i) 0; omega
    rw [if_neg (by omega), e, fld_zero, Nat.or_zero]
  | succ r ih =>
    intro i w k hi hw hk
    obtain ⟨j, rfl⟩ : ∃ j, k = j + 1 + 1 + 1 := ⟨k - 3, by omega⟩
    simp only [brazierref19_lay.l0]
    rw [if_pos (by omega)]
    have c0 : (0 : Int) ≤ (at_ : Int) + (i : Int) := by omega
    have c1 : i + 1 + r = many := by omega
    have c2 : 3 * r + 40 ≤ j := by omega
    have c3 : 33 ≤ j + 1 := by omega
    have c4 : 3 * r + 40 ≤ j + 1 := by omega
    have c5 : 33 ≤ j := by omega
    have c6 : fr + i < 32 := by omega
    have c7 : at_ + i < 32 := by omega
    have c8 : at_ + i < at_ + (i + 1) := by omega
    have hb : ∀ k', 33 ≤ k' → brazierref19_Bit.f k' n ((fr : Int) + (i : Int)) = some (n / 2 ^ (fr + i) % 2) := by
      intro k' hk'
      unfold brazierref19_Bit.f
      have := bit_is (fr + i) n k' (by omega) (by omega) (by omega)
      rw [show (fr : Int) + (i : Int) = ((fr + i : Nat) : Int) from by omega]
      exact this
    have e1 : wrap64 ((fr : Int) + (i : Int)) = (fr : Int) + (i : Int) := w64 (by omega) (by omega)
    have e2 : wrap64 ((at_ : Int) + (i : Int)) = (at_ : Int) + (i : Int) := w64 (by omega) (by omega)
    have e3 : wrap64 ((i : Int) + 1) = ((i + 1 : Nat) : Int) := by rw [w64 (by omega) (by omega)]; omega
    have hc := cut_next (nat32 n) (fr + i) r c6 n rfl
    have hpw := pow_le31 (m := at_ + i) c7
    have es : shl .u32 1 ((at_ : Int) + (i : Int)) = ((2 ^ (at_ + i) : Nat) : Int) := by
      rw [show (at_ : Int) + (i : Int) = ((at_ + i : Nat) : Int) from by omega]
      exact shl_one c7
    simp only [brazierref19_lay.l1]
    rw [e1, hb _ c3, Option.bind_some]
    generalize hbit : n / 2 ^ (fr + i) % 2 = b at hc
    have hbb : b = 0 ∨ b = 1 := by
      have := Int.emod_two_eq (n / 2 ^ (fr + i))
      rw [hbit] at this
      exact this
    have lift : ∀ v : Nat, fld (v + 2 * cut (nat32 n) (fr + i + 1) r) (at_ + i) = v * 2 ^ (at_ + i) + fld (cut (nat32 n) (fr + (i + 1)) r) (at_ + (i + 1)) := by
      intro v
      unfold fld
      rw [Nat.add_mul, show fr + (i + 1) = fr + i + 1 from by omega, show at_ + (i + 1) = (at_ + i) + 1 from by omega, Nat.pow_succ]
      congr 1
      ac_rfl
    rcases hbb with rfl | rfl
    · rw [if_neg (by decide), e3, ih (i + 1) w (j + 1) c1 hw c4, hc, show ((0 : Int)).toNat = 0 from rfl, lift 0, Nat.zero_mul, Nat.zero_add]
    · rw [if_pos (by decide), e2, if_pos c0, es, or_u32 hw hpw.2, show ((0 : Int) + 1) % 4294967296 = 1 from by decide, hb _ c5, Option.bind_some, hbit, if_neg (by decide), e3,
        ih (i + 1) _ j c1 (or_lt32 hw hpw.2) c2, hc, show ((1 : Int)).toNat = 1 from rfl, lift 1, Nat.one_mul]
      have := or_add (x := 2 ^ (at_ + i)) (a := at_ + (i + 1)) (cut (nat32 n) (fr + (i + 1)) r) (Nat.pow_lt_pow_right (by decide) c8)
      rw [← this, Nat.or_assoc]
theorem lay_is {n : Int} (hn : -2147483648 ≤ n ∧ n ≤ 2147483647) {w : Nat} (hw : w < 4294967296) (fr many at_ : Nat) (fr' many' at' : Int) (e1 : fr' = (fr : Int)) (e2 : many' = (many : Int)) (e3 : at' = (at_ : Int)) (hf : fr + many ≤ 32) (ha : at_ + many ≤ 32) {k : Nat} (hk : 136 ≤ k) :
    brazierref19_lay.f k (w : Int) n fr' many' at' = some (((w ||| fld (cut (nat32 n) fr many) at_ : Nat)) : Int) := by
  subst e1 e2 e3
  exact lay_l n hn fr at_ many hf ha many 0 w k (by omega) hw (by omega)
end Go.Proofs.Ytpoofggcodiaiaa.Pure
