/- WordSplits, pure: any word in two parts that make it again, and which words have room in how many bits. No condition. -/
import Derived.Test.YtfpaigfknohhfaaWdC
import Derived.Test.YtfpaigfknohhfaaX7
namespace Go.Proofs.Ytfpaigfknohhfaa.Pure
open Go.RowKit Go.Proofs.Ytfpaigfknohhfaa.X Go.Proofs.YtfpaigfknohhfaaW.PrintWords Go.Proofs.YtfpaigfknohhfaaW.PrintLast

def spLo (a : Int) : Int := (wrap32 (a * 1048576)) / 1048576
def spHi (a : Int) : Int := ((wrap32 (a - spLo a)) % 4294967296) / 4096
theorem spLo_bd (a : Int) : -2048 ≤ spLo a ∧ spLo a ≤ 2047 ∧ spLo a % 4096 = a % 4096 := by
  unfold spLo wrap32; omega
theorem spHi_bd (a : Int) : 0 ≤ spHi a ∧ spHi a < 1048576 ∧ (spHi a * 4096 + spLo a) % 4294967296 = a % 4294967296 := by
  have h := spLo_bd a
  unfold spHi
  have h1 := wrap32_mod (a - spLo a)
  generalize wrap32 (a - spLo a) = u at *
  generalize spLo a = l at *
  omega
theorem pow_bd (m : Nat) (h : m ≤ 31) : (1 : Int) ≤ 2 ^ m ∧ (2 : Int) ^ m ≤ 2147483648 := by
  refine ⟨Int.pow_pos (by decide), ?_⟩
  have h2 : (2 : Nat) ^ m ≤ 2 ^ 31 := Nat.pow_le_pow_right (by decide) h
  have h3 : ((2 ^ m : Nat) : Int) ≤ ((2 ^ 31 : Nat) : Int) := by exact_mod_cast h2
  simpa using h3
theorem shl_one (m : Int) (h0 : 0 ≤ m) (h : m ≤ 31) : shl .i64 1 m = 2 ^ m.toNat := by
  unfold shl
  have hb := pow_bd m.toNat (by omega)
  rw [Nat.min_eq_left (by simp [IntKind.bits]; omega), Int.one_mul, i64_wrap, w64 (by omega) (by omega)]
theorem fits_is (n b : Int) (hn : -2147483648 ≤ n ∧ n ≤ 2147483647) (h1 : 1 ≤ b) (h2 : b ≤ 32) : word_Fits.f n b = some (decide (-(2 : Int) ^ (b - 1).toNat ≤ n ∧ n < 2 ^ (b - 1).toNat)) := by
  unfold word_Fits.f
  have hb := pow_bd (b - 1).toNat (by omega)
  rw [if_neg (by omega), if_neg (by omega), w64 (n := b - 1) (by omega) (by omega), if_pos (by omega), w64 (n := n) (by omega) (by omega), shl_one _ (by omega) (by omega)]
  generalize (2 : Int) ^ (b - 1).toNat = p at *
  rw [w64 (by omega) (by omega)]
  by_cases c : -p ≤ n
  · rw [if_pos c]; simp [c]
  · rw [if_neg c]; simp [c]
theorem fits_out (n b : Int) (h : b < 1 ∨ 32 < b) : word_Fits.f n b = some false := by
  unfold word_Fits.f
  by_cases c : b < 1
  · rw [if_pos c]
  · rw [if_neg c, if_pos (by omega)]
theorem splits_l0 (k : Nat) (hk : 40 ≤ k) (n b : Int) (hn : -2147483648 ≤ n ∧ n ≤ 2147483647) (h1 : 1 ≤ b) (h2 : b ≤ 32) (d : Nat) : ∀ i : Nat, i + d = (b - 1).toNat →
    brazierlaw01_WordSplits.l0 (k + 1 + d) n b (2 ^ i) (b - 1) (i : Int) = some true := by
  induction d with
  | zero =>
    intro i hi
    have hb := pow_bd i (by omega)
    obtain rfl : i = (b - 1).toNat := by omega
    simp only [brazierlaw01_WordSplits.l0]
    rw [if_neg (by omega), w64 (n := n) (by omega) (by omega), fits_is n b hn h1 h2, at_rounds brazierlaw01_lives.mono hk lives_at]
    generalize (2 : Int) ^ (b - 1).toNat = p at *
    rw [w64 (n := -p) (by omega) (by omega), w64 (n := p - 1) (by omega) (by omega)]
    by_cases c : -p ≤ n
    · rw [if_pos c]
      have e : decide (-p ≤ n ∧ n < p) = decide (n ≤ p - 1) := by
        rw [decide_eq_decide]; omega
      simp [e]
    · rw [if_neg c]; simp [c]
  | succ d ih =>
    intro i hi
    have hb := pow_bd i (by omega)
    have h := ih (i + 1) (by omega)
    rw [show k + 1 + (d + 1) = (k + 1 + d) + 1 from rfl]
    simp only [brazierlaw01_WordSplits.l0]
    rw [if_pos (by omega), w64 (n := 2 ^ i * 2) (by omega) (by omega), w64 (n := (i : Int) + 1) (by omega) (by omega), ← Int.pow_succ]
    exact h
theorem WordSplits : brazierlaw01_WordSplits.Pure := by
  intro n b h0 h1
  have hn := wf32 h0
  have hl := spLo_bd n
  have hh := spHi_bd n
  have hs : word_Split.f n = some (spHi n, spLo n) := rfl
  have hlv : ∀ k, 40 ≤ k → brazierlaw01_lives.f k = some true := fun k hk => at_rounds brazierlaw01_lives.mono hk lives_at
  generalize spLo n = l at *
  generalize spHi n = u at *
  refine ⟨80, ?_⟩
  unfold brazierlaw01_WordSplits.f
  rw [hs]
  simp only [Option.bind_some]
  rw [if_neg (by omega), if_neg (by omega), if_neg (by omega), if_neg (by omega), w64 (n := u) (by omega) (by omega), w64 (n := l) (by omega) (by omega), w64 (n := u * 4096) (by omega) (by omega),
    w64 (n := u * 4096 + l) (by omega) (by omega), round_is _ (by omega) (by omega)]
  have e : wrap32 (u * 4096 + l) = n := by rw [wrap32_congr hh.2.2, w32 hn.1 hn.2]
  simp only [Option.bind_some, e, bne_self_eq_false, brazierlaw01_WordSplits.j0, Bool.false_eq_true, if_false]
  by_cases c1 : 1 ≤ b
  · rw [if_pos c1]
    by_cases c2 : b ≤ 32
    · simp only [brazierlaw01_WordSplits.j1, c2, decide_true, if_true]
      rw [w64 (n := b - 1) (by omega) (by omega)]
      have h := splits_l0 (77 - (b - 1).toNat) (by omega) n b hn c1 c2 (b - 1).toNat 0 (by omega)
      rw [show 77 - (b - 1).toNat + 1 + (b - 1).toNat = 78 from by omega] at h
      exact h
    · simp only [brazierlaw01_WordSplits.j1, c2, decide_false, Bool.false_eq_true, if_false]
      rw [fits_out n b (by omega), hlv 78 (by decide)]; rfl
  · rw [if_neg c1]
    simp only [brazierlaw01_WordSplits.j1, Bool.false_eq_true, if_false]
    rw [fits_out n b (by omega), hlv 78 (by decide)]; rfl
end Go.Proofs.Ytfpaigfknohhfaa.Pure
