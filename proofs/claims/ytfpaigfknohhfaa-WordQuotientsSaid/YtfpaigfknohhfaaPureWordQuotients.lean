/- WordQuotients, pure: quotient times b and the remainder make a; the remainder is nearer to 0 than b, and on the side of a. No condition. -/
import Derived.Test.YtfpaigfknohhfaaWdC
import Derived.Test.YtfpaigfknohhfaaX4
namespace Go.Proofs.Ytfpaigfknohhfaa.Pure
open Go.RowKit Go.Proofs.Ytfpaigfknohhfaa.X Go.Proofs.YtfpaigfknohhfaaW.PrintWords Go.Proofs.YtfpaigfknohhfaaW.PrintLast

theorem quot_back (a b : Int) : wrap32 (wrap32 (wrap32 (Int.tdiv a b) * b) + Int.tmod a b) = wrap32 a := by
  apply wrap32_congr
  have h1 := wrap32_mod (wrap32 (Int.tdiv a b) * b)
  have h2 : (wrap32 (Int.tdiv a b) * b) % 4294967296 = (Int.tdiv a b * b) % 4294967296 := by rw [Int.mul_emod, wrap32_mod, ← Int.mul_emod]
  have h3 : Int.tdiv a b * b + Int.tmod a b = a := by rw [Int.tmod_def, Int.mul_comm]; omega
  generalize wrap32 (wrap32 (Int.tdiv a b) * b) = u at *
  generalize wrap32 (Int.tdiv a b) * b = v at *
  generalize Int.tdiv a b * b = t at *
  omega
theorem mx_abs (x : Int) : mx x (-x) = (x.natAbs : Int) := by unfold mx; split <;> omega
theorem WordQuotients : brazierlaw01_WordQuotients.Pure := by
  intro a b h0 h1
  have ha := wf32 h0
  have hb := wf32 h1
  refine ⟨40, ?_⟩
  unfold brazierlaw01_WordQuotients.f
  rw [bin_is 39, bin_is 39]
  simp only [Option.bind_some]
  by_cases c : b = 0
  · subst c
    simp [binV, lives_at]
  · rw [if_neg c, bin_is 39, Option.bind_some, bin_is 39, Option.bind_some]
    have e4 : binV 4 a b = (wrap32 (Int.tdiv a b), true) := by simp [binV, c]
    have e5 : binV 5 a b = (Int.tmod a b, true) := by simp [binV, c]
    have em : binV 3 (wrap32 (Int.tdiv a b)) b = (wrap32 (wrap32 (Int.tdiv a b) * b), true) := by simp [binV]
    have ep : binV 1 (wrap32 (wrap32 (Int.tdiv a b) * b)) (Int.tmod a b) = (wrap32 a, true) := by simp [binV, quot_back]
    rw [e4, e5]
    simp only [em, ep, if_true]
    have htm := tmod_bd a b ha
    rw [if_pos (w32 ha.1 ha.2), w64 (n := Int.tmod a b) (by omega) (by omega), w64 (n := -Int.tmod a b) (by omega) (by omega), w64 (n := b) (by omega) (by omega), w64 (n := -b) (by omega) (by omega), mx_abs, mx_abs]
    have hn := Int.natAbs_tmod a b
    have hl := Nat.mod_lt a.natAbs (show 0 < b.natAbs by omega)
    rw [if_pos (by omega), lives_at]
    by_cases z : Int.tmod a b = 0
    · rw [if_pos z]; rfl
    · rw [if_neg z, if_pos ?_]
      · rfl
      · have hs : (Int.tmod a b < 0) = (a < 0) := by
          rcases Int.lt_or_le a 0 with d | d
          · have h3 := Int.tmod_nonneg b (show 0 ≤ -a by omega)
            have h4 := tmod_neg' (a := a) (b := b)
            apply propext
            omega
          · have h3 := Int.tmod_nonneg b d
            apply propext
            omega
        simp [hs]
end Go.Proofs.Ytfpaigfknohhfaa.Pure
