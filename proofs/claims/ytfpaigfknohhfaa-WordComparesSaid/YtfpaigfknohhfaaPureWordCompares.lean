/- WordCompares, pure: of any two words just one of less, the same and greater is so. No condition. -/
import Derived.Test.YtfpaigfknohhfaaWdB
import Derived.Test.YtfpaigfknohhfaaX7
namespace Go.Proofs.Ytfpaigfknohhfaa.Pure
set_option linter.unusedSimpArgs false
open Go.RowKit Go.Proofs.Ytfpaigfknohhfaa.X Go.Proofs.YtfpaigfknohhfaaW.PrintWords Go.Proofs.YtfpaigfknohhfaaW.PrintLast

theorem un_not (a : Int) : word_Un.f 20 a = some (if a = 0 then 1 else 0, true) := by
  unfold word_Un.f word_truth.f
  by_cases c : a = 0 <;> simp [c]
theorem WordCompares : brazierlaw01_WordCompares.Pure := by
  intro a b h0 h1
  refine ⟨40, (binV 11 a b).1, (binV 12 a b).1, (binV 13 a b).1, (binV 14 a b).1, (binV 15 a b).1, (binV 16 a b).1, (binV 17 a b).1, (binV 18 a b).1, if a = 0 then 1 else 0, if b = 0 then 1 else 0,
    (binV 18 (if a = 0 then 1 else 0) (if b = 0 then 1 else 0)).1, (binV 17 (if a = 0 then 1 else 0) (if b = 0 then 1 else 0)).1, true, true, true, true, true, true, true, true, true, true, true, true,
    bin_is 39 .., bin_is 39 .., bin_is 39 .., bin_is 39 .., bin_is 39 .., bin_is 39 .., bin_is 39 .., bin_is 39 .., un_not a, un_not b, bin_is 39 .., bin_is 39 .., ?_, ?_, ?_, ?_, ?_, ?_, lives_at⟩
  all_goals simp only [binV, Int.reduceEq, if_true, if_false]
  · rcases Int.lt_trichotomy a b with c | c | c
    · simp only [show a < b from c, show ¬ a = b from by omega, show ¬ b < a from by omega, show a ≤ b from by omega, show ¬ b ≤ a from by omega, if_true, if_false]; unfold wrap32; decide
    · subst c; simp only [Int.lt_irrefl, Int.le_refl, if_true, if_false]; unfold wrap32; decide
    · simp only [show b < a from c, show ¬ a = b from by omega, show ¬ a < b from by omega, show b ≤ a from by omega, show ¬ a ≤ b from by omega, if_true, if_false]; unfold wrap32; decide
  · rcases Int.lt_trichotomy a b with c | c | c
    · simp only [show a < b from c, show ¬ a = b from by omega, show ¬ b < a from by omega, show a ≤ b from by omega, show ¬ b ≤ a from by omega, if_true, if_false]; unfold wrap32; decide
    · subst c; simp only [Int.lt_irrefl, Int.le_refl, if_true, if_false]; unfold wrap32; decide
    · simp only [show b < a from c, show ¬ a = b from by omega, show ¬ a < b from by omega, show b ≤ a from by omega, show ¬ a ≤ b from by omega, if_true, if_false]; unfold wrap32; decide
  · rcases Int.lt_trichotomy a b with c | c | c
    · simp only [show a < b from c, show ¬ a = b from by omega, show ¬ b < a from by omega, show a ≤ b from by omega, show ¬ b ≤ a from by omega, if_true, if_false]; unfold wrap32; decide
    · subst c; simp only [Int.lt_irrefl, Int.le_refl, if_true, if_false]; unfold wrap32; decide
    · simp only [show b < a from c, show ¬ a = b from by omega, show ¬ a < b from by omega, show b ≤ a from by omega, show ¬ a ≤ b from by omega, if_true, if_false]; unfold wrap32; decide
  · by_cases c2 : a = b <;> simp only [c2, if_true, if_false] <;> (unfold wrap32; decide)
  · by_cases c1 : a = 0 <;> by_cases c2 : b = 0 <;> simp [c1, c2, wrap32]
  · by_cases c1 : a = 0 <;> by_cases c2 : b = 0 <;> simp [c1, c2, wrap32]
end Go.Proofs.Ytfpaigfknohhfaa.Pure
