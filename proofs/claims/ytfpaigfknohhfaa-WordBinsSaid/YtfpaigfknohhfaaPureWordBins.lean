/- WordBins, pure: word.Bin and the reference's answer alike, of any operator and any two words. No condition. -/
import Derived.Test.YtfpaigfknohhfaaWdC
import Derived.Test.YtfpaigfknohhfaaX4
namespace Go.Proofs.Ytfpaigfknohhfaa.Pure
open Go.RowKit Go.Proofs.Ytfpaigfknohhfaa.X Go.Proofs.YtfpaigfknohhfaaW.PrintWords Go.Proofs.YtfpaigfknohhfaaW.PrintLast

theorem WordBins : brazierlaw01_WordBins.Pure := by
  intro op a b h0 h1 h2
  refine ⟨70, ?_⟩
  unfold brazierlaw01_WordBins.f
  rw [bin_is 69 op a b, refbin_is 70 (by decide) op a b (wf32 h1) (wf32 h2), at_rounds brazierlaw01_lives.mono (show 40 ≤ 70 by decide) lives_at]
  simp
end Go.Proofs.Ytfpaigfknohhfaa.Pure
