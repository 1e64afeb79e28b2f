/- The word of any line, or that it has none: the law as printed answers true. -/
import Derived.Test.YtpoofggcodiaiaaCdG
import Derived.Test.YtpoofggcodiaiaaX13
set_option linter.unusedVariables false
namespace Go.Proofs.Ytpoofggcodiaiaa.Pure
open Go.RowKit Go.Proofs.Ytpoofggcodiaiaa.X Go.Proofs.YtpoofggcodiaiaaW.PrintWords Go.Proofs.YtpoofggcodiaiaaW.PrintLast

theorem CodeEncodes_is (k1 o1 d1 a1 b1 n1 : Int) (s1 : ByteArray)
    (h1 : (Lit.int .i64 k1).wf = true ∧ (Lit.int .i64 o1).wf = true ∧ (Lit.int .i64 d1).wf = true ∧ (Lit.int .i64 a1).wf = true ∧ (Lit.int .i64 b1).wf = true ∧ (Lit.int .i32 n1).wf = true ∧ s1.size ≤ maxLen) :
    brazierlaw19_CodeEncodes.f 200 k1 o1 d1 a1 b1 n1 s1 = some true := by
  have hn := wf32 h1.2.2.2.2.2.1
  unfold brazierlaw19_CodeEncodes.f
  rw [lives_is 200 (by decide), encode_is _ _ _ _ _ _ _ hn 200 (by decide), refenc_is _ _ _ _ _ _ _ hn 200 (by decide)]
  simp only [Option.bind_some]
  split
  · rfl
  · simp
end Go.Proofs.Ytpoofggcodiaiaa.Pure
