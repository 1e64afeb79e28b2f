/- What is encoded is decoded as itself; the line that any word is decoded as has that word: the law as printed answers true. -/
import Derived.Test.YtpoofggcodiaiaaCdH
import Derived.Test.YtpoofggcodiaiaaCdE
import Derived.Test.YtpoofggcodiaiaaX17
set_option linter.unusedVariables false
namespace Go.Proofs.Ytpoofggcodiaiaa.Pure
open Go.RowKit Go.Proofs.Ytpoofggcodiaiaa.X Go.Proofs.YtpoofggcodiaiaaW.PrintWords Go.Proofs.YtpoofggcodiaiaaW.PrintLast

theorem numOk_32 {op d a b n : Int} (h : mayP op d a b n = true) : -2147483648 ≤ n ∧ n ≤ 2147483647 := by
  have := numOk_bd (mayP_bd h).2.2.2.2.2.2
  omega
theorem okL_mayP {op d a b n : Int} : okL 2 op d a b n (⟨#[]⟩ : ByteArray) = mayP op d a b n := by unfold okL; rw [empty_list]; rfl
theorem back_j0 (w : Int) (hw : 0 ≤ w ∧ w ≤ 4294967295) (k : Nat) (hk : 120 ≤ k) : brazierlaw19_CodeBack.j0 (k + 1) w = some true := by
  obtain ⟨v, rfl⟩ : ∃ v : Nat, w = (v : Int) := ⟨w.toNat, by omega⟩
  rw [brazierlaw19_CodeBack.j0]
  rcases decode_cases (w := v) (by omega) k (by omega) with e | ⟨op, d, a, b, n, hm, hv, e⟩
  · rw [e, Option.bind_some]
    simp only [Bool.false_eq_true, if_false, empty_list, lives_is k (by omega), Option.bind_some]
    rfl
  · rw [e, Option.bind_some]
    simp only [if_true]
    rw [encode_is _ _ _ _ _ _ _ (numOk_32 hm) k (by omega), Option.bind_some, refmay_is _ _ _ _ _ _ empty_list k (by omega), Option.bind_some, hm]
    unfold wordOf
    rw [okL_mayP, hm, lives_is k (by omega)]
    simp only [if_true, hv, Option.bind_some]
theorem CodeBack_is (k1 o1 d1 a1 b1 n1 : Int) (s1 : ByteArray) (w : Int)
    (h1 : (Lit.int .i64 k1).wf = true ∧ (Lit.int .i64 o1).wf = true ∧ (Lit.int .i64 d1).wf = true ∧ (Lit.int .i64 a1).wf = true ∧ (Lit.int .i64 b1).wf = true ∧ (Lit.int .i32 n1).wf = true ∧ s1.size ≤ maxLen)
    (hw : (Lit.int .u32 w).wf = true) :
    brazierlaw19_CodeBack.f 200 k1 o1 d1 a1 b1 n1 s1 w = some true := by
  have hn := wf32 h1.2.2.2.2.2.1
  have hj := back_j0 w (wfu32 hw) 199 (by decide)
  unfold brazierlaw19_CodeBack.f
  rw [lives_is 200 (by decide), encode_is _ _ _ _ _ _ _ hn 200 (by decide)]
  split
  · rfl
  rw [Option.bind_some]
  cases ho : okL k1 o1 d1 a1 b1 n1 s1
  · simp only [Bool.false_eq_true, if_false]
    exact hj
  · have p := ho
    unfold okL at p
    simp only [Bool.and_eq_true, beq_iff_eq] at p
    obtain ⟨⟨rfl, t⟩, m⟩ := p
    unfold wordOf
    rw [ho]
    simp only [if_true]
    rw [decode_word m 200 (by decide), Option.bind_some]
    simp only [if_true, empty_list, t, beq_self_eq_true, Bool.not_true, Bool.or_self, Bool.false_eq_true, if_false]
    exact hj
end Go.Proofs.Ytpoofggcodiaiaa.Pure
