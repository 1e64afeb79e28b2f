/- No two lines have one word: the law as printed answers true. -/
import Derived.Test.YtpoofggcodiaiaaCdD
import Derived.Test.YtpoofggcodiaiaaX14
set_option linter.unusedVariables false
namespace Go.Proofs.Ytpoofggcodiaiaa.Pure
open Go.RowKit Go.Proofs.Ytpoofggcodiaiaa.X Go.Proofs.YtpoofggcodiaiaaW.PrintWords Go.Proofs.YtpoofggcodiaiaaW.PrintLast

theorem apart_is (k1 o1 d1 a1 b1 n1 : Int) (s1 : ByteArray) (k2 o2 d2 a2 b2 n2 : Int) (s2 : ByteArray) (hn1 : -2147483648 ≤ n1 ∧ n1 ≤ 2147483647) (hn2 : -2147483648 ≤ n2 ∧ n2 ≤ 2147483647) :
    brazierlaw19_CodeApart.f 20 k1 o1 d1 a1 b1 n1 s1 k2 o2 d2 a2 b2 n2 s2 = some true := by
  unfold brazierlaw19_CodeApart.f
  rw [lives_is 20 (by decide), encode_is _ _ _ _ _ _ _ hn1 20 (by decide), encode_is _ _ _ _ _ _ _ hn2 20 (by decide)]
  simp only [Option.bind_some]
  split
  · rfl
  cases h1 : okL k1 o1 d1 a1 b1 n1 s1
  · rfl
  cases h2 : okL k2 o2 d2 a2 b2 n2 s2
  · rfl
  simp only [if_true]
  have p1 := h1
  have p2 := h2
  unfold okL at p1 p2
  simp only [Bool.and_eq_true, beq_iff_eq] at p1 p2
  obtain ⟨⟨rfl, t1⟩, m1⟩ := p1
  obtain ⟨⟨rfl, t2⟩, m2⟩ := p2
  unfold wordOf
  rw [if_pos h1, if_pos h2, t1, t2]
  have key : (((wordL o1 d1 a1 b1 n1 : Nat) : Int) == ((wordL o2 d2 a2 b2 n2 : Nat) : Int)) = ((2 : Int) == 2 && (o1 == o2 && (d1 == d2 && (a1 == a2 && (b1 == b2 && (n1 == n2 && (([] : List UInt8) == []))))))) := by
    rw [Bool.eq_iff_iff]
    simp only [Bool.and_eq_true, beq_iff_eq, Int.natCast_inj, true_and, and_true]
    constructor
    · intro e; exact word_apart m1 m2 e
    · rintro ⟨rfl, rfl, rfl, rfl, rfl⟩; rfl
  rw [key]
  simp
theorem CodeApart_is (k1 o1 d1 a1 b1 n1 : Int) (s1 : ByteArray) (k2 o2 d2 a2 b2 n2 : Int) (s2 : ByteArray)
    (h1 : (Lit.int .i64 k1).wf = true ∧ (Lit.int .i64 o1).wf = true ∧ (Lit.int .i64 d1).wf = true ∧ (Lit.int .i64 a1).wf = true ∧ (Lit.int .i64 b1).wf = true ∧ (Lit.int .i32 n1).wf = true ∧ s1.size ≤ maxLen)
    (h2 : (Lit.int .i64 k2).wf = true ∧ (Lit.int .i64 o2).wf = true ∧ (Lit.int .i64 d2).wf = true ∧ (Lit.int .i64 a2).wf = true ∧ (Lit.int .i64 b2).wf = true ∧ (Lit.int .i32 n2).wf = true ∧ s2.size ≤ maxLen) :
    brazierlaw19_CodeApart.f 20 k1 o1 d1 a1 b1 n1 s1 k2 o2 d2 a2 b2 n2 s2 = some true :=
  apart_is _ _ _ _ _ _ _ _ _ _ _ _ _ _ (wf32 h1.2.2.2.2.2.1) (wf32 h2.2.2.2.2.2.1)
end Go.Proofs.Ytpoofggcodiaiaa.Pure
