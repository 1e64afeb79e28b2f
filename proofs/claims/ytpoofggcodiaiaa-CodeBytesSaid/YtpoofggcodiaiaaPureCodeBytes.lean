/- The bytes of any lines are read as these; any bytes are read as far as they are lines': the law as printed answers true. -/
import Derived.Test.YtpoofggcodiaiaaCdI
import Derived.Test.YtpoofggcodiaiaaX19
set_option linter.unusedVariables false
namespace Go.Proofs.Ytpoofggcodiaiaa.Pure
open Go.RowKit Go.Proofs.Ytpoofggcodiaiaa.X Go.Proofs.YtpoofggcodiaiaaW.PrintWords Go.Proofs.YtpoofggcodiaiaaW.PrintLast

theorem same_l (l : List S23) (hl : l.length ≤ 1000000) : ∀ (d i k : Nat), i + d = l.length → d < k → brazierlaw19_same.l0 k l l (l.length : Int) (i : Int) = some true := by
  intro d
  induction d with
  | zero =>
    intro i k hi hk
    obtain ⟨k, rfl⟩ : ∃ m, k = m + 1 := ⟨k - 1, by omega⟩
    rw [brazierlaw19_same.l0, if_neg (by omega)]
  | succ d ih =>
    intro i k hi hk
    obtain ⟨k, rfl⟩ : ∃ m, k = m + 1 := ⟨k - 1, by omega⟩
    have hw : wrap64 ((i : Int) + 1) = ((i + 1 : Nat) : Int) := w64s (i := i) (by omega) 1 (by decide)
    rw [brazierlaw19_same.l0, if_pos (by omega), if_pos (by omega), if_pos (by omega), if_pos (by omega), hw, ih (i + 1) k (by omega) (by omega)]
    simp only [beq_self_eq_true, Bool.not_true, Bool.or_self, Bool.false_eq_true, if_false]
theorem same_is (l : List S23) (hl : l.length ≤ 1000000) (k : Nat) (hk : l.length < k) : brazierlaw19_same.f k l l = some true := by
  unfold brazierlaw19_same.f
  rw [if_pos rfl]
  exact same_l l hl l.length 0 k (by omega) hk
theorem w4 {n : Nat} (h : n ≤ 1000000) : wrap64 (4 * (n : Int)) = ((4 * n : Nat) : Int) := by unfold wrap64; omega
theorem j2_is {b : List Int} (h8 : Bytes8 b) (hl : b.length ≤ 300) (k : Nat) (hk : 500 ≤ k) : brazierlaw19_CodeBytes.j2 (k + 1) b = some true := by
  obtain ⟨xs, h1, h2, h3, h4, h5⟩ := lines_any h8 (by omega) b.length 0 k [] (by omega) (by omega) rfl (by omega)
  rw [Nat.zero_add] at h1 h3 h5
  rw [List.nil_append] at h1
  rw [List.drop_zero] at h4
  have e1 : code_Lines.f k b = some (xs, ((4 * xs.length : Nat) : Int)) := h1
  have hok : xs.all okS = true := List.all_eq_true.2 fun x hx => (h2 x hx).1
  have w0 : wrap64 ((b.length : Int) - ((4 * xs.length : Nat) : Int)) = (b.length : Int) - ((4 * xs.length : Nat) : Int) := by unfold wrap64; omega
  rw [brazierlaw19_CodeBytes.j2, e1, Option.bind_some]
  simp only []
  rw [w4 (by omega), if_pos rfl]
  rw [show decide (((4 * xs.length : Nat) : Int) > (b.length : Int)) = false by simp only [decide_eq_false_iff_not]; omega]
  obtain ⟨k, rfl⟩ : ∃ m, k = m + 1 := ⟨k - 1, by omega⟩
  rw [brazierlaw19_CodeBytes.j3]
  simp only [Bool.false_eq_true, if_false]
  rw [bytes_is xs (fun x hx => (h2 x hx).2) (by omega) k (by omega), hok]
  simp only [if_true, Option.bind_some]
  rw [if_pos (by omega), if_pos (by omega)]
  rw [show encS xs = b.take ((4 * xs.length : Nat) : Int).toNat by rw [h4, Int.toNat_natCast]]
  rw [show ((strOfNums (b.take ((4 * xs.length : Nat) : Int).toNat)).toList != (strOfNums (b.take ((4 * xs.length : Nat) : Int).toNat)).toList) = false from bne_self_eq_false _]
  obtain ⟨k, rfl⟩ : ∃ m, k = m + 1 := ⟨k - 1, by omega⟩
  rw [brazierlaw19_CodeBytes.j4]
  simp only [Bool.false_eq_true, if_false]
  rw [w0, lives_is k (by omega)]
  by_cases h : b.length < 4 * xs.length + 4
  · rw [if_neg (by omega)]; rfl
  · have w1 := w64s (i := 4 * xs.length) (by omega) 1 (by decide); have w2 := w64s (i := 4 * xs.length) (by omega) 2 (by decide); have w3 := w64s (i := 4 * xs.length) (by omega) 3 (by decide)
    rw [show wrap64 (((4 * xs.length : Nat) : Int) + 1) = ((4 * xs.length + 1 : Nat) : Int) from w1, show wrap64 (((4 * xs.length : Nat) : Int) + 2) = ((4 * xs.length + 2 : Nat) : Int) from w2, show wrap64 (((4 * xs.length : Nat) : Int) + 3) = ((4 * xs.length + 3 : Nat) : Int) from w3]
    rw [if_pos (by omega), if_pos (by omega), if_pos (by omega), if_pos (by omega), if_pos (by omega), if_pos (by omega), if_pos (by omega), if_pos (by omega), if_pos (by omega)]
    rw [or_word (rd_8 h8 _) (rd_8 h8 _) (rd_8 h8 _) (rd_8 h8 _)]
    have hd := h5 (by omega)
    have hd2 : code_Decode.f k (wAt b (4 * xs.length)) = some noLine := at_rounds (code_Decode.mono _) (show 80 ≤ k by omega) hd
    unfold wAt at hd2
    rw [hd2, Option.bind_some]
    simp only [Bool.false_eq_true, if_false, Option.bind_some]
theorem end_bytes {l : List S23} {b : List Int} (hn : ∀ x ∈ l, nS x) (hl : l.length ≤ 60) (h8 : Bytes8 b) (hb : b.length ≤ 300) (k : Nat) (hk : 600 ≤ k) :
    brazierlaw19_CodeBytes.l0 (k + 1) l b (l.all okS) l (l.length : Int) (l.length : Int) = some true := by
  rw [brazierlaw19_CodeBytes.l0, if_neg (by omega), bytes_is l hn (by omega) k (by omega)]
  obtain ⟨k, rfl⟩ : ∃ m, k = m + 1 := ⟨k - 1, by omega⟩
  obtain ⟨j, rfl⟩ : ∃ m, k = m + 1 := ⟨k - 1, by omega⟩
  have h2 := j2_is h8 hb j (by omega)
  cases ho : l.all okS
  · simp only [Bool.false_eq_true, if_false, Option.bind_some, bne_self_eq_false, List.length_nil]
    rw [brazierlaw19_CodeBytes.j1]
    simp only [Int.natCast_zero, bne_self_eq_false, Bool.false_eq_true, if_false]
    exact h2
  · simp only [if_true, Option.bind_some, bne_self_eq_false, Bool.false_eq_true, if_false]
    have he := encS_len l
    have hlines := lines_of [0, 0, 0] (by decide) (by intro x hx; simp at hx; omega) l [] [] (j + 1) (by intro x hx; simp at hx) rfl (by simp; omega) (List.all_eq_true.1 ho) (by omega)
    rw [List.nil_append, List.nil_append, List.length_nil, Nat.zero_add] at hlines
    have e1 : code_Lines.f (j + 1) (encS l ++ [0, 0, 0]) = some (l, ((4 * l.length : Nat) : Int)) := hlines
    rw [brazierlaw19_CodeBytes.j1]
    simp only [Bool.false_eq_true, if_false, if_true, Option.bind_some, List.nil_append, List.length_nil, Nat.zero_add]
    rw [if_pos (by omega), if_pos (by simp only [List.length_cons, List.length_nil]; omega), e1, Option.bind_some]
    simp only []
    rw [w4 (by omega), if_pos rfl, if_pos (by rw [he]), same_is l (by omega) (j + 1) (by omega), Option.bind_some]
    simp only [if_true]
    exact h2
theorem loop_bytes {l : List S23} {b : List Int} (hn : ∀ x ∈ l, nS x) (hl : l.length ≤ 60) (h8 : Bytes8 b) (hb : b.length ≤ 300) : ∀ (d i k : Nat), i + d = l.length → d + 700 ≤ k →
    brazierlaw19_CodeBytes.l0 k l b ((l.take i).all okS) l (l.length : Int) (i : Int) = some true := by
  intro d
  induction d with
  | zero =>
    intro i k hi hk
    obtain ⟨k, rfl⟩ : ∃ m, k = m + 1 := ⟨k - 1, by omega⟩
    obtain rfl : i = l.length := by omega
    rw [List.take_of_length_le (Nat.le_refl _)]
    exact end_bytes hn hl h8 hb k (by omega)
  | succ d ih =>
    intro i k hi hk
    obtain ⟨k, rfl⟩ : ∃ m, k = m + 1 := ⟨k - 1, by omega⟩
    have hlt : i < l.length := by omega
    have hx : nS l[i] := hn _ (List.getElem_mem hlt)
    have hw : wrap64 ((i : Int) + 1) = ((i + 1 : Nat) : Int) := w64s (i := i) (by omega) 1 (by decide)
    have hnx := ih (i + 1) k (by omega) (by omega)
    rw [List.take_succ_eq_append_getElem hlt, List.all_append] at hnx
    simp only [List.all_cons, List.all_nil, Bool.and_true] at hnx
    rw [brazierlaw19_CodeBytes.l0, if_pos (by omega), if_pos (by omega), if_pos (by omega), rdS hlt, lives_is k (by omega), refenc_is _ _ _ _ _ _ _ hx k (by omega), hw]
    by_cases hs : (l[i].f6.size : Int) > 200
    · rw [if_pos hs]; rfl
    · rw [if_neg hs, Option.bind_some]
      simp only []
      rw [show okL l[i].f0 l[i].f1 l[i].f2 l[i].f3 l[i].f4 l[i].f5 l[i].f6 = okS l[i] from rfl]
      cases ha : (l.take i).all okS
      · rw [ha, Bool.false_and] at hnx
        simp only [Bool.false_eq_true, if_false]
        exact hnx
      · rw [ha, Bool.true_and] at hnx
        simp only [if_true]
        exact hnx
theorem mn_cut (n : Nat) (m : Int) (hm : 0 ≤ m) : 0 ≤ mn (n : Int) m ∧ mn (n : Int) m ≤ (n : Int) ∧ mn (n : Int) m ≤ m := by unfold mn; omega
theorem CodeBytes_is (l0 : List S23) (l1 : List Int)
    (h0 : ∀ x ∈ l0, (Lit.int .i64 x.f0).wf = true ∧ (Lit.int .i64 x.f1).wf = true ∧ (Lit.int .i64 x.f2).wf = true ∧ (Lit.int .i64 x.f3).wf = true ∧ (Lit.int .i64 x.f4).wf = true ∧ (Lit.int .i32 x.f5).wf = true ∧ x.f6.size ≤ maxLen)
    (h1 : ∀ x ∈ l1, (Lit.int .u8 x).wf = true) : brazierlaw19_CodeBytes.f 1000 l0 l1 = some true := by
  obtain ⟨a1, a2, a3⟩ := mn_cut l0.length 60 (by decide)
  obtain ⟨b1, b2, b3⟩ := mn_cut l1.length 300 (by decide)
  unfold brazierlaw19_CodeBytes.f
  rw [if_pos a1, if_pos a2, Option.bind_some, if_pos b1, if_pos b2]
  have h := loop_bytes (l := l0.take (mn (l0.length : Int) 60).toNat) (b := l1.take (mn (l1.length : Int) 300).toNat) (fun x hx => wf32 (h0 x (List.mem_of_mem_take hx)).2.2.2.2.2.1) (by rw [List.length_take]; omega) (fun x hx => wfu8 (h1 x (List.mem_of_mem_take hx))) (by rw [List.length_take]; omega)
    (l0.take (mn (l0.length : Int) 60).toNat).length 0 1000 (by omega) (by rw [List.length_take]; omega)
  rw [List.take_zero] at h
  exact h
end Go.Proofs.Ytpoofggcodiaiaa.Pure
