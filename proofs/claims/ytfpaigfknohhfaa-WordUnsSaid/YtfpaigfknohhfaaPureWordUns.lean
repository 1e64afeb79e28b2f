/- WordUns, pure: any operator of one word, any word; how any operator is written. No condition. -/
import Derived.Test.YtfpaigfknohhfaaWdC
import Derived.Test.YtfpaigfknohhfaaX8
namespace Go.Proofs.Ytfpaigfknohhfaa.Pure
open Go.RowKit Go.Proofs.Ytfpaigfknohhfaa.X Go.Proofs.YtfpaigfknohhfaaW.PrintWords Go.Proofs.YtfpaigfknohhfaaW.PrintLast

theorem not_bits (a : Int) : Go.bits .xor .i32 (-1) a = wrap32 (-1 - a) := by
  rw [bits_xor_nat]
  have e : nat32 (-1) = 4294967295 := by decide
  have h1 := or_and_xor (nat32 (-1)) (nat32 a)
  have h2 := Nat.or_lt_two_pow (n := 32) (nat32_lt (-1)) (nat32_lt a)
  have h3 : nat32 (-1) ≤ nat32 (-1) ||| nat32 a := Nat.left_le_or
  have h4 := nat32_lt a
  have h5 := nat32_cast a
  rw [e] at h1 h2 h3 ⊢
  have h6 : 4294967295 &&& nat32 a = nat32 a := by
    rw [Nat.and_comm, show 4294967295 = 2 ^ 32 - 1 from rfl, Nat.and_two_pow_sub_one_eq_mod, Nat.mod_eq_of_lt h4]
  apply wrap32_congr
  omega
theorem un_same (op a : Int) (ha : -2147483648 ≤ a ∧ a ≤ 2147483647) : ∃ r, word_Un.f op a = some r ∧ brazierref01_Un.f op a = some r := by
  unfold word_Un.f brazierref01_Un.f
  by_cases h19 : op = 19
  · subst h19
    rw [if_pos rfl, if_pos rfl, w64 (n := a) (by omega) (by omega), w64 (n := -a) (by omega) (by omega), round_is _ (by omega) (by omega)]
    exact ⟨_, rfl, rfl⟩
  by_cases h20 : op = 20
  · subst h20
    rw [if_neg (by decide), if_pos rfl, if_neg (by decide), if_pos rfl]
    unfold word_truth.f brazierref01_truth.f
    by_cases c : a = 0 <;> simp [c]
  by_cases h21 : op = 21
  · subst h21
    rw [if_neg (by decide), if_neg (by decide), if_pos rfl, if_neg (by decide), if_neg (by decide), if_pos rfl, w64 (n := a) (by omega) (by omega), w64 (n := -1 - a) (by omega) (by omega), round_is _ (by omega) (by omega), w32 (by omega) (by omega)]
    refine ⟨_, rfl, ?_⟩
    rw [not_bits, w32 (by omega) (by omega)]
    rfl
  rw [if_neg h19, if_neg h20, if_neg h21, if_neg h19, if_neg h20, if_neg h21]
  exact ⟨_, rfl, rfl⟩
theorem sign_same (op : Int) : ∃ r, word_Sign.f op = some r ∧ brazierref01_Sign.f op = some r := by
  by_cases h1 : op < 1
  · refine ⟨⟨#[]⟩, ?_, ?_⟩
    · unfold word_Sign.f; simp only [Option.bind_some]; rw [if_pos h1]
    · unfold brazierref01_Sign.f; rw [if_pos h1]
  by_cases h2 : 21 < op
  · refine ⟨⟨#[]⟩, ?_, ?_⟩
    · unfold word_Sign.f; simp only [Option.bind_some]; rw [if_neg h1, if_pos (by simp only [List.length_cons, List.length_nil]; omega)]
    · unfold brazierref01_Sign.f; rw [if_neg h1, if_pos h2]
  have key : ∀ m : Fin 21, (word_Sign.f ((m.1 : Int) + 1)).isSome = true ∧ word_Sign.f ((m.1 : Int) + 1) = brazierref01_Sign.f ((m.1 : Int) + 1) := by decide +kernel
  have k := key ⟨(op - 1).toNat, by omega⟩
  have e : (((op - 1).toNat : Nat) : Int) + 1 = op := by omega
  simp only [e] at k
  obtain ⟨r, hr⟩ := Option.isSome_iff_exists.1 k.1
  exact ⟨r, hr, k.2 ▸ hr⟩
theorem WordUns : brazierlaw01_WordUns.Pure := by
  intro op a h0 h1
  obtain ⟨r, e1, e2⟩ := un_same op a (wf32 h1)
  obtain ⟨s, e3, e4⟩ := sign_same op
  refine ⟨40, ?_⟩
  unfold brazierlaw01_WordUns.f
  rw [e1, e2, e3, e4, lives_at]
  simp
end Go.Proofs.Ytfpaigfknohhfaa.Pure
