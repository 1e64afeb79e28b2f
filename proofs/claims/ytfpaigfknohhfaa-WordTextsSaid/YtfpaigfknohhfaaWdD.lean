/- A word's decimal text: the digits; word.Dec and the reference's Dec as printed write them. -/
import Derived.Test.YtfpaigfknohhfaaWdC
import Derived.Test.YtfpaigfknohhfaaBy
import Derived.Test.YtfpaigfknohhfaaX5
namespace Go.Proofs.Ytfpaigfknohhfaa.Pure
open Go.RowKit Go.Proofs.Ytfpaigfknohhfaa.X Go.Proofs.YtfpaigfknohhfaaW.PrintWords Go.Proofs.YtfpaigfknohhfaaW.PrintLast

/-! ### slices.Reverse -/
theorem rev_step (A M B : List Int) (x y : Int) :
    ((A ++ x :: (M ++ y :: B)).set A.length y).set (A.length + M.length + 1) x = (A ++ [y]) ++ M ++ (x :: B) := by
  have h1 : (A ++ x :: (M ++ y :: B)).set A.length y = A ++ y :: (M ++ y :: B) := by simp
  rw [h1, List.set_append, if_neg (by omega)]
  have h2 : A.length + M.length + 1 - A.length = M.length + 1 := by omega
  rw [h2, List.set_cons_succ, List.set_append, if_neg (by omega), Nat.sub_self]
  simp
theorem rev_l0 (m : Nat) : ∀ (M : List Int), M.length = m → ∀ (A B : List Int) (k : Nat), A.length = B.length → (A ++ M ++ B).length ≤ 4611686018427387904 → m < k →
    slices_Reverse_byte_byte.l0 k (A ++ M ++ B) (A.length : Int) ((A.length : Int) + M.length - 1) = some (A ++ M.reverse ++ B) := by
  induction m using Nat.strongRecOn with
  | _ m ih =>
    intro M hm A B k hab hl hk
    obtain ⟨k, rfl⟩ : ∃ j, k = j + 1 := ⟨k - 1, by omega⟩
    simp only [slices_Reverse_byte_byte.l0]
    rcases M with _ | ⟨x, M⟩
    · rw [if_neg (by simp; omega)]; simp
    rcases List.eq_nil_or_concat M with rfl | ⟨M, y, rfl⟩
    · rw [if_neg (by simp)]; simp
    · simp only [List.length_append, List.length_cons] at hm hl
      have e : A ++ x :: (M.concat y) ++ B = A ++ x :: (M ++ y :: B) := by simp
      have er : (x :: M.concat y).reverse = y :: (M.reverse ++ [x]) := by simp
      have el : (A.length : Int) + (x :: M.concat y).length - 1 = ((A.length + M.length + 1 : Nat) : Int) := by simp; omega
      simp only [List.length_concat] at hm hl
      rw [el, e, er, if_pos (by omega), if_pos (by omega), if_pos (by simp; omega), if_pos (by omega), if_pos (by simp; omega)]
      have r1 : rd (A ++ x :: (M ++ y :: B)) ((A.length + M.length + 1 : Nat) : Int) = y := by
        unfold rd
        rw [Int.toNat_natCast, List.getD_eq_getElem?_getD, List.getElem?_append_right (by omega)]
        have : A.length + M.length + 1 - A.length = M.length + 1 := by omega
        rw [this, List.getElem?_cons_succ, List.getElem?_append_right (by omega), Nat.sub_self]; rfl
      have r2 : rd (A ++ x :: (M ++ y :: B)) (A.length : Int) = x := by
        unfold rd
        rw [Int.toNat_natCast, List.getD_eq_getElem?_getD, List.getElem?_append_right (by omega), Nat.sub_self]; rfl
      rw [r1, r2, Int.toNat_natCast, Int.toNat_natCast, rev_step A M B x y]
      have h := ih M.length (by omega) M rfl (A ++ [y]) (x :: B) k (by simp; omega) (by simp; omega) (by omega)
      rw [w64 (by omega) (by omega), w64 (by omega) (by omega)]
      have e2 : (A ++ [y]).length = A.length + 1 := by simp
      rw [e2] at h
      rw [show ((A.length : Int) + 1) = ((A.length + 1 : Nat) : Int) from by omega, show (((A.length + M.length + 1 : Nat) : Int) - 1) = ((A.length + 1 : Nat) : Int) + (M.length : Int) - 1 from by omega, h]
      simp
theorem rev_is (l : List Int) (hl : l.length ≤ 4611686018427387904) (k : Nat) (hk : l.length < k) : slices_Reverse_byte_byte.f k l = some l.reverse := by
  unfold slices_Reverse_byte_byte.f
  have h := rev_l0 l.length l rfl [] [] k rfl (by simpa using hl) hk
  simp only [List.length_nil, List.nil_append, List.append_nil] at h
  rw [w64 (by omega) (by omega)]
  rw [← h]
  congr 1
  omega

/-! ### the digits -/
def digs (n : Nat) : List Int := if h : n < 10 then [48 + (n : Int)] else digs (n / 10) ++ [48 + ((n % 10 : Nat) : Int)]
termination_by n
decreasing_by omega
theorem digs_small {n : Nat} (h : n < 10) : digs n = [48 + (n : Int)] := by rw [digs, dif_pos h]
theorem digs_big {n : Nat} (h : ¬ n < 10) : digs n = digs (n / 10) ++ [48 + ((n % 10 : Nat) : Int)] := by rw [digs, dif_neg h]
theorem digs_digit (n : Nat) : ∀ c ∈ digs n, 48 ≤ c ∧ c ≤ 57 := by
  induction n using Nat.strongRecOn with
  | _ n ih =>
    intro c hc
    by_cases h : n < 10
    · rw [digs_small h] at hc
      simp at hc; omega
    · rw [digs_big h] at hc
      rcases List.mem_append.1 hc with hc | hc
      · exact ih _ (by omega) c hc
      · simp at hc; omega
theorem digs_len (n m : Nat) (hm : 1 ≤ m) (h : n < 10 ^ m) : (digs n).length ≤ m ∧ 1 ≤ (digs n).length := by
  induction m generalizing n with
  | zero => omega
  | succ m ih =>
    by_cases c : n < 10
    · rw [digs_small c]; simp
    · rw [digs_big c]
      have hm1 : 1 ≤ m := by
        rcases m with _ | m
        · simp at h; omega
        · omega
      have := ih (n / 10) hm1 (by rw [Nat.pow_succ] at h; omega)
      simp; omega
/-- A whole number's decimal text. -/
def decS (a : Int) : List Int := if a < 0 then 45 :: digs a.natAbs else digs a.natAbs
theorem decS_8 (a : Int) : Bytes8 (decS a) := by
  intro x hx
  unfold decS at hx
  split at hx
  · rcases List.mem_cons.1 hx with rfl | hx
    · omega
    · have := digs_digit _ x hx; omega
  · have := digs_digit _ x hx; omega

/-! ### word.Dec -/
/-- What is still to be written of a number that has been begun. -/
def more (n : Nat) : List Int := if n = 0 then [] else digs n
theorem digs_more (n : Nat) : digs n = more (n / 10) ++ [48 + ((n % 10 : Nat) : Int)] := by
  unfold more
  by_cases h : n < 10
  · have h2 : n / 10 = 0 := by omega
    have h3 : n % 10 = n := by omega
    rw [digs_small h, if_pos h2, h3]; rfl
  · rw [digs_big h, if_neg (by omega)]
def sgn (a : Int) : List Int := if a < 0 then [45] else []
theorem decS_sgn (a : Int) : decS a = sgn a ++ digs a.natAbs := by unfold decS sgn; split <;> rfl
theorem digit_byte (n : Nat) : (48 + Int.tmod (n : Int) 10) % 256 = 48 + ((n % 10 : Nat) : Int) := by
  rw [tmod_nn (by omega)]; omega
theorem dec_l0 (a : Int) (n : Nat) : ∀ (acc : List Int) (k : Nat), n ≤ 4294967296 → acc.length + n ≤ 4294968296 → acc.length + 2 * n + 40 < k →
    word_Dec.l0 k a (n : Int) acc = some (strOfNums (sgn a ++ more n ++ acc.reverse)) := by
  induction n using Nat.strongRecOn with
  | _ n ih =>
    intro acc k hn ha hk
    obtain ⟨k, rfl⟩ : ∃ j, k = j + 1 := ⟨k - 1, by omega⟩
    simp only [word_Dec.l0]
    by_cases h : n = 0
    · subst h
      rw [if_neg (by omega)]
      by_cases c : a < 0
      · rw [if_pos c, if_pos (by omega), rev_is _ (by simp; omega) k (by simp; omega)]
        simp [more, sgn, c]
      · rw [if_neg c, rev_is _ (by omega) k (by omega)]
        simp [more, sgn, c]
    · rw [if_pos (by omega), if_pos (by omega), digit_byte, tdiv_nn (by omega), show (n : Int) / 10 = ((n / 10 : Nat) : Int) from by omega, w64 (by omega) (by omega),
        ih (n / 10) (by omega) _ k (by omega) (by simp; omega) (by simp; omega)]
      have e : more n = more (n / 10) ++ [48 + ((n % 10 : Nat) : Int)] := by
        rw [← digs_more]; unfold more; rw [if_neg h]
      rw [e]
      simp
theorem dec_is (a : Int) (ha : -2147483648 ≤ a ∧ a ≤ 2147483647) (k : Nat) (hk : 8589934600 ≤ k) : word_Dec.f k a = some (strOfNums (decS a)) := by
  obtain ⟨k, rfl⟩ : ∃ j, k = j + 1 := ⟨k - 1, by omega⟩
  have key : ∀ n : Nat, n = a.natAbs → word_Dec.j0 (k + 1) a (n : Int) = some (strOfNums (decS a)) := by
    intro n e
    simp only [word_Dec.j0]
    rw [digit_byte, tdiv_nn (by omega), show (n : Int) / 10 = ((n / 10 : Nat) : Int) from by omega, w64 (by omega) (by omega), dec_l0 a (n / 10) _ k (by omega) (by simp; omega) (by simp; omega), decS_sgn, ← e, digs_more n]
    simp
  unfold word_Dec.f
  rw [w64 (n := a) (by omega) (by omega)]
  by_cases c : a < 0
  · rw [if_pos c, w64 (by omega) (by omega)]
    have h := key a.natAbs rfl
    rw [show ((a.natAbs : Nat) : Int) = -a from by omega] at h
    exact h
  · rw [if_neg c]
    have h := key a.natAbs rfl
    rw [show ((a.natAbs : Nat) : Int) = a from by omega] at h
    exact h

/-! ### the reference's Dec -/
theorem str_size (l : List Int) : (strOfNums l).size = l.length := strOfNums_size l
theorem refdec_nat (n : Nat) : ∀ k : Nat, n ≤ 1000000000000000000 → n < k → brazierref01_Dec.f k (n : Int) = some (strOfNums (digs n)) := by
  induction n using Nat.strongRecOn with
  | _ n ih =>
    intro k hn hk
    obtain ⟨k, rfl⟩ : ∃ j, k = j + 1 := ⟨k - 1, by omega⟩
    simp only [brazierref01_Dec.f]
    rw [if_neg (by omega)]
    by_cases h : n < 10
    · rw [if_pos (by omega), w64 (by omega) (by omega), digs_small h]
      congr 2
      simp only [List.cons.injEq, and_true]
      omega
    · have hlen := digs_len (n / 10) 18 (by decide) (by omega)
      rw [if_neg (by omega), tdiv_nn (by omega), show (n : Int) / 10 = ((n / 10 : Nat) : Int) from by omega, w64 (by omega) (by omega), ih (n / 10) (by omega) k (by omega) (by omega)]
      simp only [Option.bind_some]
      rw [if_pos (by rw [str_size, str_size]; simp; omega), digs_big h, ← str_append]
      congr 3
      rw [tmod_nn (by omega), w64 (by omega) (by omega)]
      simp only [List.cons.injEq, and_true]
      omega
theorem refdec_is (a : Int) (ha : -2147483648 ≤ a ∧ a ≤ 2147483648) (k : Nat) (hk : 2147483650 ≤ k) : brazierref01_Dec.f k a = some (strOfNums (decS a)) := by
  by_cases c : a < 0
  · obtain ⟨k, rfl⟩ : ∃ j, k = j + 1 := ⟨k - 1, by omega⟩
    simp only [brazierref01_Dec.f]
    have h := refdec_nat a.natAbs k (by omega) (by omega)
    have hlen := digs_len a.natAbs 18 (by decide) (by omega)
    rw [if_pos c, w64 (by omega) (by omega), show -a = ((a.natAbs : Nat) : Int) from by omega, h]
    simp only [Option.bind_some]
    rw [if_pos (by rw [str_size]; omega)]
    unfold decS
    rw [if_pos c, show (45 :: digs a.natAbs) = [45] ++ digs a.natAbs from rfl, str_append]
    rfl
  · have h := refdec_nat a.natAbs k (by omega) (by omega)
    rw [show ((a.natAbs : Nat) : Int) = a from by omega] at h
    rw [h]; unfold decS; rw [if_neg c]
end Go.Proofs.Ytfpaigfknohhfaa.Pure
