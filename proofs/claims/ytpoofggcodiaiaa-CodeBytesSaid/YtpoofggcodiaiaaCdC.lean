/- A line's number, read out of its word; no two lines have one word. No program. -/
import Derived.Test.YtpoofggcodiaiaaCdB
set_option linter.unusedSimpArgs false
set_option linter.unusedVariables false
namespace Go.Proofs.Ytpoofggcodiaiaa.Pure
open Go.RowKit

theorem back1 (w : Nat) : backN 1 w = (cut w 12 20 : Nat) := by unfold backN; rw [if_pos (by decide)]
theorem back2 (w : Nat) : backN 2 w = sgn (cut w 20 12) 12 := by unfold backN; rw [if_neg (by decide), if_pos (by decide)]
theorem back5 (w : Nat) : backN 5 w = sgn (cut w 20 12) 12 := by unfold backN; rw [if_neg (by decide), if_pos (by decide)]
theorem back3 (w : Nat) : backN 3 w = (cut w 20 5 : Nat) := by unfold backN; rw [if_neg (by decide), if_neg (by decide), if_pos (by decide)]
theorem back6 (w : Nat) : backN 6 w = sgn (fld (cut w 7 5) 0 ||| fld (cut w 25 7) 5) 12 := by unfold backN; rw [if_neg (by decide), if_neg (by decide), if_neg (by decide), if_pos (by decide)]
theorem back7 (w : Nat) : backN 7 w = sgn (fld (cut w 8 4) 1 ||| fld (cut w 25 6) 5 ||| fld (cut w 7 1) 11 ||| fld (cut w 31 1) 12) 13 := by unfold backN; rw [if_neg (by decide), if_neg (by decide), if_neg (by decide), if_neg (by decide), if_pos (by decide)]
theorem back8 (w : Nat) : backN 8 w = sgn (fld (cut w 21 10) 1 ||| fld (cut w 20 1) 11 ||| fld (cut w 12 8) 12 ||| fld (cut w 31 1) 20) 21 := by unfold backN; rw [if_neg (by decide), if_neg (by decide), if_neg (by decide), if_neg (by decide), if_neg (by decide), if_pos (by decide)]
theorem back0 (w : Nat) : backN 0 w = 0 := by unfold backN; rw [if_neg (by decide), if_neg (by decide), if_neg (by decide), if_neg (by decide), if_neg (by decide), if_neg (by decide)]
theorem back4 (w : Nat) : backN 4 w = 0 := by unfold backN; rw [if_neg (by decide), if_neg (by decide), if_neg (by decide), if_neg (by decide), if_neg (by decide), if_neg (by decide)]
theorem back9 (w : Nat) : backN 9 w = 0 := by unfold backN; rw [if_neg (by decide), if_neg (by decide), if_neg (by decide), if_neg (by decide), if_neg (by decide), if_neg (by decide)]
theorem cut_some (w f m : Nat) : cut w f m = w / 2 ^ f % 2 ^ m := rfl
theorem cut_part {w f m f' m' : Nat} (h : cut w f m = 0) (h1 : f ≤ f') (h2 : f' + m' ≤ f + m) : cut w f' m' = 0 := by
  obtain ⟨c, rfl⟩ := Nat.exists_eq_add_of_le h1
  obtain ⟨e, he⟩ := Nat.exists_eq_add_of_le (show m' + c ≤ m from by omega)
  subst he
  have := cut_join w f c (m' + e)
  rw [show c + (m' + e) = m' + c + e from by omega, h] at this
  have h3 : cut w (f + c) (m' + e) = 0 := by
    have h4 : 2 ^ c * cut w (f + c) (m' + e) = 0 := by omega
    rcases Nat.mul_eq_zero.1 h4 with h5 | h5
    · exact absurd h5 (Nat.ne_of_gt (Nat.two_pow_pos c))
    · exact h5
  have := cut_join w (f + c) m' e
  omega
theorem sgn12 {n : Int} (h : -2048 ≤ n ∧ n ≤ 2047) : sgn (cut (nat32 n) 0 12) 12 = n := by
  unfold sgn
  have := cut_nat32 n 0 12 (by decide)
  have e : (cut (nat32 n) 0 12 : Int) = n % 4096 := by rw [this, Int.pow_zero, Int.ediv_one]; rfl
  split <;> omega
theorem sgn13 {n : Int} (h : -4096 ≤ n ∧ n ≤ 4095) (h2 : n % 2 = 0) : sgn (fld (cut (nat32 n) 1 12) 1) 13 = n := by
  unfold sgn fld
  have := cut_nat32 n 1 12 (by decide)
  have e : (cut (nat32 n) 1 12 : Int) = n / 2 % 4096 := by rw [this]; rfl
  split <;> omega
theorem sgn21 {n : Int} (h : -1048576 ≤ n ∧ n ≤ 1048575) (h2 : n % 2 = 0) : sgn (fld (cut (nat32 n) 1 20) 1) 21 = n := by
  unfold sgn fld
  have := cut_nat32 n 1 20 (by decide)
  have e : (cut (nat32 n) 1 20 : Int) = n / 2 % 1048576 := by rw [this]; rfl
  split <;> omega

theorem cut_hi' {N g j a f m : Nat} (h : j + a ≤ f) : cut (fld (cut N g j) a) f m = 0 := cut_hi (cut_n ..) h
theorem cut_at' {N g m a : Nat} : cut (fld (cut N g m) a) a m = cut N g m := cut_at (cut_n ..)
theorem n_word {op d a b n : Int} (h : mayP op d a b n = true) : backN (formL op) (wordL op d a b n) = n := by
  obtain ⟨_, _, h9, hd, ha, hb, hn⟩ := mayP_bd h
  have d5 := fld5 ⟨hd.1, hd.2.1⟩
  have a5 := fld5 ⟨ha.1, ha.2.1⟩
  have b5 := fld5 ⟨hb.1, hb.2.1⟩
  have hlo := base_lo h9
  have d0 := hd.2.2
  have a0 := ha.2.2
  have b0 := hb.2.2
  -- where an op has no register, its field is empty
  rcases form_cases h9 with c | c | c | c | c | c | c | c | c <;> (rw [c] at hlo d0 a0 b0 hn ⊢)
  · have ea : a = 0 := a0 (by decide)
    have eb : b = 0 := b0 (by decide)
    subst ea eb
    have hn' : 0 ≤ n ∧ n ≤ 1048575 := by simpa [numOk] using hn
    rw [back1, cut_word, c, num1, cut_hi (f := 12) d5 (by decide), hlo.2.2.2.2.1 rfl, cut_at (cut_n ..)]
    simp only [Int.toNat_zero, fld_zero, cut_zero, Nat.or_zero, Nat.zero_or]
    have := cut_nat32 n 0 20 (by decide)
    have e : (cut (nat32 n) 0 20 : Int) = n % 1048576 := by rw [this, Int.pow_zero, Int.ediv_one]; rfl
    omega
  · have eb : b = 0 := b0 (by decide)
    subst eb
    have hn' : -2048 ≤ n ∧ n ≤ 2047 := by simpa [numOk] using hn
    rw [back2, cut_word, c, num2, cut_hi (f := 20) d5 (by decide), cut_hi (f := 20) a5 (by decide), hlo.2.2.2.2.2.2 (by decide) (by decide), cut_at (cut_n ..)]
    simp only [Int.toNat_zero, fld_zero, cut_zero, Nat.or_zero, Nat.zero_or]
    exact sgn12 hn'
  · have eb : b = 0 := b0 (by decide)
    subst eb
    have hn' : 0 ≤ n ∧ n ≤ 31 := by simpa [numOk] using hn
    rw [back3, cut_word, c, num3, cut_hi (f := 20) d5 (by decide), cut_hi (f := 20) a5 (by decide), hlo.2.2.2.1, cut_at (cut_n ..)]
    simp only [Int.toNat_zero, fld_zero, cut_zero, Nat.or_zero, Nat.zero_or]
    have := cut_nat32 n 0 5 (by decide)
    have e : (cut (nat32 n) 0 5 : Int) = n % 32 := by rw [this, Int.pow_zero, Int.ediv_one]; rfl
    omega
  · have hn' : n = 0 := by simpa [numOk] using hn
    rw [back4, hn']
  · have eb : b = 0 := b0 (by decide)
    subst eb
    have hn' : -2048 ≤ n ∧ n ≤ 2047 := by simpa [numOk] using hn
    rw [back5, cut_word, c, num5, cut_hi (f := 20) d5 (by decide), cut_hi (f := 20) a5 (by decide), hlo.2.2.2.2.2.2 (by decide) (by decide), cut_at (cut_n ..)]
    simp only [Int.toNat_zero, fld_zero, cut_zero, Nat.or_zero, Nat.zero_or]
    exact sgn12 hn'
  · have ed : d = 0 := d0 (by decide)
    subst ed
    have hn' : -2048 ≤ n ∧ n ≤ 2047 := by simpa [numOk] using hn
    have e1 : cut (wordL op 0 a b n) 7 5 = cut (nat32 n) 0 5 := by
      rw [cut_word, c, num6, hlo.2.1, cut_lo (x := a.toNat) (by decide), cut_lo (x := b.toNat) (by decide)]
      simp (disch := decide) only [cut_or, cut_lo, cut_hi', cut_at', Int.toNat_zero, fld_zero, cut_zero, Nat.or_zero, Nat.zero_or]
    have e2 : cut (wordL op 0 a b n) 25 7 = cut (nat32 n) 5 7 := by
      rw [cut_word, c, num6, cut_part (hlo.2.2.2.2.2.2 (by decide) (by decide)) (by decide) (by decide), cut_hi (f := 25) a5 (by decide), cut_hi (f := 25) b5 (by decide)]
      simp (disch := decide) only [cut_or, cut_lo, cut_hi', cut_at', Int.toNat_zero, fld_zero, cut_zero, Nat.or_zero, Nat.zero_or]
    rw [back6, e1, e2, show (fld (cut (nat32 n) 0 5) 0 ||| fld (cut (nat32 n) 5 7) 5) = fld (cut (nat32 n) 0 12) 0 from fld_join (nat32 n) 0 5 7 0, show fld (cut (nat32 n) 0 12) 0 = cut (nat32 n) 0 12 from Nat.mul_one _]
    exact sgn12 hn'
  · have ed : d = 0 := d0 (by decide)
    subst ed
    have hn' : (-4096 ≤ n ∧ n ≤ 4095) ∧ n % 2 = 0 := by simpa [numOk] using hn
    have b1 := hlo.2.1
    have b2 := hlo.2.2.2.2.2.2 (by decide) (by decide)
    have e1 : cut (wordL op 0 a b n) 8 4 = cut (nat32 n) 1 4 := by
      rw [cut_word, c, num7, cut_part b1 (by decide) (by decide), cut_lo (x := a.toNat) (by decide), cut_lo (x := b.toNat) (by decide)]
      simp (disch := decide) only [cut_or, cut_lo, cut_hi', cut_at', Int.toNat_zero, fld_zero, cut_zero, Nat.or_zero, Nat.zero_or]
    have e2 : cut (wordL op 0 a b n) 25 6 = cut (nat32 n) 5 6 := by
      rw [cut_word, c, num7, cut_part b2 (by decide) (by decide), cut_hi (f := 25) a5 (by decide), cut_hi (f := 25) b5 (by decide)]
      simp (disch := decide) only [cut_or, cut_lo, cut_hi', cut_at', Int.toNat_zero, fld_zero, cut_zero, Nat.or_zero, Nat.zero_or]
    have e3 : cut (wordL op 0 a b n) 7 1 = cut (nat32 n) 11 1 := by
      rw [cut_word, c, num7, cut_part b1 (by decide) (by decide), cut_lo (x := a.toNat) (by decide), cut_lo (x := b.toNat) (by decide)]
      simp (disch := decide) only [cut_or, cut_lo, cut_hi', cut_at', Int.toNat_zero, fld_zero, cut_zero, Nat.or_zero, Nat.zero_or]
    have e4 : cut (wordL op 0 a b n) 31 1 = cut (nat32 n) 12 1 := by
      rw [cut_word, c, num7, cut_part b2 (by decide) (by decide), cut_hi (f := 31) a5 (by decide), cut_hi (f := 31) b5 (by decide)]
      simp (disch := decide) only [cut_or, cut_lo, cut_hi', cut_at', Int.toNat_zero, fld_zero, cut_zero, Nat.or_zero, Nat.zero_or]
    rw [back7, e1, e2, e3, e4, show (fld (cut (nat32 n) 1 4) 1 ||| fld (cut (nat32 n) 5 6) 5) = fld (cut (nat32 n) 1 10) 1 from fld_join (nat32 n) 1 4 6 1,
      show (fld (cut (nat32 n) 1 10) 1 ||| fld (cut (nat32 n) 11 1) 11) = fld (cut (nat32 n) 1 11) 1 from fld_join (nat32 n) 1 10 1 1,
      show (fld (cut (nat32 n) 1 11) 1 ||| fld (cut (nat32 n) 12 1) 12) = fld (cut (nat32 n) 1 12) 1 from fld_join (nat32 n) 1 11 1 1]
    exact sgn13 hn'.1 hn'.2
  · have ea : a = 0 := a0 (by decide)
    have eb : b = 0 := b0 (by decide)
    subst ea eb
    have hn' : (-1048576 ≤ n ∧ n ≤ 1048575) ∧ n % 2 = 0 := by simpa [numOk] using hn
    have b2 := hlo.2.2.2.2.2.1 rfl
    have e1 : cut (wordL op d 0 0 n) 21 10 = cut (nat32 n) 1 10 := by
      rw [cut_word, c, num8, cut_part b2 (by decide) (by decide), cut_hi (f := 21) d5 (by decide)]
      simp (disch := decide) only [cut_or, cut_lo, cut_hi', cut_at', Int.toNat_zero, fld_zero, cut_zero, Nat.or_zero, Nat.zero_or]
    have e2 : cut (wordL op d 0 0 n) 20 1 = cut (nat32 n) 11 1 := by
      rw [cut_word, c, num8, cut_part b2 (by decide) (by decide), cut_hi (f := 20) d5 (by decide)]
      simp (disch := decide) only [cut_or, cut_lo, cut_hi', cut_at', Int.toNat_zero, fld_zero, cut_zero, Nat.or_zero, Nat.zero_or]
    have e3 : cut (wordL op d 0 0 n) 12 8 = cut (nat32 n) 12 8 := by
      rw [cut_word, c, num8, cut_part b2 (by decide) (by decide), cut_hi (f := 12) d5 (by decide)]
      simp (disch := decide) only [cut_or, cut_lo, cut_hi', cut_at', Int.toNat_zero, fld_zero, cut_zero, Nat.or_zero, Nat.zero_or]
    have e4 : cut (wordL op d 0 0 n) 31 1 = cut (nat32 n) 20 1 := by
      rw [cut_word, c, num8, cut_part b2 (by decide) (by decide), cut_hi (f := 31) d5 (by decide)]
      simp (disch := decide) only [cut_or, cut_lo, cut_hi', cut_at', Int.toNat_zero, fld_zero, cut_zero, Nat.or_zero, Nat.zero_or]
    rw [back8, e1, e2, e3, e4, show (fld (cut (nat32 n) 1 10) 1 ||| fld (cut (nat32 n) 11 1) 11) = fld (cut (nat32 n) 1 11) 1 from fld_join (nat32 n) 1 10 1 1,
      show (fld (cut (nat32 n) 1 11) 1 ||| fld (cut (nat32 n) 12 8) 12) = fld (cut (nat32 n) 1 19) 1 from fld_join (nat32 n) 1 11 8 1,
      show (fld (cut (nat32 n) 1 19) 1 ||| fld (cut (nat32 n) 20 1) 20) = fld (cut (nat32 n) 1 20) 1 from fld_join (nat32 n) 1 19 1 1]
    exact sgn21 hn'.1 hn'.2
  · have hn' : n = 0 := by simpa [numOk] using hn
    rw [back0, hn']
/-- No two lines have one word. -/
theorem word_apart {op d a b n op' d' a' b' n' : Int} (h : mayP op d a b n = true) (h' : mayP op' d' a' b' n' = true) (e : wordL op d a b n = wordL op' d' a' b' n') : op = op' ∧ d = d' ∧ a = a' ∧ b = b' ∧ n = n' := by
  have hb := mayP_bd h
  have hb' := mayP_bd h'
  have eo : op = op' := by
    refine op_told hb.1 hb.2.1 hb'.1 hb'.2.1 ?_ ?_ ?_
    · rw [← low_word op d a b n, e, low_word]
    · intro c1 c8 c1' c8'
      rw [← mid_word h c1 c8, e, mid_word h' c1' c8']
    · intro c c'
      rw [← top_word h c, e, top_word h' c']
  subst eo
  refine ⟨rfl, ?_, ?_, ?_, ?_⟩
  · rw [← d_word h, e, d_word h']
  · rw [← a_word h, e, a_word h']
  · rw [← b_word h, e, b_word h']
  · rw [← n_word h, e, n_word h']
end Go.Proofs.Ytpoofggcodiaiaa.Pure
