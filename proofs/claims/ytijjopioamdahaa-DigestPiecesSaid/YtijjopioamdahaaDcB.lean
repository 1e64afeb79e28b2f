/- The CRC's printed functions are the plain register. -/
import Derived.Test.YtijjopioamdahaaX1
import Derived.Test.YtijjopioamdahaaDcA
namespace Go.Proofs.Ytijjopioamdahaa.C
open Go.RowKit Go.Proofs.Ytijjopioamdahaa.X Go.Proofs.YtijjopioamdahaaW.PrintWords Go.Proofs.YtijjopioamdahaaW.PrintLast Go.Proofs.YtijjopioamdahaaW.PrintMore
theorem u32_xor (a b : Nat) (ha : a < 4294967296) (hb : b < 4294967296) : Go.bits .xor .u32 (a : Int) (b : Int) = ((a ^^^ b : Nat) : Int) := by
  have h : a ^^^ b < 2 ^ 32 := Nat.xor_lt_two_pow ha hb
  show IntKind.u32.wrap (((BitVec.ofInt 32 (a : Int) ^^^ BitVec.ofInt 32 (b : Int)).toNat : Nat) : Int) = _
  rw [BitVec.toNat_xor, BitVec.ofInt_natCast, BitVec.ofInt_natCast, BitVec.toNat_ofNat, BitVec.toNat_ofNat, IntKind.wrap_u32, Nat.mod_eq_of_lt (show a < 2 ^ 32 by omega), Nat.mod_eq_of_lt (show b < 2 ^ 32 by omega)]
  omega
theorem u32_and (a b : Nat) (ha : a < 4294967296) (hb : b < 4294967296) : Go.bits .and .u32 (a : Int) (b : Int) = ((a &&& b : Nat) : Int) := by
  have h : a &&& b < 2 ^ 32 := Nat.and_lt_two_pow _ hb
  show IntKind.u32.wrap (((BitVec.ofInt 32 (a : Int) &&& BitVec.ofInt 32 (b : Int)).toNat : Nat) : Int) = _
  rw [BitVec.toNat_and, BitVec.ofInt_natCast, BitVec.ofInt_natCast, BitVec.toNat_ofNat, BitVec.toNat_ofNat, IntKind.wrap_u32, Nat.mod_eq_of_lt (show a < 2 ^ 32 by omega), Nat.mod_eq_of_lt (show b < 2 ^ 32 by omega)]
  omega
theorem u32_max : IntKind.u32.max = ((4294967295 : Nat) : Int) := by decide
theorem not_nat (x : Nat) (h : x < 4294967296) : 4294967295 ^^^ x = 4294967295 - x := by
  have h1 : (BitVec.ofNat 32 4294967295 ^^^ BitVec.ofNat 32 x).toNat = (~~~ BitVec.ofNat 32 x).toNat := by
    congr 1
  rw [BitVec.toNat_xor, BitVec.toNat_not, BitVec.toNat_ofNat, BitVec.toNat_ofNat, Nat.mod_eq_of_lt (show x < 2 ^ 32 by omega)] at h1
  exact h1
theorem u32_not (x : Nat) (h : x < 4294967296) : Go.bits .xor .u32 IntKind.u32.max (x : Int) = 4294967295 - (x : Int) := by
  rw [u32_max, u32_xor _ _ (by decide) h, not_nat x h]
  omega
theorem u32_not' (x : Int) (h0 : 0 ≤ x) (h : x ≤ 4294967295) : Go.bits .xor .u32 IntKind.u32.max x = ((4294967295 - x.toNat : Nat) : Int) := by
  obtain ⟨n, rfl⟩ := Int.eq_ofNat_of_zero_le h0
  rw [u32_not n (by omega), Int.toNat_natCast]
  omega
theorem step_is (r : Nat) (h : r < 4294967296) : Go.bits .xor .u32 ((r : Int) / 2) (Go.bits .and .u32 3988292384 ((-(Go.bits .and .u32 (r : Int) 1)) % 4294967296)) = ((stepN r : Nat) : Int) := by
  have e1 : Go.bits .and .u32 (r : Int) 1 = ((r % 2 : Nat) : Int) := by
    have := u32_and r 1 h (by decide)
    rw [Nat.and_one_is_mod] at this
    exact this
  rw [e1]
  unfold stepN
  rcases Nat.mod_two_eq_zero_or_one r with h2 | h2
  · rw [h2, if_neg (by decide)]
    have := u32_xor (r / 2) 0 (by omega) (by decide)
    rw [Nat.xor_zero] at this
    have e2 := u32_and 3988292384 0 (by decide) (by decide)
    rw [show (-(((0 : Nat) : Int)) % 4294967296) = ((0 : Nat) : Int) by decide, show (3988292384 : Int) = ((3988292384 : Nat) : Int) by decide, e2, show (r : Int) / 2 = ((r / 2 : Nat) : Int) by omega]
    exact this
  · rw [h2, if_pos rfl]
    have := u32_xor (r / 2) 3988292384 (by omega) (by decide)
    have e2 := u32_and 3988292384 4294967295 (by decide) (by decide)
    rw [show (-(((1 : Nat) : Int)) % 4294967296) = ((4294967295 : Nat) : Int) by decide, show (3988292384 : Int) = ((3988292384 : Nat) : Int) by decide, e2, show (r : Int) / 2 = ((r / 2 : Nat) : Int) by omega]
    exact this
theorem more_l1 (L : List Int) (m j : Int) (hj : 0 ≤ j ∧ j < 1000000000000) : ∀ (n : Nat), n ≤ 8 → ∀ (k r : Nat), r < 4294967296 → digest_More.l1 (k + n + 1) (r : Int) L m j (8 - (n : Int)) = digest_More.l0 k ((stepsN n r : Nat) : Int) L m (j + 1) := by
  intro n
  induction n with
  | zero =>
    intro _ k r _
    rw [digest_More.l1, if_neg (by omega), show wrap64 (j + 1) = j + 1 by unfold wrap64; omega]
    rfl
  | succ n ih =>
    intro hn k r hr
    have hs : stepN r < 4294967296 := stepN_lt r hr
    rw [show k + (n + 1) + 1 = (k + n + 1) + 1 by omega, digest_More.l1, if_pos (by omega), step_is r hr, show wrap64 (8 - ((n + 1 : Nat) : Int) + 1) = 8 - (n : Int) by unfold wrap64; omega, ih (by omega) k (stepN r) hs]
    rfl
def byts (l : List Int) : List Nat := l.map Int.toNat
def okB (l : List Int) : Prop := ∀ x ∈ l, 0 ≤ x ∧ x ≤ 255
theorem byts_lt {l : List Int} (h : okB l) : ∀ c ∈ byts l, c < 256 := by
  intro c hc
  obtain ⟨x, hx, rfl⟩ := List.mem_map.1 hc
  have := h x hx
  omega
theorem rd_mid (pre : List Int) (c : Int) (suf : List Int) : rd (pre ++ c :: suf) (pre.length : Int) = c := by
  unfold rd
  rw [Int.toNat_natCast, List.getD_eq_getElem?_getD, List.getElem?_append_right (Nat.le_refl _), Nat.sub_self]
  rfl
theorem more_l0 (L : List Int) (hL : L.length < 1000000000) (h8 : okB L) : ∀ (suf pre : List Int), L = pre ++ suf → ∀ (k r : Nat), r < 4294967296 → 10 * suf.length + 1 ≤ k →
    digest_More.l0 k (r : Int) L (L.length : Int) (pre.length : Int) = some (4294967295 - ((regN r (byts suf) : Nat) : Int)) := by
  intro suf
  induction suf with
  | nil =>
    intro pre hp k r hr hk
    obtain ⟨k, rfl⟩ : ∃ m, k = m + 1 := ⟨k - 1, by omega⟩
    rw [List.append_nil] at hp
    rw [digest_More.l0, if_neg (by rw [hp]; omega), u32_not r hr]
    rfl
  | cons c suf ih =>
    intro pre hp k r hr hk
    rw [List.length_cons] at hk
    obtain ⟨k, rfl⟩ : ∃ m, k = m + 8 + 1 + 1 := ⟨k - 10, by omega⟩
    have hl : (pre.length : Int) < (L.length : Int) := by rw [hp, List.length_append, List.length_cons]; omega
    have hc := h8 c (by rw [hp]; simp)
    obtain ⟨c', rfl⟩ := Int.eq_ofNat_of_zero_le hc.1
    have hrd : rd L (pre.length : Int) = (c' : Int) := by rw [hp]; exact rd_mid pre _ suf
    rw [digest_More.l0, if_pos hl, if_pos (by omega), if_pos hl, hrd, show ((c' : Int) % 4294967296) = (c' : Int) by omega, u32_xor r c' hr (by omega)]
    have h1 := more_l1 L (L.length : Int) (pre.length : Int) (by omega) 8 (by omega) k (r ^^^ c') (Nat.xor_lt_two_pow (n := 32) hr (by omega))
    rw [show (8 : Int) - ((8 : Nat) : Int) = 0 by omega] at h1
    rw [h1]
    have h2 := ih (pre ++ [(c' : Int)]) (by rw [hp]; simp) k (byteN r c') (byteN_lt r c' hr (by omega)) (by omega)
    rw [List.length_append, List.length_singleton] at h2
    rw [show ((pre.length : Int) + 1) = ((pre.length + 1 : Nat) : Int) by omega]
    exact h2
theorem more_is (k : Nat) (a : Int) (l : List Int) (ha : 0 ≤ a ∧ a ≤ 4294967295) (h8 : okB l) (hl : l.length < 1000000000) (hk : 10 * l.length + 1 ≤ k) :
    digest_More.f k a l = some (4294967295 - ((regN (4294967295 - a.toNat) (byts l) : Nat) : Int)) := by
  unfold digest_More.f
  rw [u32_not' a ha.1 ha.2]
  exact more_l0 l hl h8 l [] rfl k _ (by omega) hk
theorem crc_is (k : Nat) (l : List Int) (h8 : okB l) (hl : l.length < 1000000000) (hk : 10 * l.length + 1 ≤ k) :
    digest_Crc.f k l = some (4294967295 - ((regN 4294967295 (byts l) : Nat) : Int)) := by
  unfold digest_Crc.f
  rw [more_is k 0 l (by decide) h8 hl hk]
  rfl
theorem ref_l1 (L : List Int) (m j : Int) (hj : 0 ≤ j ∧ j < 1000000000000) (c : Nat) : ∀ (n : Nat), n ≤ 8 → ∀ (k r : Nat), r < 4294967296 →
    brazierref02_Crc.l1 (k + n + 1) (r : Int) (c : Int) (8 - (n : Int)) L m j = brazierref02_Crc.l0 k ((refN c n (8 - n) r : Nat) : Int) L m (j + 1) := by
  intro n
  induction n with
  | zero =>
    intro _ k r _
    rw [brazierref02_Crc.l1, if_neg (by omega), show wrap64 (j + 1) = j + 1 by unfold wrap64; omega]
    rfl
  | succ n ih =>
    intro hn k r hr
    have hb : r / 2 ^^^ 3988292384 < 4294967296 := Nat.xor_lt_two_pow (n := 32) (by omega) (by decide)
    have e1 : Int.tmod (r : Int) 2 = ((r % 2 : Nat) : Int) := by rw [Int.tmod_eq_emod_of_nonneg (by omega)]; omega
    have e2 : Int.tdiv (r : Int) 2 % 4294967296 = ((r / 2 : Nat) : Int) := by rw [Int.tdiv_eq_ediv_of_nonneg (by omega)]; omega
    have e3 : shr .u8 (c : Int) (8 - ((n + 1 : Nat) : Int)) % 4294967296 % 2 = ((c / 2 ^ (8 - (n + 1)) % 2 : Nat) : Int) := by
      rw [show (8 : Int) - ((n + 1 : Nat) : Int) = ((8 - (n + 1) : Nat) : Int) by omega]
      unfold shr
      rw [Int.toNat_natCast, Nat.min_eq_left (show 8 - (n + 1) ≤ IntKind.u8.bits by show 8 - (n + 1) ≤ 8; omega)]
      rw [show ((c : Int) / 2 ^ (8 - (n + 1))) = ((c / 2 ^ (8 - (n + 1)) : Nat) : Int) by rw [Int.natCast_ediv, Int.natCast_pow]; rfl]
      have := Nat.div_le_self c (2 ^ (8 - (n + 1)))
      generalize c / 2 ^ (8 - (n + 1)) = x at *
      omega
    have e4 : wrap64 (8 - ((n + 1 : Nat) : Int) + 1) = 8 - (n : Int) := by unfold wrap64; omega
    rw [show k + (n + 1) + 1 = (k + n + 1) + 1 by omega, brazierref02_Crc.l1, if_pos (by omega), if_pos (by omega), e1, e2, e3, e4]
    rw [refN, show 8 - (n + 1) + 1 = 8 - n by omega]
    unfold refBit
    by_cases h : r % 2 = c / 2 ^ (8 - (n + 1)) % 2
    · rw [if_pos (by rw [h]), if_pos h, ih (by omega) k (r / 2) (by omega)]
    · rw [if_neg (by omega), if_neg h]
      have e5 := u32_xor (r / 2) 3988292384 (by omega) (by decide)
      rw [show (3988292384 : Int) = ((3988292384 : Nat) : Int) by decide, e5, ih (by omega) k _ hb]
theorem ref_l0 (L : List Int) (hL : L.length < 1000000000) (h8 : okB L) : ∀ (suf pre : List Int), L = pre ++ suf → ∀ (k r : Nat), r < 4294967296 → 10 * suf.length + 1 ≤ k →
    brazierref02_Crc.l0 k (r : Int) L (L.length : Int) (pre.length : Int) = some (4294967295 - ((regN r (byts suf) : Nat) : Int)) := by
  intro suf
  induction suf with
  | nil =>
    intro pre hp k r hr hk
    obtain ⟨k, rfl⟩ : ∃ m, k = m + 1 := ⟨k - 1, by omega⟩
    rw [List.append_nil] at hp
    rw [brazierref02_Crc.l0, if_neg (by rw [hp]; omega), show (4294967295 - (r : Int)) % 4294967296 = 4294967295 - (r : Int) by omega]
    rfl
  | cons c suf ih =>
    intro pre hp k r hr hk
    rw [List.length_cons] at hk
    obtain ⟨k, rfl⟩ : ∃ m, k = m + 8 + 1 + 1 := ⟨k - 10, by omega⟩
    have hl : (pre.length : Int) < (L.length : Int) := by rw [hp, List.length_append, List.length_cons]; omega
    have hc := h8 c (by rw [hp]; simp)
    obtain ⟨c', rfl⟩ := Int.eq_ofNat_of_zero_le hc.1
    have hrd : rd L (pre.length : Int) = (c' : Int) := by rw [hp]; exact rd_mid pre _ suf
    rw [brazierref02_Crc.l0, if_pos hl, if_pos (by omega), if_pos hl, hrd]
    have h1 := ref_l1 L (L.length : Int) (pre.length : Int) (by omega) c' 8 (by omega) k r hr
    rw [show (8 : Int) - ((8 : Nat) : Int) = 0 by omega, show 8 - 8 = 0 by omega, refByte r c' (by omega)] at h1
    rw [h1]
    have h2 := ih (pre ++ [(c' : Int)]) (by rw [hp]; simp) k (byteN r c') (byteN_lt r c' hr (by omega)) (by omega)
    rw [List.length_append, List.length_singleton] at h2
    rw [show ((pre.length : Int) + 1) = ((pre.length + 1 : Nat) : Int) by omega]
    exact h2
theorem ref_is (k : Nat) (l : List Int) (h8 : okB l) (hl : l.length < 1000000000) (hk : 10 * l.length + 1 ≤ k) :
    brazierref02_Crc.f k l = some (4294967295 - ((regN 4294967295 (byts l) : Nat) : Int)) := by
  unfold brazierref02_Crc.f
  exact ref_l0 l hl h8 l [] rfl k _ (by decide) hk
end Go.Proofs.Ytijjopioamdahaa.C
