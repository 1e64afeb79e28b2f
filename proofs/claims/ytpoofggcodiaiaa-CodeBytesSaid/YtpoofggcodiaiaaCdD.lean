/- code.Encode as printed: it answers a line's word. -/
import Derived.Test.YtpoofggcodiaiaaCdC
import Derived.Test.YtpoofggcodiaiaaX6
set_option linter.unusedSimpArgs false
set_option linter.unusedVariables false
namespace Go.Proofs.Ytpoofggcodiaiaa.Pure
open Go.RowKit Go.Proofs.Ytpoofggcodiaiaa.X Go.Proofs.YtpoofggcodiaiaaW.PrintWords Go.Proofs.YtpoofggcodiaiaaW.PrintLast

theorem pow_le31 {m : Nat} (h : m < 32) : 1 ≤ 2 ^ m ∧ 2 ^ m < 4294967296 :=
  ⟨Nat.two_pow_pos m, Nat.lt_of_lt_of_le (Nat.pow_lt_pow_right (by decide) h) (by decide)⟩
theorem field_is {w : Nat} (hw : w < 4294967296) (f m a : Nat) (f' m' a' : Int) (hf' : f' = (f : Int)) (hm' : m' = (m : Int)) (ha' : a' = (a : Int)) (hf : f < 32) (hm : m < 32) (ha : a + m ≤ 32) :
    code_field.f (w : Int) f' m' a' = some ((fld (cut w f m) a : Nat) : Int) := by
  subst hf' hm' ha'
  unfold code_field.f
  rw [if_pos (by omega), if_pos (by omega), if_pos (by omega)]
  have hp := pow_le31 hm
  have e1 : shr .u32 (w : Int) (f : Int) = ((w / 2 ^ f : Nat) : Int) := by
    unfold shr
    rw [Nat.min_eq_left (by simp [IntKind.bits]; omega)]
    simp
  have e2 : shl .u32 1 (m : Int) = ((2 ^ m : Nat) : Int) := by
    unfold shl
    rw [Nat.min_eq_left (by simp [IntKind.bits]; omega), Int.one_mul, IntKind.wrap_u32, Int.toNat_natCast]
    have : ((2 : Int) ^ m) = ((2 ^ m : Nat) : Int) := by push_cast; rfl
    rw [this]
    omega
  rw [e1, e2]
  have e3 : (((2 ^ m : Nat) : Int) - 1) % 4294967296 = ((2 ^ m - 1 : Nat) : Int) := by
    rw [Int.natCast_sub hp.1]
    omega
  rw [e3]
  have hd : w / 2 ^ f < 4294967296 := Nat.lt_of_le_of_lt (Nat.div_le_self ..) hw
  rw [and_u32 hd (by omega), Nat.and_two_pow_sub_one_eq_mod]
  unfold shl
  rw [Nat.min_eq_left (by simp [IntKind.bits]; omega), IntKind.wrap_u32, Int.toNat_natCast]
  have hl := fld_lt (a := a) (cut_lt w f m) ha
  have e4 : ((w / 2 ^ f % 2 ^ m : Nat) : Int) * 2 ^ a = ((fld (cut w f m) a : Nat) : Int) := by
    unfold fld cut; push_cast; rfl
  rw [e4]
  congr 1
  omega
theorem fixed_is {op : Int} (h1 : 1 ≤ op) (h2 : op ≤ 30) : code_fixed.f op = some ((baseN op : Nat) : Int) :=
  op31 (P := fun op => 1 ≤ op → code_fixed.f op = some ((baseN op : Nat) : Int)) (by omega) h2 (by decide +kernel) h1
theorem or4 {a b c d : Nat} (ha : a < 4294967296) (hb : b < 4294967296) (hc : c < 4294967296) (hd : d < 4294967296) :
    Go.bits .or .u32 (Go.bits .or .u32 (Go.bits .or .u32 (a : Int) (b : Int)) (c : Int)) (d : Int) = ((a ||| b ||| c ||| d : Nat) : Int) := by
  rw [or_u32 ha hb, or_u32 (or_lt32 ha hb) hc, or_u32 (or_lt32 (or_lt32 ha hb) hc) hd]
theorem lo20 {N : Nat} : (((N : Nat) : Int) * 1048576) % 4294967296 = ((fld (cut N 0 12) 20 : Nat) : Int) := by
  unfold fld cut
  omega
theorem number_is {op n : Int} (h9 : formL op ≠ 9) (hn : numOk (formL op) n = true) (k : Nat) : code_number.f (k + 1) op n = some ((numN (formL op) (nat32 n) : Nat) : Int) := by
  have hb := formL_bd h9
  have hN := nat32_lt n
  unfold code_number.f
  rw [← nat32_cast n]
  by_cases c1 : op = 1
  · subst c1
    rw [if_pos rfl, show formL 1 = 1 from rfl, num1]
    congr 1
    unfold fld cut
    omega
  rw [if_neg c1]
  by_cases c2 : op = 25
  · subst c2
    rw [if_pos rfl, show formL 25 = 6 from rfl, num6, field_is hN 0 5 7 0 5 7 rfl rfl rfl (by decide) (by decide) (by decide), Option.bind_some, field_is hN 5 7 25 5 7 25 rfl rfl rfl (by decide) (by decide) (by decide), Option.bind_some,
      or_u32 (fld_lt (cut_n ..) (by decide)) (fld_lt (cut_n ..) (by decide))]
  rw [if_neg c2]
  have f7 : code_number.j0 (k + 1) op (nat32 n : Int) true = some ((numN 7 (nat32 n) : Nat) : Int) := by
    simp only [code_number.j0, if_true]
    rw [field_is hN 1 4 8 1 4 8 rfl rfl rfl (by decide) (by decide) (by decide), Option.bind_some, field_is hN 5 6 25 5 6 25 rfl rfl rfl (by decide) (by decide) (by decide), Option.bind_some,
      field_is hN 11 1 7 11 1 7 rfl rfl rfl (by decide) (by decide) (by decide), Option.bind_some, field_is hN 12 1 31 12 1 31 rfl rfl rfl (by decide) (by decide) (by decide), Option.bind_some,
      or4 (fld_lt (cut_n ..) (by decide)) (fld_lt (cut_n ..) (by decide)) (fld_lt (cut_n ..) (by decide)) (fld_lt (cut_n ..) (by decide)), num7]
  by_cases c3 : op = 26
  · subst c3
    rw [if_pos rfl, f7]; rfl
  rw [if_neg c3]
  by_cases c4 : op = 27
  · subst c4
    rw [show ((27 : Int) == 27) = true from rfl, f7]; rfl
  rw [beq_eq_false_iff_ne.2 c4]
  simp only [code_number.j0, Bool.false_eq_true, if_false]
  by_cases c5 : op = 28
  · subst c5
    rw [if_pos rfl, show formL 28 = 8 from rfl, num8]
    rw [field_is hN 1 10 21 1 10 21 rfl rfl rfl (by decide) (by decide) (by decide), Option.bind_some, field_is hN 11 1 20 11 1 20 rfl rfl rfl (by decide) (by decide) (by decide), Option.bind_some,
      field_is hN 12 8 12 12 8 12 rfl rfl rfl (by decide) (by decide) (by decide), Option.bind_some, field_is hN 20 1 31 20 1 31 rfl rfl rfl (by decide) (by decide) (by decide), Option.bind_some,
      or4 (fld_lt (cut_n ..) (by decide)) (fld_lt (cut_n ..) (by decide)) (fld_lt (cut_n ..) (by decide)) (fld_lt (cut_n ..) (by decide))]
  rw [if_neg c5, lo20]
  by_cases c6 : op ≤ 10
  · rw [if_pos (show op ≥ 2 from by omega), if_pos c6]
    by_cases c7 : op ≤ 7
    · rw [show formL op = 2 from by unfold formL; rw [if_neg c1, if_pos (by omega)], num2]
    · have e : formL op = 3 := by unfold formL; rw [if_neg c1, if_neg (by omega), if_pos (by omega)]
      rw [e] at hn ⊢
      have hn' : 0 ≤ n ∧ n ≤ 31 := by simpa [numOk] using hn
      rw [num3]
      have hc := nat32_cast n
      have e2 : fld (cut (nat32 n) 0 12) 20 = fld (cut (nat32 n) 0 5) 20 := by
        unfold fld cut; omega
      rw [e2]
  · rw [if_pos (show op ≥ 2 from by omega), if_neg c6]
    by_cases c8 : op = 24
    · subst c8
      rw [if_pos rfl]; rfl
    rw [if_neg c8]
    by_cases c10 : op = 29
    · subst c10
      rw [if_pos rfl]; rfl
    rw [if_neg c10]
    have e : numN (formL op) (nat32 n) = 0 := by
      have : formL op = 4 ∨ formL op = 0 := by
        by_cases c : op ≤ 23
        · left; unfold formL; rw [if_neg c1, if_neg (by omega), if_neg (by omega), if_pos (by omega)]
        · right
          obtain rfl : op = 30 := by omega
          rfl
      rcases this with c | c <;> rw [c]
      · exact num4 _
      · exact num0 _
    rw [e]; rfl
theorem num_lt {f : Int} (N : Nat) : numN f N < 4294967296 := by
  unfold numN
  repeat' split
  all_goals first
    | exact fld_lt (cut_n ..) (by decide)
    | exact or_lt32 (fld_lt (cut_n ..) (by decide)) (fld_lt (cut_n ..) (by decide))
    | exact or_lt32 (or_lt32 (or_lt32 (fld_lt (cut_n ..) (by decide)) (fld_lt (cut_n ..) (by decide))) (fld_lt (cut_n ..) (by decide))) (fld_lt (cut_n ..) (by decide))
    | decide
/-- Has a line a word? -/
def okL (kd op d a b n : Int) (s : ByteArray) : Bool := kd == 2 && (s.toList == []) && mayP op d a b n
def wordOf (kd op d a b n : Int) (s : ByteArray) : Int := if okL kd op d a b n s = true then (wordL op d a b n : Nat) else 0
theorem encode_is (kd op d a b n : Int) (s : ByteArray) (hn : -2147483648 ≤ n ∧ n ≤ 2147483647) (k : Nat) (hk : 10 ≤ k) : code_Encode.f k kd op d a b n s = some (wordOf kd op d a b n s, okL kd op d a b n s) := by
  obtain ⟨j, rfl⟩ : ∃ j, k = j + 1 + 1 := ⟨k - 2, by omega⟩
  have no : code_Encode.j0 (j + 1 + 1) true kd op d a b n s = some (0, false) := by simp only [code_Encode.j0, if_true]
  unfold code_Encode.f
  by_cases h2 : kd ≠ 2
  · rw [if_neg h2, no]
    have : okL kd op d a b n s = false := by unfold okL; rw [beq_eq_false_iff_ne.2 h2]; rfl
    unfold wordOf; rw [this]; rfl
  obtain rfl := Decidable.not_not.1 h2
  rw [if_pos rfl]
  by_cases hs : s.toList ≠ []
  · rw [if_neg hs, no]
    have : okL 2 op d a b n s = false := by unfold okL; rw [beq_eq_false_iff_ne.2 hs]; rfl
    unfold wordOf; rw [this]; rfl
  replace hs := Decidable.not_not.1 hs
  rw [if_pos hs, mayLine_is _ _ _ _ _ _ hs hn _ hk, Option.bind_some]
  have eo : okL 2 op d a b n s = mayP op d a b n := by unfold okL; rw [hs]; rfl
  unfold wordOf
  rw [eo]
  cases hm : mayP op d a b n
  · rw [Bool.not_false, no]; rfl
  obtain ⟨o1, o2, h9, hd, ha, hb, hnum⟩ := mayP_bd hm
  simp only [Bool.not_true, code_Encode.j0, Bool.false_eq_true, if_false, if_true]
  rw [fixed_is o1 o2, Option.bind_some, number_is h9 hnum, Option.bind_some]
  have ed : d % 4294967296 * 128 % 4294967296 = ((fld d.toNat 7 : Nat) : Int) := by unfold fld; omega
  have ea : a % 4294967296 * 32768 % 4294967296 = ((fld a.toNat 15 : Nat) : Int) := by unfold fld; omega
  have eb : b % 4294967296 * 1048576 % 4294967296 = ((fld b.toNat 20 : Nat) : Int) := by unfold fld; omega
  have ld := fld_lt (a := 7) (fld5 ⟨hd.1, hd.2.1⟩) (by decide)
  have la := fld_lt (a := 15) (fld5 ⟨ha.1, ha.2.1⟩) (by decide)
  have lb := fld_lt (a := 20) (fld5 ⟨hb.1, hb.2.1⟩) (by decide)
  rw [ed, ea, eb, or4 (base_lo h9).1 ld la lb, or_u32 (or_lt32 (or_lt32 (or_lt32 (base_lo h9).1 ld) la) lb) (num_lt _)]
  rfl
theorem lives_is (k : Nat) (hk : 10 ≤ k) : brazierlaw19_lives.f k = some true := by
  unfold brazierlaw19_lives.f
  rw [encode_is _ _ _ _ _ _ _ (by decide) k hk, encode_is _ _ _ _ _ _ _ (by decide) k hk]
  decide +kernel
end Go.Proofs.Ytpoofggcodiaiaa.Pure
