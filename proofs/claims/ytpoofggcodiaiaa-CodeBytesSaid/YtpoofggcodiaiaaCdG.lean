/- The reference's Encode as printed answers a line's word. -/
import Derived.Test.YtpoofggcodiaiaaCdF
import Derived.Test.YtpoofggcodiaiaaX12
set_option linter.unusedSimpArgs false
set_option linter.unusedVariables false
namespace Go.Proofs.Ytpoofggcodiaiaa.Pure
open Go.RowKit Go.Proofs.Ytpoofggcodiaiaa.X Go.Proofs.YtpoofggcodiaiaaW.PrintWords Go.Proofs.YtpoofggcodiaiaaW.PrintLast

def lowMid : List Nat := [0, 55, 19, 8211, 12307, 16403, 24595, 28691, 4115, 20499, 20499, 51, 51, 4147, 8243, 12339, 16435, 20531, 20531, 24627, 28723, 51, 16435, 24627, 8195, 8227, 99, 4195, 111, 103, 115]
def lmN (op : Int) : Nat := lowMid[op.toNat]?.getD 0
def b30 (op : Int) : Nat := if op = 10 ∨ op = 12 ∨ op = 18 then 1073741824 else 0
def b25 (op : Int) : Nat := if 21 ≤ op ∧ op ≤ 23 then 33554432 else 0
theorem lm_is {op : Int} (h1 : 0 ≤ op) (h2 : op ≤ 30) :
    ((rd ([0, 55, 19, 19, 19, 19, 19, 19, 19, 19, 19, 51, 51, 51, 51, 51, 51, 51, 51, 51, 51, 51, 51, 51, 3, 35, 99, 99, 111, 103, 115] : List Int) op) + ((rd ([0, 0, 0, 2, 3, 4, 6, 7, 1, 5, 5, 0, 0, 1, 2, 3, 4, 5, 5, 6, 7, 0, 4, 6, 2, 2, 0, 1, 0, 0, 0] : List Int) op) * 4096)) % 4294967296 = ((lmN op : Nat) : Int) :=
  op31 (P := fun op => ((rd ([0, 55, 19, 19, 19, 19, 19, 19, 19, 19, 19, 51, 51, 51, 51, 51, 51, 51, 51, 51, 51, 51, 51, 51, 3, 35, 99, 99, 111, 103, 115] : List Int) op) + ((rd ([0, 0, 0, 2, 3, 4, 6, 7, 1, 5, 5, 0, 0, 1, 2, 3, 4, 5, 5, 6, 7, 0, 4, 6, 2, 2, 0, 1, 0, 0, 0] : List Int) op) * 4096)) % 4294967296 = ((lmN op : Nat) : Int)) h1 h2 (by decide +kernel)
theorem lm_base {op : Int} (h1 : 0 ≤ op) (h2 : op ≤ 30) : lmN op < 4294967296 ∧ (lmN op ||| b30 op ||| b25 op) = baseN op :=
  op31 (P := fun op => lmN op < 4294967296 ∧ (lmN op ||| b30 op ||| b25 op) = baseN op) h1 h2 (by decide +kernel)
theorem b30_lt (op : Int) : b30 op < 4294967296 := by unfold b30; split <;> decide
theorem b25_lt (op : Int) : b25 op < 4294967296 := by unfold b25; split <;> decide
/-- What follows behind the fields: two bits more. -/
theorem tail_is (op d a b n : Int) (s : ByteArray) {x : Nat} (hx : x < 4294967296) (j : Nat) : brazierref19_Encode.j4 (j + 1 + 1) (x : Int) 2 op d a b n s = some (((x ||| b30 op ||| b25 op : Nat) : Int), true) := by
  have f25 : ∀ y : Nat, y < 4294967296 → (if op ≥ 21 then if op ≤ 23 then some (Go.bits .or .u32 (y : Int) 33554432, true) else some ((y : Int), true) else some ((y : Int), true)) = some (((y ||| b25 op : Nat) : Int), true) := by
    intro y hy
    unfold b25
    by_cases c : op ≥ 21
    · by_cases c2 : op ≤ 23
      · rw [if_pos c, if_pos c2, if_pos ⟨c, c2⟩, show (33554432 : Int) = ((33554432 : Nat) : Int) from rfl, or_u32 hy (by decide)]
      · rw [if_pos c, if_neg c2, if_neg (by omega), Nat.or_zero]
    · rw [if_neg c, if_neg (by omega), Nat.or_zero]
  have t30 : brazierref19_Encode.j5 (j + 1) (x : Int) true 2 op d a b n s = some (((x ||| 1073741824 ||| b25 op : Nat) : Int), true) := by
    simp only [brazierref19_Encode.j5, if_true]
    rw [show (1073741824 : Int) = ((1073741824 : Nat) : Int) from rfl, or_u32 hx (by decide)]
    exact f25 _ (or_lt32 hx (by decide))
  simp only [brazierref19_Encode.j4]
  by_cases c1 : op = 10
  · rw [if_pos c1, t30]
    have : b30 op = 1073741824 := by unfold b30; rw [if_pos (Or.inl c1)]
    rw [this]
  rw [if_neg c1]
  by_cases c2 : op = 12
  · rw [if_pos c2, t30]
    have : b30 op = 1073741824 := by unfold b30; rw [if_pos (Or.inr (Or.inl c2))]
    rw [this]
  rw [if_neg c2]
  by_cases c3 : op = 18
  · rw [c3, show ((18 : Int) == 18) = true from rfl, ← c3, t30]
    have : b30 op = 1073741824 := by unfold b30; rw [if_pos (Or.inr (Or.inr c3))]
    rw [this]
  · rw [beq_eq_false_iff_ne.2 c3]
    simp only [brazierref19_Encode.j5, Bool.false_eq_true, if_false]
    rw [f25 x hx]
    have : b30 op = 0 := by unfold b30; rw [if_neg (by omega)]
    rw [this, Nat.or_zero]
theorem lay0 {d : Int} (h : 0 ≤ d ∧ d ≤ 31) : cut (nat32 d) 0 5 = d.toNat := by
  have := cut_nat32 d 0 5 (by decide)
  rw [Int.pow_zero, Int.ediv_one] at this
  omega
/-- The fields of a number, as the reference lays them. -/
theorem fields_is {op d a b n : Int} {s : ByteArray} (hn : -2147483648 ≤ n ∧ n ≤ 2147483647) (o1 : 1 ≤ op) (o2 : op ≤ 30) (h9 : formL op ≠ 9) {x : Nat} (hx : x < 4294967296) (k : Nat) (hk : 140 ≤ k) :
    (if op = 1 then ((brazierref19_lay.f (k + 5) (x : Int) n 0 20 12).bind fun t166 => (brazierref19_Encode.j4 (k + 5) t166 2 op d a b n s)) else (if op = 28 then ((brazierref19_lay.f (k + 5) (x : Int) n 1 10 21).bind fun t167 => ((brazierref19_lay.f (k + 5) t167 n 11 1 20).bind fun t168 => ((brazierref19_lay.f (k + 5) t168 n 12 8 12).bind fun t169 => ((brazierref19_lay.f (k + 5) t169 n 20 1 31).bind fun t170 => (brazierref19_Encode.j4 (k + 5) t170 2 op d a b n s))))) else (if op = 2 then (brazierref19_Encode.j1 (k + 5) (x : Int) n op (op == 2) 2 op d a b n s) else (if op = 3 then (brazierref19_Encode.j1 (k + 5) (x : Int) n op (op == 3) 2 op d a b n s) else (if op = 4 then (brazierref19_Encode.j1 (k + 5) (x : Int) n op (op == 4) 2 op d a b n s) else (if op = 5 then (brazierref19_Encode.j1 (k + 5) (x : Int) n op (op == 5) 2 op d a b n s) else (if op = 6 then (brazierref19_Encode.j1 (k + 5) (x : Int) n op (op == 6) 2 op d a b n s) else (if op = 7 then (brazierref19_Encode.j1 (k + 5) (x : Int) n op (op == 7) 2 op d a b n s) else (if op = 24 then (brazierref19_Encode.j1 (k + 5) (x : Int) n op (op == 24) 2 op d a b n s) else (brazierref19_Encode.j1 (k + 5) (x : Int) n op (op == 29) 2 op d a b n s))))))))))
      = some (((x ||| numN (formL op) (nat32 n) ||| b30 op ||| b25 op : Nat) : Int), true) := by
  have T : ∀ (y : Nat) (j : Nat), y < 4294967296 → brazierref19_Encode.j4 (j + 1 + 1) (y : Int) 2 op d a b n s = some (((y ||| b30 op ||| b25 op : Nat) : Int), true) := fun y j hy => tail_is op d a b n s hy j
  have j1t : brazierref19_Encode.j1 (k + 5) (x : Int) n op true 2 op d a b n s = some (((x ||| fld (cut (nat32 n) 0 12) 20 ||| b30 op ||| b25 op : Nat) : Int), true) := by
    simp only [brazierref19_Encode.j1, if_true]
    rw [lay_is hn hx 0 12 20 0 12 20 rfl rfl rfl (by decide) (by decide) (by omega), Option.bind_some, T _ _ (or_lt32 hx (fld_lt (cut_n ..) (by decide)))]
  have j2t : brazierref19_Encode.j2 (k + 4) (x : Int) n op true 2 op d a b n s = some (((x ||| fld (cut (nat32 n) 0 5) 20 ||| b30 op ||| b25 op : Nat) : Int), true) := by
    simp only [brazierref19_Encode.j2, if_true]
    rw [lay_is hn hx 0 5 20 0 5 20 rfl rfl rfl (by decide) (by decide) (by omega), Option.bind_some, T _ _ (or_lt32 hx (fld_lt (cut_n ..) (by decide)))]
  have L : ∀ (N f m a : Nat), m + a ≤ 32 → fld (cut N f m) a < 4294967296 := fun N f m a h => fld_lt (cut_n ..) (by omega)
  have j3t : brazierref19_Encode.j3 (k + 3) (x : Int) n true 2 op d a b n s = some (((x ||| numN 7 (nat32 n) ||| b30 op ||| b25 op : Nat) : Int), true) := by
    simp only [brazierref19_Encode.j3, if_true]
    rw [lay_is hn hx 1 4 8 1 4 8 rfl rfl rfl (by decide) (by decide) (by omega), Option.bind_some,
      lay_is hn (or_lt32 hx (L _ _ _ _ (by decide))) 5 6 25 5 6 25 rfl rfl rfl (by decide) (by decide) (by omega), Option.bind_some,
      lay_is hn (or_lt32 (or_lt32 hx (L _ _ _ _ (by decide))) (L _ _ _ _ (by decide))) 11 1 7 11 1 7 rfl rfl rfl (by decide) (by decide) (by omega), Option.bind_some,
      lay_is hn (or_lt32 (or_lt32 (or_lt32 hx (L _ _ _ _ (by decide))) (L _ _ _ _ (by decide))) (L _ _ _ _ (by decide))) 12 1 31 12 1 31 rfl rfl rfl (by decide) (by decide) (by omega), Option.bind_some,
      T _ _ (or_lt32 (or_lt32 (or_lt32 (or_lt32 hx (L _ _ _ _ (by decide))) (L _ _ _ _ (by decide))) (L _ _ _ _ (by decide))) (L _ _ _ _ (by decide))), num7]
    simp only [Nat.or_assoc]
  by_cases c1 : op = 1
  · subst c1
    rw [if_pos rfl, lay_is hn hx 0 20 12 0 20 12 rfl rfl rfl (by decide) (by decide) (by omega), Option.bind_some, T _ _ (or_lt32 hx (L _ _ _ _ (by decide))), show formL 1 = 1 from rfl, num1]
  rw [if_neg c1]
  by_cases c28 : op = 28
  · subst c28
    rw [if_pos rfl, lay_is hn hx 1 10 21 1 10 21 rfl rfl rfl (by decide) (by decide) (by omega), Option.bind_some,
      lay_is hn (or_lt32 hx (L _ _ _ _ (by decide))) 11 1 20 11 1 20 rfl rfl rfl (by decide) (by decide) (by omega), Option.bind_some,
      lay_is hn (or_lt32 (or_lt32 hx (L _ _ _ _ (by decide))) (L _ _ _ _ (by decide))) 12 8 12 12 8 12 rfl rfl rfl (by decide) (by decide) (by omega), Option.bind_some,
      lay_is hn (or_lt32 (or_lt32 (or_lt32 hx (L _ _ _ _ (by decide))) (L _ _ _ _ (by decide))) (L _ _ _ _ (by decide))) 20 1 31 20 1 31 rfl rfl rfl (by decide) (by decide) (by omega), Option.bind_some,
      T _ _ (or_lt32 (or_lt32 (or_lt32 (or_lt32 hx (L _ _ _ _ (by decide))) (L _ _ _ _ (by decide))) (L _ _ _ _ (by decide))) (L _ _ _ _ (by decide))), show formL 28 = 8 from rfl, num8]
    simp only [Nat.or_assoc]
  rw [if_neg c28]
  by_cases c : op = 2
  · subst c; rw [if_pos rfl, show ((2 : Int) == 2) = true from rfl, j1t]; rfl
  rw [if_neg c]
  have q2 := c
  clear c
  by_cases c : op = 3
  · subst c; rw [if_pos rfl, show ((3 : Int) == 3) = true from rfl, j1t]; rfl
  rw [if_neg c]
  have q3 := c
  clear c
  by_cases c : op = 4
  · subst c; rw [if_pos rfl, show ((4 : Int) == 4) = true from rfl, j1t]; rfl
  rw [if_neg c]
  have q4 := c
  clear c
  by_cases c : op = 5
  · subst c; rw [if_pos rfl, show ((5 : Int) == 5) = true from rfl, j1t]; rfl
  rw [if_neg c]
  have q5 := c
  clear c
  by_cases c : op = 6
  · subst c; rw [if_pos rfl, show ((6 : Int) == 6) = true from rfl, j1t]; rfl
  rw [if_neg c]
  have q6 := c
  clear c
  by_cases c : op = 7
  · subst c; rw [if_pos rfl, show ((7 : Int) == 7) = true from rfl, j1t]; rfl
  rw [if_neg c]
  have q7 := c
  clear c
  by_cases c : op = 24
  · subst c; rw [if_pos rfl, show ((24 : Int) == 24) = true from rfl, j1t]; rfl
  rw [if_neg c]
  have q24 := c
  clear c
  by_cases c : op = 29
  · subst c; rw [show ((29 : Int) == 29) = true from rfl, j1t]; rfl
  rw [beq_eq_false_iff_ne.2 c]
  have q29 := c
  clear c
  simp only [brazierref19_Encode.j1, Bool.false_eq_true, if_false]
  by_cases c : op = 8
  · subst c; rw [if_pos rfl, show ((8 : Int) == 8) = true from rfl, j2t]; rfl
  rw [if_neg c]
  have q8 := c
  clear c
  by_cases c : op = 9
  · subst c; rw [if_pos rfl, show ((9 : Int) == 9) = true from rfl, j2t]; rfl
  rw [if_neg c]
  have q9 := c
  clear c
  by_cases c : op = 10
  · subst c; rw [show ((10 : Int) == 10) = true from rfl, j2t]; rfl
  rw [beq_eq_false_iff_ne.2 c]
  have q10 := c
  clear c
  simp only [brazierref19_Encode.j2, Bool.false_eq_true, if_false]
  by_cases c : op = 25
  · subst c
    rw [if_pos rfl, lay_is hn hx 0 5 7 0 5 7 rfl rfl rfl (by decide) (by decide) (by omega), Option.bind_some,
      lay_is hn (or_lt32 hx (L _ _ _ _ (by decide))) 5 7 25 5 7 25 rfl rfl rfl (by decide) (by decide) (by omega), Option.bind_some,
      T _ _ (or_lt32 (or_lt32 hx (L _ _ _ _ (by decide))) (L _ _ _ _ (by decide))), show formL 25 = 6 from rfl, num6]
    simp only [Nat.or_assoc]
  rw [if_neg c]
  have q25 := c
  clear c
  by_cases c : op = 26
  · subst c; rw [if_pos rfl, show ((26 : Int) == 26) = true from rfl, j3t]; rfl
  rw [if_neg c]
  have q26 := c
  clear c
  by_cases c : op = 27
  · subst c; rw [show ((27 : Int) == 27) = true from rfl, j3t]; rfl
  rw [beq_eq_false_iff_ne.2 c]
  have q27 := c
  clear c
  simp only [brazierref19_Encode.j3, Bool.false_eq_true, if_false]
  rw [T _ _ hx]
  have e : numN (formL op) (nat32 n) = 0 := by
    have : formL op = 4 ∨ formL op = 0 := by
      by_cases c : op ≤ 23
      · left; unfold formL; rw [if_neg c1, if_neg (by omega), if_neg (by omega), if_pos (by omega)]
      · right
        obtain rfl : op = 30 := by omega
        rfl
    rcases this with c | c <;> rw [c]
    · exact num4 _
    · exact num0 _
  rw [e, Nat.or_zero]
theorem refenc_is (kd op d a b n : Int) (s : ByteArray) (hn : -2147483648 ≤ n ∧ n ≤ 2147483647) (k : Nat) (hk : 150 ≤ k) : brazierref19_Encode.f k kd op d a b n s = some (wordOf kd op d a b n s, okL kd op d a b n s) := by
  obtain ⟨j, rfl⟩ : ∃ j, k = j + 5 + 1 := ⟨k - 6, by omega⟩
  have no : brazierref19_Encode.j0 (j + 5 + 1) true kd op d a b n s = some (0, false) := by simp only [brazierref19_Encode.j0, if_true]
  unfold brazierref19_Encode.f
  by_cases h2 : kd ≠ 2
  · rw [if_neg h2, no]
    have : okL kd op d a b n s = false := by unfold okL; rw [beq_eq_false_iff_ne.2 h2]; rfl
    unfold wordOf; rw [this]; rfl
  obtain rfl := Decidable.not_not.1 h2
  rw [if_pos rfl]
  by_cases hs : s.toList ≠ []
  · rw [if_neg hs, no]
    have : okL 2 op d a b n s = false := by unfold okL; rw [beq_eq_false_iff_ne.2 hs]; rfl
    unfold wordOf; rw [this]; rfl
  replace hs := Decidable.not_not.1 hs
  rw [if_pos hs, refmay_is _ _ _ _ _ _ hs _ (by omega), Option.bind_some]
  have eo : okL 2 op d a b n s = mayP op d a b n := by unfold okL; rw [hs]; rfl
  unfold wordOf
  rw [eo]
  cases hm : mayP op d a b n
  · rw [Bool.not_false, no]; rfl
  obtain ⟨o1, o2, h9, hd, ha, hb, hnum⟩ := mayP_bd hm
  have ld := fld_lt (a := 7) (fld5 ⟨hd.1, hd.2.1⟩) (by decide)
  have la := fld_lt (a := 15) (fld5 ⟨ha.1, ha.2.1⟩) (by decide)
  have lb := fld_lt (a := 20) (fld5 ⟨hb.1, hb.2.1⟩) (by decide)
  have lm := lm_base (op := op) (by omega) o2
  simp only [Bool.not_true, brazierref19_Encode.j0, Bool.false_eq_true, if_false, if_true, Option.bind_some, List.length_cons, List.length_nil]
  rw [if_pos (by omega), if_pos (by omega), if_pos (by omega), lm_is (by omega) o2, w64 (n := n) (by omega) (by omega)]
  rw [lay_is (n := d) (by omega) lm.1 0 5 7 0 5 7 rfl rfl rfl (by decide) (by decide) (by omega), Option.bind_some, lay0 ⟨hd.1, hd.2.1⟩,
    lay_is (n := a) (by omega) (or_lt32 lm.1 ld) 0 5 15 0 5 15 rfl rfl rfl (by decide) (by decide) (by omega), Option.bind_some, lay0 ⟨ha.1, ha.2.1⟩,
    lay_is (n := b) (by omega) (or_lt32 (or_lt32 lm.1 ld) la) 0 5 20 0 5 20 rfl rfl rfl (by decide) (by decide) (by omega), Option.bind_some, lay0 ⟨hb.1, hb.2.1⟩]
  rw [fields_is hn o1 o2 h9 (or_lt32 (or_lt32 (or_lt32 lm.1 ld) la) lb) j (by omega)]
  unfold wordL
  rw [← lm.2]
  refine congrArg (fun v : Nat => some ((v : Int), true)) ?_
  ac_rfl
end Go.Proofs.Ytpoofggcodiaiaa.Pure
