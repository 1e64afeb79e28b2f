/- The words of a machine's lines, as numbers: what a line's word is; its parts, read out of it again; no two lines have one word. No program. -/
import Derived.Test.YtpoofggcodiaiaaCdA
import Derived.Test.YtpoofggcodiaiaaLnA
set_option linter.unusedSimpArgs false
set_option linter.unusedVariables false
namespace Go.Proofs.Ytpoofggcodiaiaa.Pure
open Go.RowKit

def baseL : List Nat := [0, 55, 19, 8211, 12307, 16403, 24595, 28691, 4115, 20499, 1073762323, 51, 1073741875, 4147, 8243, 12339, 16435, 20531, 1073762355, 24627, 28723, 33554483, 33570867, 33579059, 8195, 8227, 99, 4195, 111, 103, 115]
/-- What is the same in all words of an op. -/
def baseN (op : Int) : Nat := baseL[op.toNat]?.getD 0
/-- A number's bits, as an op of a form has them. -/
def numN (f : Int) (N : Nat) : Nat :=
  if f = 1 then fld (cut N 0 20) 12 else if f = 2 ∨ f = 5 then fld (cut N 0 12) 20 else if f = 3 then fld (cut N 0 5) 20
  else if f = 6 then fld (cut N 0 5) 7 ||| fld (cut N 5 7) 25
  else if f = 7 then fld (cut N 1 4) 8 ||| fld (cut N 5 6) 25 ||| fld (cut N 11 1) 7 ||| fld (cut N 12 1) 31
  else if f = 8 then fld (cut N 1 10) 21 ||| fld (cut N 11 1) 20 ||| fld (cut N 12 8) 12 ||| fld (cut N 20 1) 31 else 0
/-- A line's word. -/
def wordL (op d a b n : Int) : Nat := baseN op ||| fld d.toNat 7 ||| fld a.toNat 15 ||| fld b.toNat 20 ||| numN (formL op) (nat32 n)
/-- A number, read back. -/
def backN (f : Int) (w : Nat) : Int :=
  if f = 1 then (cut w 12 20 : Nat) else if f = 2 ∨ f = 5 then sgn (cut w 20 12) 12 else if f = 3 then (cut w 20 5 : Nat)
  else if f = 6 then sgn (fld (cut w 7 5) 0 ||| fld (cut w 25 7) 5) 12
  else if f = 7 then sgn (fld (cut w 8 4) 1 ||| fld (cut w 25 6) 5 ||| fld (cut w 7 1) 11 ||| fld (cut w 31 1) 12) 13
  else if f = 8 then sgn (fld (cut w 21 10) 1 ||| fld (cut w 20 1) 11 ||| fld (cut w 12 8) 12 ||| fld (cut w 31 1) 20) 21 else 0
def regN (had : Bool) (w at_ : Nat) : Int := if had = true then (cut w at_ 5 : Nat) else 0

theorem op31 {op : Int} (h0 : 0 ≤ op) (h1 : op ≤ 30) {P : Int → Prop} (h : ∀ i : Fin 31, P ((i.1 : Nat) : Int)) : P op := by
  have := h ⟨op.toNat, by omega⟩
  rwa [show ((op.toNat : Nat) : Int) = op from by omega] at this
theorem formL_bd {op : Int} (h : formL op ≠ 9) : 1 ≤ op ∧ op ≤ 30 := by
  unfold formL at h
  refine ⟨?_, ?_⟩ <;> (apply Decidable.byContradiction; intro c; apply h; repeat rw [if_neg (by omega)])
theorem regOk_bd {had : Bool} {r : Int} (h : regOk had r = true) : 0 ≤ r ∧ r ≤ 31 ∧ (had = false → r = 0) := by
  unfold regOk at h
  cases had
  · simp at h; omega
  · simp at h; exact ⟨by omega, by omega, fun c => by cases c⟩
/-- Of a line that may be: its form, its registers, its number. -/
theorem mayP_bd {op d a b n : Int} (h : mayP op d a b n = true) : 1 ≤ op ∧ op ≤ 30 ∧ formL op ≠ 9 ∧ (0 ≤ d ∧ d ≤ 31 ∧ (hasD (formL op) = false → d = 0)) ∧ (0 ≤ a ∧ a ≤ 31 ∧ (hasA (formL op) = false → a = 0)) ∧ (0 ≤ b ∧ b ≤ 31 ∧ (hasB (formL op) = false → b = 0)) ∧ numOk (formL op) n = true := by
  unfold mayP at h
  simp only [Bool.and_eq_true] at h
  obtain ⟨⟨⟨⟨h1, h2⟩, h3⟩, h4⟩, h5⟩ := h
  have h1' : formL op ≠ 9 := by simpa using h1
  exact ⟨(formL_bd h1').1, (formL_bd h1').2, h1', regOk_bd h2, regOk_bd h3, regOk_bd h4, h5⟩
theorem numOk_bd {f n : Int} (h : numOk f n = true) : -1048576 ≤ n ∧ n ≤ 1048575 := by
  unfold numOk at h
  split at h
  · simp at h; omega
  split at h
  · simp at h; omega
  split at h
  · simp at h; omega
  split at h
  · simp at h; omega
  split at h
  · simp at h; omega
  · simp at h; omega
theorem form_cases {op : Int} (h : formL op ≠ 9) : formL op = 1 ∨ formL op = 2 ∨ formL op = 3 ∨ formL op = 4 ∨ formL op = 5 ∨ formL op = 6 ∨ formL op = 7 ∨ formL op = 8 ∨ formL op = 0 := by
  have hb := formL_bd h
  exact op31 (P := fun op => formL op ≠ 9 → formL op = 1 ∨ formL op = 2 ∨ formL op = 3 ∨ formL op = 4 ∨ formL op = 5 ∨ formL op = 6 ∨ formL op = 7 ∨ formL op = 8 ∨ formL op = 0) (by omega) hb.2 (by decide) h
/-- The constant's bits: none where an op has others. -/
theorem base_lo {op : Int} (h : formL op ≠ 9) : baseN op < 4294967296 ∧ cut (baseN op) 7 5 = 0 ∧ cut (baseN op) 15 5 = 0 ∧ cut (baseN op) 20 5 = 0 ∧ (formL op = 1 → cut (baseN op) 12 20 = 0) ∧ (formL op = 8 → cut (baseN op) 12 20 = 0) ∧ (formL op ≠ 3 → formL op ≠ 4 → cut (baseN op) 20 12 = 0) := by
  have hb := formL_bd h
  exact op31 (P := fun op => formL op ≠ 9 → baseN op < 4294967296 ∧ cut (baseN op) 7 5 = 0 ∧ cut (baseN op) 15 5 = 0 ∧ cut (baseN op) 20 5 = 0 ∧ (formL op = 1 → cut (baseN op) 12 20 = 0) ∧ (formL op = 8 → cut (baseN op) 12 20 = 0) ∧ (formL op ≠ 3 → formL op ≠ 4 → cut (baseN op) 20 12 = 0)) (by omega) hb.2 (by decide) h
/-- A constant's low bits, its middle ones and its high ones tell the op. -/
def lowOf (op : Int) : Nat := cut (baseN op) 0 7
def midOf (op : Int) : Nat := cut (baseN op) 12 3
def topOf (op : Int) : Nat := cut (baseN op) 25 7
theorem op_told {op op' : Int} (h1 : 1 ≤ op) (h2 : op ≤ 30) (h1' : 1 ≤ op') (h2' : op' ≤ 30) (hl : lowOf op = lowOf op') (hm : formL op ≠ 1 → formL op ≠ 8 → formL op' ≠ 1 → formL op' ≠ 8 → midOf op = midOf op')
    (ht : (formL op = 3 ∨ formL op = 4) → (formL op' = 3 ∨ formL op' = 4) → topOf op = topOf op') : op = op' := by
  have key : ∀ i j : Fin 31, 1 ≤ i.1 → 1 ≤ j.1 → lowOf (i.1 : Int) = lowOf (j.1 : Int) → (formL (i.1 : Int) ≠ 1 → formL (i.1 : Int) ≠ 8 → formL (j.1 : Int) ≠ 1 → formL (j.1 : Int) ≠ 8 → midOf (i.1 : Int) = midOf (j.1 : Int)) →
      ((formL (i.1 : Int) = 3 ∨ formL (i.1 : Int) = 4) → (formL (j.1 : Int) = 3 ∨ formL (j.1 : Int) = 4) → topOf (i.1 : Int) = topOf (j.1 : Int)) → (i.1 : Int) = (j.1 : Int) := by decide +kernel
  have e : ((op.toNat : Nat) : Int) = op := by omega
  have e' : ((op'.toNat : Nat) : Int) = op' := by omega
  have := key ⟨op.toNat, by omega⟩ ⟨op'.toNat, by omega⟩ (by show 1 ≤ op.toNat; omega) (by show 1 ≤ op'.toNat; omega)
  simp only [e, e'] at this
  exact this hl hm ht
theorem num0 (N : Nat) : numN 0 N = 0 := by unfold numN; rw [if_neg (by decide), if_neg (by decide), if_neg (by decide), if_neg (by decide), if_neg (by decide), if_neg (by decide)]
theorem num1 (N : Nat) : numN 1 N = fld (cut N 0 20) 12 := by unfold numN; rw [if_pos (by decide)]
theorem num2 (N : Nat) : numN 2 N = fld (cut N 0 12) 20 := by unfold numN; rw [if_neg (by decide), if_pos (by decide)]
theorem num3 (N : Nat) : numN 3 N = fld (cut N 0 5) 20 := by unfold numN; rw [if_neg (by decide), if_neg (by decide), if_pos (by decide)]
theorem num4 (N : Nat) : numN 4 N = 0 := by unfold numN; rw [if_neg (by decide), if_neg (by decide), if_neg (by decide), if_neg (by decide), if_neg (by decide), if_neg (by decide)]
theorem num5 (N : Nat) : numN 5 N = fld (cut N 0 12) 20 := by unfold numN; rw [if_neg (by decide), if_pos (by decide)]
theorem num6 (N : Nat) : numN 6 N = (fld (cut N 0 5) 7 ||| fld (cut N 5 7) 25) := by unfold numN; rw [if_neg (by decide), if_neg (by decide), if_neg (by decide), if_pos (by decide)]
theorem num7 (N : Nat) : numN 7 N = (fld (cut N 1 4) 8 ||| fld (cut N 5 6) 25 ||| fld (cut N 11 1) 7 ||| fld (cut N 12 1) 31) := by unfold numN; rw [if_neg (by decide), if_neg (by decide), if_neg (by decide), if_neg (by decide), if_pos (by decide)]
theorem num8 (N : Nat) : numN 8 N = (fld (cut N 1 10) 21 ||| fld (cut N 11 1) 20 ||| fld (cut N 12 8) 12 ||| fld (cut N 20 1) 31) := by unfold numN; rw [if_neg (by decide), if_neg (by decide), if_neg (by decide), if_neg (by decide), if_neg (by decide), if_pos (by decide)]
theorem fld5 {r : Int} (h : 0 ≤ r ∧ r ≤ 31) : r.toNat < 2 ^ 5 := by omega
theorem cut_n (N f m : Nat) : cut N f m < 2 ^ m := cut_lt ..
/-- A line's parts, read out of its word. -/
theorem word_lt {op d a b n : Int} (h : mayP op d a b n = true) : wordL op d a b n < 4294967296 := by
  obtain ⟨_, _, h9, hd, ha, hb, _⟩ := mayP_bd h
  have hN : numN (formL op) (nat32 n) < 4294967296 := by
    unfold numN
    repeat' split
    all_goals first
      | exact fld_lt (cut_n ..) (by decide)
      | exact or_lt32 (fld_lt (cut_n ..) (by decide)) (fld_lt (cut_n ..) (by decide))
      | exact or_lt32 (or_lt32 (or_lt32 (fld_lt (cut_n ..) (by decide)) (fld_lt (cut_n ..) (by decide))) (fld_lt (cut_n ..) (by decide))) (fld_lt (cut_n ..) (by decide))
      | decide
  exact or_lt32 (or_lt32 (or_lt32 (or_lt32 (base_lo h9).1 (fld_lt (fld5 ⟨hd.1, hd.2.1⟩) (by decide))) (fld_lt (fld5 ⟨ha.1, ha.2.1⟩) (by decide))) (fld_lt (fld5 ⟨hb.1, hb.2.1⟩) (by decide))) hN
theorem cut_word (op d a b n : Int) (f m : Nat) : cut (wordL op d a b n) f m = (cut (baseN op) f m ||| cut (fld d.toNat 7) f m ||| cut (fld a.toNat 15) f m ||| cut (fld b.toNat 20) f m ||| cut (numN (formL op) (nat32 n)) f m) := by
  unfold wordL
  rw [cut_or, cut_or, cut_or, cut_or]
theorem zz (x : Nat) : (x ||| 0) = x := Nat.or_zero x
theorem low_word (op d a b n : Int) : cut (wordL op d a b n) 0 7 = lowOf op := by
  have hN : cut (numN (formL op) (nat32 n)) 0 7 = 0 := by
    unfold numN
    repeat' split
    all_goals ((try simp only [cut_or, cut_zero]); repeat (rw [cut_lo (by decide)]); (try simp only [Nat.or_zero]))
  rw [cut_word, hN, cut_lo (by decide), cut_lo (by decide), cut_lo (by decide)]
  simp only [Nat.or_zero]; rfl
theorem mid_word {op d a b n : Int} (h : mayP op d a b n = true) (h1 : formL op ≠ 1) (h8 : formL op ≠ 8) : cut (wordL op d a b n) 12 3 = midOf op := by
  obtain ⟨_, _, h9, hd, ha, hb, _⟩ := mayP_bd h
  have hN : cut (numN (formL op) (nat32 n)) 12 3 = 0 := by
    unfold numN
    rw [if_neg h1]
    repeat' split
    all_goals first
      | contradiction
      | ((try simp only [cut_or, cut_zero]); repeat (first | rw [cut_lo (by decide)] | rw [cut_hi (cut_n ..) (by decide)]); (try simp only [Nat.or_zero]))
  rw [cut_word, hN, cut_hi (fld5 ⟨hd.1, hd.2.1⟩) (by decide), cut_lo (by decide), cut_lo (by decide)]
  simp only [Nat.or_zero]; rfl
theorem top_word {op d a b n : Int} (h : mayP op d a b n = true) (h3 : formL op = 3 ∨ formL op = 4) : cut (wordL op d a b n) 25 7 = topOf op := by
  obtain ⟨_, _, h9, hd, ha, hb, _⟩ := mayP_bd h
  have hN : cut (numN (formL op) (nat32 n)) 25 7 = 0 := by
    rcases h3 with c | c
    · rw [c]; exact cut_hi (cut_n ..) (by decide)
    · rw [c]; exact cut_zero ..
  rw [cut_word, hN, cut_hi (fld5 ⟨hd.1, hd.2.1⟩) (by decide), cut_hi (fld5 ⟨ha.1, ha.2.1⟩) (by decide), cut_hi (fld5 ⟨hb.1, hb.2.1⟩) (by decide)]
  simp only [Nat.or_zero]; rfl
theorem d_word {op d a b n : Int} (h : mayP op d a b n = true) : regN (hasD (formL op)) (wordL op d a b n) 7 = d := by
  obtain ⟨_, _, h9, hd, ha, hb, _⟩ := mayP_bd h
  unfold regN
  cases hh : hasD (formL op)
  · exact (hd.2.2 hh).symm
  · have hN : cut (numN (formL op) (nat32 n)) 7 5 = 0 := by
      rcases form_cases h9 with c | c | c | c | c | c | c | c | c <;> rw [c] at hh ⊢ <;> first
        | (exfalso; revert hh; decide)
        | (simp only [num0, num1, num2, num3, num4, num5, num6, num7, num8]; first | exact cut_zero .. | exact cut_lo (by decide) | ((try simp only [cut_or]); repeat (rw [cut_lo (by decide)]); (try simp only [Nat.or_zero])))
    rw [if_pos rfl, cut_word, hN, (base_lo h9).2.1, cut_at (fld5 ⟨hd.1, hd.2.1⟩), cut_lo (by decide), cut_lo (by decide)]
    simp only [Nat.or_zero, Nat.zero_or]; omega
theorem a_word {op d a b n : Int} (h : mayP op d a b n = true) : regN (hasA (formL op)) (wordL op d a b n) 15 = a := by
  obtain ⟨_, _, h9, hd, ha, hb, _⟩ := mayP_bd h
  unfold regN
  cases hh : hasA (formL op)
  · exact (ha.2.2 hh).symm
  · have hN : cut (numN (formL op) (nat32 n)) 15 5 = 0 := by
      rcases form_cases h9 with c | c | c | c | c | c | c | c | c <;> rw [c] at hh ⊢ <;> first
        | (exfalso; revert hh; decide)
        | (simp only [num0, num1, num2, num3, num4, num5, num6, num7, num8]; first | exact cut_zero .. | exact cut_lo (by decide) | ((try simp only [cut_or]); repeat (first | rw [cut_lo (by decide)] | rw [cut_hi (cut_n ..) (by decide)]); (try simp only [Nat.or_zero])))
    rw [if_pos rfl, cut_word, hN, (base_lo h9).2.2.1, cut_hi (fld5 ⟨hd.1, hd.2.1⟩) (by decide), cut_at (fld5 ⟨ha.1, ha.2.1⟩), cut_lo (by decide)]
    simp only [Nat.or_zero, Nat.zero_or]; omega
theorem b_word {op d a b n : Int} (h : mayP op d a b n = true) : regN (hasB (formL op)) (wordL op d a b n) 20 = b := by
  obtain ⟨_, _, h9, hd, ha, hb, _⟩ := mayP_bd h
  unfold regN
  cases hh : hasB (formL op)
  · exact (hb.2.2 hh).symm
  · have hN : cut (numN (formL op) (nat32 n)) 20 5 = 0 := by
      rcases form_cases h9 with c | c | c | c | c | c | c | c | c <;> rw [c] at hh ⊢ <;> first
        | (exfalso; revert hh; decide)
        | (simp only [num0, num1, num2, num3, num4, num5, num6, num7, num8]; first | exact cut_zero .. | exact cut_lo (by decide) | ((try simp only [cut_or]); repeat (first | rw [cut_lo (by decide)] | rw [cut_hi (cut_n ..) (by decide)]); (try simp only [Nat.or_zero])))
    rw [if_pos rfl, cut_word, hN, (base_lo h9).2.2.2.1, cut_hi (fld5 ⟨hd.1, hd.2.1⟩) (by decide), cut_hi (fld5 ⟨ha.1, ha.2.1⟩) (by decide), cut_at (fld5 ⟨hb.1, hb.2.1⟩)]
    simp only [Nat.or_zero, Nat.zero_or]; omega
end Go.Proofs.Ytpoofggcodiaiaa.Pure
