/- The reference's words: its bits, its fields, which lines may be, its Encode as printed; it answers the same word. -/
import Derived.Test.YtpoofggcodiaiaaCdD
import Derived.Test.YtpoofggcodiaiaaX10
import Derived.Test.YtpoofggcodiaiaaX8
import Derived.Test.YtpoofggcodiaiaaX9
set_option linter.unusedSimpArgs false
set_option linter.unusedVariables false
namespace Go.Proofs.Ytpoofggcodiaiaa.Pure
open Go.RowKit Go.Proofs.Ytpoofggcodiaiaa.X Go.Proofs.YtpoofggcodiaiaaW.PrintWords Go.Proofs.YtpoofggcodiaiaaW.PrintLast

theorem refreg_is (b : Bool) (r : Int) : brazierref17_reg.f b r = some (regOk b r) := by
  unfold brazierref17_reg.f regOk
  by_cases h : r = 0
  · rw [if_pos h]; simp [h]
  · rw [if_neg h]
    cases b
    · simp [h]
    · by_cases c : 1 ≤ r
      · simp [h, c]
      · simp [h, c]
theorem upO {α : Type} {f : Nat → Option α} (hm : ∀ k, LeO (f k) (f (k + 1))) {k0 : Nat} {r : α} (h : f k0 = some r) {k : Nat} (hk : k0 ≤ k) : f k = some r := by
  obtain ⟨j, rfl⟩ := Nat.exists_eq_add_of_le hk
  clear hk
  induction j with
  | zero => exact h
  | succ j ih => exact hm _ _ ih
/-- A form's letters. -/
def shapeL (f : Int) : ByteArray :=
  if f = 1 ∨ f = 8 then ⟨#[68, 78]⟩ else if f = 2 ∨ f = 3 then ⟨#[68, 65, 78]⟩ else if f = 4 then ⟨#[68, 65, 66]⟩ else if f = 5 then ⟨#[68, 80]⟩ else if f = 6 then ⟨#[66, 80]⟩ else if f = 7 then ⟨#[65, 66, 78]⟩ else ⟨#[]⟩
theorem shape_is {op : Int} (h1 : 1 ≤ op) (h2 : op ≤ 30) {k : Nat} (hk : 8 ≤ k) : brazierref17_Shape.f k op = some (shapeL (formL op)) :=
  upO (fun k => brazierref17_Shape.mono op k) (op31 (P := fun op => brazierref17_Shape.f 8 op = some (shapeL (formL op))) (by omega) h2 (by decide +kernel)) hk
theorem fm10 {f : Int} (h0 : 0 ≤ f) (h1 : f ≤ 9) {P : Int → Prop} (h : ∀ i : Fin 10, P ((i.1 : Nat) : Int)) : P f := by
  have := h ⟨f.toNat, by omega⟩
  rwa [show ((f.toNat : Nat) : Int) = f from by omega] at this
theorem formL_lo (op : Int) : 0 ≤ formL op ∧ formL op ≤ 9 := by
  unfold formL
  repeat' split
  all_goals omega
theorem has68 (op : Int) {k : Nat} (hk : 8 ≤ k) : brazierref17_has.f k (shapeL (formL op)) 68 = some (hasD (formL op)) :=
  upO (fun k => brazierref17_has.mono _ _ k) (fm10 (P := fun f => brazierref17_has.f 8 (shapeL f) 68 = some (hasD f)) (formL_lo op).1 (formL_lo op).2 (by decide +kernel)) hk
theorem has66 (op : Int) {k : Nat} (hk : 8 ≤ k) : brazierref17_has.f k (shapeL (formL op)) 66 = some (hasB (formL op)) :=
  upO (fun k => brazierref17_has.mono _ _ k) (fm10 (P := fun f => brazierref17_has.f 8 (shapeL f) 66 = some (hasB f)) (formL_lo op).1 (formL_lo op).2 (by decide +kernel)) hk
def hasA1 (f : Int) : Bool := f == 2 || f == 3 || f == 4 || f == 7
theorem has65 (op : Int) {k : Nat} (hk : 8 ≤ k) : brazierref17_has.f k (shapeL (formL op)) 65 = some (hasA1 (formL op)) :=
  upO (fun k => brazierref17_has.mono _ _ k) (fm10 (P := fun f => brazierref17_has.f 8 (shapeL f) 65 = some (hasA1 f)) (formL_lo op).1 (formL_lo op).2 (by decide +kernel)) hk
theorem has80 (op : Int) {k : Nat} (hk : 8 ≤ k) : brazierref17_has.f k (shapeL (formL op)) 80 = some (formL op == 5 || formL op == 6) :=
  upO (fun k => brazierref17_has.mono _ _ k) (fm10 (P := fun f => brazierref17_has.f 8 (shapeL f) 80 = some (f == 5 || f == 6)) (formL_lo op).1 (formL_lo op).2 (by decide +kernel)) hk
theorem hasA_of (op : Int) : hasA (formL op) = (hasA1 (formL op) || (formL op == 5 || formL op == 6)) :=
  fm10 (P := fun f => hasA f = (hasA1 f || (f == 5 || f == 6))) (formL_lo op).1 (formL_lo op).2 (by decide)
theorem tmod2 (n : Int) : (Int.tmod n 2 == 0) = (n % 2 == 0) := by
  by_cases h : 0 ≤ n
  · rw [tmod_nn h]
  · rw [tmod_neg', tmod_nn (by omega), Bool.eq_iff_iff]
    simp only [beq_iff_eq]
    omega
theorem refnum_is {op : Int} (h1 : 1 ≤ op) (h2 : op ≤ 30) (n : Int) (k : Nat) : brazierref17_num.f (k + 1 + 1 + 1) op n = some (numOk (formL op) n) := by
  have a12 : (if n ≥ -2048 then some (decide (n ≤ 2047)) else some false) = some (decide (-2048 ≤ n) && decide (n ≤ 2047)) := by
    by_cases c : -2048 ≤ n
    · rw [if_pos c]; simp [c]
    · rw [if_neg c]; simp [c]
  have j0t : brazierref17_num.j0 (k + 1 + 1 + 1) op n true = some (decide (-2048 ≤ n) && decide (n ≤ 2047)) := by simp only [brazierref17_num.j0, if_true]; exact a12
  unfold brazierref17_num.f
  by_cases c1 : op = 1
  · subst c1
    rw [if_pos rfl, show numOk (formL 1) n = (decide (0 ≤ n) && decide (n ≤ 1048575)) from rfl]
    by_cases c : 0 ≤ n
    · rw [if_pos c]; simp [c]
    · rw [if_neg c]; simp [c]
  rw [if_neg c1, if_pos (show op ≥ 2 from by omega)]
  by_cases c2 : op ≤ 7
  · rw [if_pos c2, j0t, show formL op = 2 from by unfold formL; rw [if_neg c1, if_pos (by omega)]]; rfl
  rw [if_neg c2]
  by_cases c3 : op = 24
  · subst c3; rw [if_pos rfl, j0t]; rfl
  rw [if_neg c3]
  by_cases c4 : op = 25
  · subst c4; rw [if_pos rfl, j0t]; rfl
  rw [if_neg c4]
  by_cases c5 : op = 29
  · subst c5; rw [show ((29 : Int) == 29) = true from rfl, j0t]; rfl
  rw [beq_eq_false_iff_ne.2 c5]
  simp only [brazierref17_num.j0, Bool.false_eq_true, if_false]
  rw [if_pos (show op ≥ 8 from by omega)]
  simp only [brazierref17_num.j1]
  by_cases c6 : op ≤ 10
  · rw [if_pos (decide_eq_true c6), show formL op = 3 from by unfold formL; rw [if_neg c1, if_neg (by omega), if_pos (by omega)], show numOk 3 n = (decide (0 ≤ n) && decide (n ≤ 31)) from rfl]
    by_cases c : 0 ≤ n
    · rw [if_pos c]; simp [c]
    · rw [if_neg c]; simp [c]
  rw [if_neg (by simp [c6])]
  have j2t : brazierref17_num.j2 (k + 1) op n true = some (decide (-4096 ≤ n) && decide (n ≤ 4095) && (n % 2 == 0)) := by
    simp only [brazierref17_num.j2, if_true]
    by_cases c : -4096 ≤ n
    · rw [if_pos c]
      by_cases e : n ≤ 4094
      · rw [if_pos e, tmod2]; simp [c]; omega
      · rw [if_neg e]
        congr 1
        rw [eq_comm, Bool.and_eq_false_iff, Bool.and_eq_false_iff]
        by_cases e2 : n ≤ 4095
        · right; rw [beq_eq_false_iff_ne]; omega
        · left; right; exact decide_eq_false e2
    · rw [if_neg c]; simp [c]
  by_cases c7 : op = 26
  · subst c7; rw [if_pos rfl, j2t]; rfl
  rw [if_neg c7]
  by_cases c8 : op = 27
  · subst c8; rw [show ((27 : Int) == 27) = true from rfl, j2t]; rfl
  rw [beq_eq_false_iff_ne.2 c8]
  simp only [brazierref17_num.j2, Bool.false_eq_true, if_false]
  by_cases c9 : op = 28
  · subst c9
    rw [if_pos rfl, show numOk (formL 28) n = (decide (-1048576 ≤ n) && decide (n ≤ 1048575) && (n % 2 == 0)) from rfl]
    by_cases c : -1048576 ≤ n
    · rw [if_pos c]
      by_cases e : n ≤ 1048574
      · rw [if_pos e, tmod2]; simp [c]; omega
      · rw [if_neg e]
        congr 1
        rw [eq_comm, Bool.and_eq_false_iff, Bool.and_eq_false_iff]
        by_cases e2 : n ≤ 1048575
        · right; rw [beq_eq_false_iff_ne]; omega
        · left; right; exact decide_eq_false e2
    · rw [if_neg c]; simp [c]
  rw [if_neg c9]
  have e : formL op = 4 ∨ formL op = 0 := by
    by_cases c : op ≤ 23
    · left; unfold formL; rw [if_neg c1, if_neg (by omega), if_neg (by omega), if_pos (by omega)]
    · right
      obtain rfl : op = 30 := by omega
      rfl
  rcases e with e | e <;> rw [e] <;> rfl
theorem refmay_is (op d a b n : Int) (s : ByteArray) (hs : s.toList = []) (k : Nat) (hk : 12 ≤ k) : brazierref17_MayLine.f k 2 op d a b n s = some (mayP op d a b n) := by
  obtain ⟨j, rfl⟩ : ∃ j, k = j + 1 + 1 + 1 := ⟨k - 3, by omega⟩
  have no : ∀ x, brazierref17_MayLine.j0 (j + 1 + 1 + 1) x true 2 op d a b n s = some false := by intro x; simp only [brazierref17_MayLine.j0, if_true]
  unfold brazierref17_MayLine.f
  rw [if_neg (by decide)]
  by_cases c1 : op < 1
  · have e9 : formL op = 9 := by
      apply Decidable.byContradiction; intro c; have := formL_bd c; omega
    have em : mayP op d a b n = false := by unfold mayP; rw [e9]; rfl
    obtain ⟨sh, hsh⟩ : ∃ sh, brazierref17_Shape.f (j + 1 + 1 + 1) op = some sh := by
      refine ⟨⟨#[]⟩, upO (fun k => brazierref17_Shape.mono op k) (k0 := 5) ?_ (by omega)⟩
      unfold brazierref17_Shape.f
      rw [if_neg (by omega), beq_eq_false_iff_ne.2 (by omega)]
      simp only [brazierref17_Shape.j0, Bool.false_eq_true, if_false]
      rw [if_neg (by omega)]
      simp only [brazierref17_Shape.j1, Bool.false_eq_true, if_false]
      rw [if_neg (by omega)]
      simp only [brazierref17_Shape.j2, Bool.false_eq_true, if_false]
      rw [if_neg (by omega), beq_eq_false_iff_ne.2 (by omega)]
      simp only [brazierref17_Shape.j3, Bool.false_eq_true, if_false]
      rw [if_neg (by omega), if_neg (by omega), if_neg (by omega)]
    rw [hsh, Option.bind_some, if_pos rfl, if_pos c1, no, em]
  by_cases c2 : op > 30
  · have e9 : formL op = 9 := by
      apply Decidable.byContradiction; intro c; have := formL_bd c; omega
    have em : mayP op d a b n = false := by unfold mayP; rw [e9]; rfl
    obtain ⟨sh, hsh⟩ : ∃ sh, brazierref17_Shape.f (j + 1 + 1 + 1) op = some sh := by
      refine ⟨⟨#[]⟩, upO (fun k => brazierref17_Shape.mono op k) (k0 := 5) ?_ (by omega)⟩
      unfold brazierref17_Shape.f
      rw [if_neg (by omega), beq_eq_false_iff_ne.2 (by omega)]
      simp only [brazierref17_Shape.j0, Bool.false_eq_true, if_false]
      rw [if_pos (by omega), decide_eq_false (by omega)]
      simp only [brazierref17_Shape.j1, Bool.false_eq_true, if_false]
      rw [if_pos (by omega), decide_eq_false (by omega)]
      simp only [brazierref17_Shape.j2, Bool.false_eq_true, if_false]
      rw [if_neg (by omega), beq_eq_false_iff_ne.2 (by omega)]
      simp only [brazierref17_Shape.j3, Bool.false_eq_true, if_false]
      rw [if_neg (by omega), if_neg (by omega), if_neg (by omega)]
    rw [hsh, Option.bind_some, if_pos rfl, if_neg c1, if_pos c2, no, em]
  have o1 : 1 ≤ op := by omega
  have o2 : op ≤ 30 := by omega
  have h9 : formL op ≠ 9 := op31 (P := fun op => 1 ≤ op → formL op ≠ 9) (by omega) o2 (by decide) o1
  have e9 : (formL op != 9) = true := by simp [h9]
  rw [shape_is o1 o2 (by omega), Option.bind_some, if_pos rfl, if_neg c1, if_neg c2, refnum_is o1 o2, Option.bind_some]
  unfold mayP
  rw [e9]
  cases hN : numOk (formL op) n
  · rw [Bool.not_false, no]; simp
  have no1 : brazierref17_MayLine.j1 (j + 1 + 1) true 2 op d a b n s = some false := by simp only [brazierref17_MayLine.j1, if_true]
  have yes1 : brazierref17_MayLine.j1 (j + 1 + 1) false 2 op d a b n s = some true := by simp only [brazierref17_MayLine.j1, Bool.false_eq_true, if_false, hs, if_true]
  simp only [brazierref17_MayLine.j0, Bool.not_true, Bool.false_eq_true, if_false]
  rw [has68 op (by omega), has65 op (by omega), has66 op (by omega), has80 op (by omega)]
  simp only [Option.bind_some, refreg_is, hasA_of op]
  cases hD : regOk (hasD (formL op)) d
  · simp [no1]
  cases hA : hasA1 (formL op)
  · cases hA2 : regOk (formL op == 5 || formL op == 6) a
    · simp [no1, hA2]
    · cases hB : regOk (hasB (formL op)) b
      · simp [no1, hA2]
      · simp [yes1, hA2]
  · cases hA2 : regOk true a
    · simp [no1, hA2]
    · cases hB : regOk (hasB (formL op)) b
      · simp [no1, hA2]
      · simp [yes1, hA2]
end Go.Proofs.Ytpoofggcodiaiaa.Pure
