/- Decode as printed: of a line's word it answers the line; what it answers has the word; else nothing. -/
import Derived.Test.YtpoofggcodiaiaaCdD
import Derived.Test.YtpoofggcodiaiaaX16
import Derived.Test.YtpoofggcodiaiaaX15
set_option linter.unusedSimpArgs false
set_option linter.unusedVariables false
namespace Go.Proofs.Ytpoofggcodiaiaa.Pure
open Go.RowKit Go.Proofs.Ytpoofggcodiaiaa.X Go.Proofs.YtpoofggcodiaiaaW.PrintWords Go.Proofs.YtpoofggcodiaiaaW.PrintLast

theorem upD {α : Type} {f : Nat → Option α} (hm : ∀ k, LeO (f k) (f (k + 1))) {k0 : Nat} {r : α} (h : f k0 = some r) {k : Nat} (hk : k0 ≤ k) : f k = some r := by
  obtain ⟨j, rfl⟩ := Nat.exists_eq_add_of_le hk
  clear hk
  induction j with
  | zero => exact h
  | succ j ih => exact hm _ _ ih
theorem regs_is {op : Int} (h1 : 0 ≤ op) (h2 : op ≤ 30) {k : Nat} (hk : 6 ≤ k) : code_regs.f k op = some (hasD (formL op), hasA (formL op), hasB (formL op)) :=
  upD (fun k => code_regs.mono op k) (op31 (P := fun op => code_regs.f 6 op = some (hasD (formL op), hasA (formL op), hasB (formL op))) h1 h2 (by decide +kernel)) hk
theorem reg_is (had : Bool) {w : Nat} (hw : w < 4294967296) (a : Nat) (a' : Int) (ha : a' = (a : Int)) (h : a < 32) : code_reg.f had (w : Int) a' = some (regN had w a) := by
  unfold code_reg.f regN
  cases had
  · simp
  · simp only [if_true]
    rw [field_is hw a 5 0 a' 5 0 ha rfl rfl h (by decide) (by decide), Option.bind_some]
    have := cut_lt w a 5
    have e : fld (cut w a 5) 0 = cut w a 5 := Nat.mul_one _
    rw [e, w64 (by omega) (by omega)]
theorem signed_is (m : Nat) (m' : Int) (hm : m' = (m : Int)) (h1 : m = 12 ∨ m = 13 ∨ m = 21) {x : Nat} (hx : x < 2 ^ m) : code_signed.f (x : Int) m' = some (sgn x m) := by
  subst hm
  unfold code_signed.f
  rw [w64 (n := 32 - (m : Int)) (by omega) (by omega), if_pos (by omega)]
  congr 1
  unfold shr shl sgn
  rcases h1 with rfl | rfl | rfl
  · rw [IntKind.wrap_u32, show min ((32 : Int) - ((12 : Nat) : Int)).toNat IntKind.u32.bits = 20 from by decide, show min ((32 : Int) - ((12 : Nat) : Int)).toNat IntKind.i32.bits = 20 from by decide]
    unfold wrap32
    split <;> omega
  · rw [IntKind.wrap_u32, show min ((32 : Int) - ((13 : Nat) : Int)).toNat IntKind.u32.bits = 19 from by decide, show min ((32 : Int) - ((13 : Nat) : Int)).toNat IntKind.i32.bits = 19 from by decide]
    unfold wrap32
    split <;> omega
  · rw [IntKind.wrap_u32, show min ((32 : Int) - ((21 : Nat) : Int)).toNat IntKind.u32.bits = 11 from by decide, show min ((32 : Int) - ((21 : Nat) : Int)).toNat IntKind.i32.bits = 11 from by decide]
    unfold wrap32
    split <;> omega
theorem or_lt2 {x y m : Nat} (hx : x < 2 ^ m) (hy : y < 2 ^ m) : x ||| y < 2 ^ m := Nat.or_lt_two_pow hx hy
theorem fld_lt2 {x a m t : Nat} (hx : x < 2 ^ m) (h : a + m ≤ t) : fld x a < 2 ^ t := by
  unfold fld
  calc x * 2 ^ a < 2 ^ m * 2 ^ a := Nat.mul_lt_mul_of_pos_right hx (Nat.two_pow_pos _)
    _ = 2 ^ (m + a) := (Nat.pow_add ..).symm
    _ ≤ 2 ^ t := Nat.pow_le_pow_right (by decide) (by omega)
theorem back_is {op : Int} (h1 : 0 ≤ op) (h2 : op ≤ 30) {w : Nat} (hw : w < 4294967296) (k : Nat) : code_back.f (k + 1 + 1) op (w : Int) = some (backN (formL op) w) := by
  have s12 : code_signed.f ((w : Int) / 1048576) 12 = some (sgn (cut w 20 12) 12) := by
    have e : (w : Int) / 1048576 = ((cut w 20 12 : Nat) : Int) := by unfold cut; omega
    rw [e]
    exact signed_is 12 12 rfl (by decide) (cut_lt ..)
  have L : ∀ (N f m a : Nat), m + a ≤ 32 → fld (cut N f m) a < 4294967296 := fun N f m a h => fld_lt (cut_n ..) (by omega)
  have f7 : code_back.j0 (k + 1 + 1) op (w : Int) true = some (backN 7 w) := by
    simp only [code_back.j0, if_true]
    rw [field_is hw 8 4 1 8 4 1 rfl rfl rfl (by decide) (by decide) (by decide), Option.bind_some, field_is hw 25 6 5 25 6 5 rfl rfl rfl (by decide) (by decide) (by decide), Option.bind_some,
      field_is hw 7 1 11 7 1 11 rfl rfl rfl (by decide) (by decide) (by decide), Option.bind_some, field_is hw 31 1 12 31 1 12 rfl rfl rfl (by decide) (by decide) (by decide), Option.bind_some,
      or4 (L _ _ _ _ (by decide)) (L _ _ _ _ (by decide)) (L _ _ _ _ (by decide)) (L _ _ _ _ (by decide)),
      signed_is 13 13 rfl (by decide) (or_lt2 (or_lt2 (or_lt2 (fld_lt2 (cut_n ..) (by decide)) (fld_lt2 (cut_n ..) (by decide))) (fld_lt2 (cut_n ..) (by decide))) (fld_lt2 (cut_n ..) (by decide))), Option.bind_some]
    unfold backN
    rw [if_neg (by decide), if_neg (by decide), if_neg (by decide), if_neg (by decide), if_pos (by decide)]
  unfold code_back.f
  by_cases c1 : op = 1
  · subst c1
    rw [if_pos rfl]
    have e : formL 1 = 1 := rfl
    rw [e]
    unfold backN
    rw [if_pos rfl]
    congr 1
    unfold cut wrap32
    omega
  rw [if_neg c1]
  by_cases c2 : op = 25
  · subst c2
    rw [if_pos rfl, field_is hw 7 5 0 7 5 0 rfl rfl rfl (by decide) (by decide) (by decide), Option.bind_some, field_is hw 25 7 5 25 7 5 rfl rfl rfl (by decide) (by decide) (by decide), Option.bind_some,
      or_u32 (L _ _ _ _ (by decide)) (L _ _ _ _ (by decide)), signed_is 12 12 rfl (by decide) (or_lt2 (fld_lt2 (cut_n ..) (by decide)) (fld_lt2 (cut_n ..) (by decide))), Option.bind_some]
    have e : formL 25 = 6 := rfl
    rw [e]
    unfold backN
    rw [if_neg (by decide), if_neg (by decide), if_neg (by decide), if_pos (by decide)]
  rw [if_neg c2]
  by_cases c3 : op = 26
  · subst c3; rw [if_pos rfl, f7]; rfl
  rw [if_neg c3]
  by_cases c4 : op = 27
  · subst c4; rw [show ((27 : Int) == 27) = true from rfl, f7]; rfl
  rw [beq_eq_false_iff_ne.2 c4]
  simp only [code_back.j0, Bool.false_eq_true, if_false]
  by_cases c5 : op = 28
  · subst c5
    rw [if_pos rfl, field_is hw 21 10 1 21 10 1 rfl rfl rfl (by decide) (by decide) (by decide), Option.bind_some, field_is hw 20 1 11 20 1 11 rfl rfl rfl (by decide) (by decide) (by decide), Option.bind_some,
      field_is hw 12 8 12 12 8 12 rfl rfl rfl (by decide) (by decide) (by decide), Option.bind_some, field_is hw 31 1 20 31 1 20 rfl rfl rfl (by decide) (by decide) (by decide), Option.bind_some,
      or4 (L _ _ _ _ (by decide)) (L _ _ _ _ (by decide)) (L _ _ _ _ (by decide)) (L _ _ _ _ (by decide)),
      signed_is 21 21 rfl (by decide) (or_lt2 (or_lt2 (or_lt2 (fld_lt2 (cut_n ..) (by decide)) (fld_lt2 (cut_n ..) (by decide))) (fld_lt2 (cut_n ..) (by decide))) (fld_lt2 (cut_n ..) (by decide))), Option.bind_some]
    have e : formL 28 = 8 := rfl
    rw [e]
    unfold backN
    rw [if_neg (by decide), if_neg (by decide), if_neg (by decide), if_neg (by decide), if_neg (by decide), if_pos (by decide)]
  rw [if_neg c5]
  have j1f : code_back.j1 (k + 1) op (w : Int) false = (if 2 ≤ op ∧ op ≤ 7 ∨ op = 24 ∨ op = 29 then some (sgn (cut w 20 12) 12) else some 0) := by
    simp only [code_back.j1, Bool.false_eq_true, if_false, s12, Option.bind_some]
    by_cases a1 : op ≥ 2
    · rw [if_pos a1]
      by_cases a2 : op ≤ 7
      · rw [if_pos a2, if_pos (by omega)]
      · rw [if_neg a2]
        by_cases a3 : op = 24
        · rw [if_pos a3, if_pos (by omega)]
        · rw [if_neg a3]
          by_cases a4 : op = 29
          · rw [if_pos a4, if_pos (by omega)]
          · rw [if_neg a4, if_neg (by omega)]
    · rw [if_neg a1, if_neg (by omega), if_neg (by omega), if_neg (by omega)]
  have j1t : code_back.j1 (k + 1) op (w : Int) true = some ((cut w 20 5 : Nat) : Int) := by
    simp only [code_back.j1, if_true]
    rw [field_is hw 20 5 0 20 5 0 rfl rfl rfl (by decide) (by decide) (by decide), Option.bind_some]
    have := cut_lt w 20 5
    have e : fld (cut w 20 5) 0 = cut w 20 5 := Nat.mul_one _
    rw [e]
    congr 1
    exact w32 (by omega) (by omega)
  by_cases c6 : 8 ≤ op ∧ op ≤ 10
  · rw [if_pos (by omega), decide_eq_true c6.2, j1t]
    have e : formL op = 3 := by unfold formL; rw [if_neg c1, if_neg (by omega), if_pos c6]
    rw [e]
    unfold backN
    rw [if_neg (by decide), if_neg (by decide), if_pos (by decide)]
  have e8 : (if op ≥ 8 then code_back.j1 (k + 1) op (w : Int) (decide (op ≤ 10)) else code_back.j1 (k + 1) op (w : Int) false) = code_back.j1 (k + 1) op (w : Int) false := by
    by_cases c : op ≥ 8
    · rw [if_pos c, decide_eq_false (by omega)]
    · rw [if_neg c]
  rw [e8, j1f]
  by_cases c7 : 2 ≤ op ∧ op ≤ 7 ∨ op = 24 ∨ op = 29
  · rw [if_pos c7]
    have e : formL op = 2 ∨ formL op = 5 :=
      op31 (P := fun op => (2 ≤ op ∧ op ≤ 7 ∨ op = 24 ∨ op = 29) → formL op = 2 ∨ formL op = 5) h1 h2 (by decide) c7
    unfold backN
    rcases e with e | e <;> rw [e, if_neg (by decide), if_pos (by decide)]
  · rw [if_neg c7]
    have e : formL op = 0 ∨ formL op = 4 ∨ formL op = 9 :=
      op31 (P := fun op => ¬ op = 1 → ¬ op = 25 → ¬ op = 26 → ¬ op = 27 → ¬ op = 28 → ¬ (8 ≤ op ∧ op ≤ 10) → ¬ (2 ≤ op ∧ op ≤ 7 ∨ op = 24 ∨ op = 29) → formL op = 0 ∨ formL op = 4 ∨ formL op = 9) h1 h2 (by decide) c1 c2 c3 c4 c5 c6 c7
    unfold backN
    rcases e with e | e | e <;> rw [e, if_neg (by decide), if_neg (by decide), if_neg (by decide), if_neg (by decide), if_neg (by decide), if_neg (by decide)]
/-- The line that Decode tries at an op. -/
def tryD (op : Int) (w : Nat) : Int × Int × Int × Int := (regN (hasD (formL op)) w 7, regN (hasA (formL op)) w 15, regN (hasB (formL op)) w 20, backN (formL op) w)
theorem sgn_bd {x m : Nat} (h1 : 1 ≤ m) (hm : m ≤ 30) (hx : x < 2 ^ m) : -2147483648 ≤ sgn x m ∧ sgn x m ≤ 2147483647 := by
  have h2 : 2 ^ m ≤ 2 ^ 30 := Nat.pow_le_pow_right (by decide) hm
  unfold sgn
  have e : ((2 : Int) ^ m) = ((2 ^ m : Nat) : Int) := by push_cast; rfl
  rw [e]
  have h3 : (2 : Nat) ^ 30 = 1073741824 := by decide
  rw [h3] at h2
  generalize 2 ^ m = p at *
  split <;> omega
theorem back_bd (f : Int) (w : Nat) : -2147483648 ≤ backN f w ∧ backN f w ≤ 2147483647 := by
  unfold backN
  split
  · have := cut_lt w 12 20; omega
  split
  · exact sgn_bd (by decide) (by decide) (cut_lt ..)
  split
  · have := cut_lt w 20 5; omega
  split
  · exact sgn_bd (by decide) (by decide) (or_lt2 (fld_lt2 (cut_n ..) (by decide)) (fld_lt2 (cut_n ..) (by decide)))
  split
  · exact sgn_bd (by decide) (by decide) (or_lt2 (or_lt2 (or_lt2 (fld_lt2 (cut_n ..) (by decide)) (fld_lt2 (cut_n ..) (by decide))) (fld_lt2 (cut_n ..) (by decide))) (fld_lt2 (cut_n ..) (by decide)))
  split
  · exact sgn_bd (by decide) (by decide) (or_lt2 (or_lt2 (or_lt2 (fld_lt2 (cut_n ..) (by decide)) (fld_lt2 (cut_n ..) (by decide))) (fld_lt2 (cut_n ..) (by decide))) (fld_lt2 (cut_n ..) (by decide)))
  · decide
/-- Does the line that is tried at an op have the word? -/
def hitD (op : Int) (w : Nat) : Prop := mayP op (tryD op w).1 (tryD op w).2.1 (tryD op w).2.2.1 (tryD op w).2.2.2 = true ∧ wordL op (tryD op w).1 (tryD op w).2.1 (tryD op w).2.2.1 (tryD op w).2.2.2 = w
theorem empty_list : (⟨#[]⟩ : ByteArray).toList = [] := by decide +kernel
theorem step_is (i : Nat) (hi : i ≤ 30) {w : Nat} (hw : w < 4294967296) (k : Nat) (hk : 20 ≤ k) :
    (hitD i w → code_Decode.l0 (k + 1) (w : Int) i = some (2, (i : Int), (tryD i w).1, (tryD i w).2.1, (tryD i w).2.2.1, (tryD i w).2.2.2, (⟨#[]⟩ : ByteArray), true)) ∧
    (¬ hitD i w → code_Decode.l0 (k + 1) (w : Int) i = code_Decode.l0 k (w : Int) ((i + 1 : Nat) : Int)) := by
  obtain ⟨j, rfl⟩ : ∃ j, k = j + 1 + 1 := ⟨k - 2, by omega⟩
  have e : code_Decode.l0 (j + 1 + 1 + 1) (w : Int) i = (if okL 2 (i : Int) (tryD i w).1 (tryD i w).2.1 (tryD i w).2.2.1 (tryD i w).2.2.2 (⟨#[]⟩ : ByteArray) = true then
      (if wordOf 2 (i : Int) (tryD i w).1 (tryD i w).2.1 (tryD i w).2.2.1 (tryD i w).2.2.2 (⟨#[]⟩ : ByteArray) = (w : Int) then some (2, (i : Int), (tryD i w).1, (tryD i w).2.1, (tryD i w).2.2.1, (tryD i w).2.2.2, (⟨#[]⟩ : ByteArray), true) else code_Decode.l0 (j + 1 + 1) (w : Int) ((i + 1 : Nat) : Int))
      else code_Decode.l0 (j + 1 + 1) (w : Int) ((i + 1 : Nat) : Int)) := by
    rw [code_Decode.l0, if_pos (by omega), regs_is (by omega) (by omega) (by omega), Option.bind_some, reg_is _ hw 7 7 rfl (by decide), Option.bind_some, reg_is _ hw 15 15 rfl (by decide), Option.bind_some, reg_is _ hw 20 20 rfl (by decide), Option.bind_some,
      back_is (by omega) (by omega) hw, Option.bind_some, encode_is _ _ _ _ _ _ _ (back_bd _ _) _ (by omega), Option.bind_some, w64 (n := (i : Int) + 1) (by omega) (by omega)]
    rfl
  have eo : okL 2 (i : Int) (tryD i w).1 (tryD i w).2.1 (tryD i w).2.2.1 (tryD i w).2.2.2 (⟨#[]⟩ : ByteArray) = mayP (i : Int) (tryD i w).1 (tryD i w).2.1 (tryD i w).2.2.1 (tryD i w).2.2.2 := by unfold okL; rw [empty_list]; rfl
  unfold wordOf at e
  rw [eo] at e
  rw [e]
  unfold hitD
  cases hm : mayP (i : Int) (tryD i w).1 (tryD i w).2.1 (tryD i w).2.2.1 (tryD i w).2.2.2
  · exact ⟨fun h => absurd h.1 (by decide), fun _ => rfl⟩
  · rw [if_pos rfl, if_pos rfl]
    constructor
    · intro h; rw [if_pos (by rw [h.2])]
    · intro h; rw [if_neg (fun c => h ⟨rfl, by omega⟩)]
theorem end_is (w : Int) (k : Nat) : code_Decode.l0 (k + 1) w 31 = some (0, 0, 0, 0, 0, 0, (⟨#[]⟩ : ByteArray), false) := by
  rw [code_Decode.l0, if_neg (by decide)]
/-- Decode: either nothing, or a line that has the word. -/
theorem decode_any {w : Nat} (hw : w < 4294967296) : ∀ (r i k : Nat), i + r = 31 → r + 40 ≤ k →
    (code_Decode.l0 k (w : Int) i = some (0, 0, 0, 0, 0, 0, (⟨#[]⟩ : ByteArray), false) ∧ ∀ m : Nat, i ≤ m → m ≤ 30 → ¬ hitD m w) ∨
    ∃ m : Nat, i ≤ m ∧ m ≤ 30 ∧ hitD m w ∧ code_Decode.l0 k (w : Int) i = some (2, (m : Int), (tryD m w).1, (tryD m w).2.1, (tryD m w).2.2.1, (tryD m w).2.2.2, (⟨#[]⟩ : ByteArray), true) := by
  intro r
  induction r with
  | zero =>
    intro i k hi hk
    obtain ⟨j, rfl⟩ : ∃ j, k = j + 1 := ⟨k - 1, by omega⟩
    obtain rfl : i = 31 := by omega
    exact Or.inl ⟨end_is _ _, fun m h1 h2 => by omega⟩
  | succ r ih =>
    intro i k hi hk
    obtain ⟨j, rfl⟩ : ∃ j, k = j + 1 := ⟨k - 1, by omega⟩
    have st := step_is i (by omega) hw j (by omega)
    by_cases c : hitD i w
    · exact Or.inr ⟨i, Nat.le_refl _, by omega, c, st.1 c⟩
    · rw [st.2 c]
      rcases ih (i + 1) j (by omega) (by omega) with ⟨h1, h2⟩ | ⟨m, h1, h2, h3, h4⟩
      · refine Or.inl ⟨h1, fun m a1 a2 => ?_⟩
        by_cases e : m = i
        · subst e; exact c
        · exact h2 m (by omega) a2
      · exact Or.inr ⟨m, by omega, h2, h3, h4⟩
/-- Of a line's word it answers the line. -/
theorem decode_word {op d a b n : Int} (h : mayP op d a b n = true) (k : Nat) (hk : 80 ≤ k) : code_Decode.f k ((wordL op d a b n : Nat) : Int) = some (2, op, d, a, b, n, (⟨#[]⟩ : ByteArray), true) := by
  have hw := word_lt h
  have hb := mayP_bd h
  have ht : tryD op (wordL op d a b n) = (d, a, b, n) := by
    unfold tryD
    rw [d_word h, a_word h, b_word h, n_word h]
  have hit : hitD op (wordL op d a b n) := by
    unfold hitD
    rw [ht]
    exact ⟨h, rfl⟩
  have eo : ((op.toNat : Nat) : Int) = op := by omega
  unfold code_Decode.f
  rcases decode_any hw 31 0 k (by omega) (by omega) with ⟨_, h2⟩ | ⟨m, _, h2, h3, h4⟩
  · exact absurd (eo.symm ▸ hit) (h2 op.toNat (by omega) (by omega))
  · have ap := word_apart h3.1 h h3.2
    have e1 : code_Decode.l0 k ((wordL op d a b n : Nat) : Int) ((0 : Nat) : Int) = _ := h4
    rw [show ((0 : Nat) : Int) = 0 from rfl] at e1
    rw [e1, ap.1, ht]
theorem decode_cases {w : Nat} (hw : w < 4294967296) (k : Nat) (hk : 80 ≤ k) :
    (code_Decode.f k (w : Int) = some (0, 0, 0, 0, 0, 0, (⟨#[]⟩ : ByteArray), false)) ∨
    ∃ op d a b n : Int, mayP op d a b n = true ∧ wordL op d a b n = w ∧ code_Decode.f k (w : Int) = some (2, op, d, a, b, n, (⟨#[]⟩ : ByteArray), true) := by
  unfold code_Decode.f
  rcases decode_any hw 31 0 k (by omega) (by omega) with ⟨h1, _⟩ | ⟨m, _, h2, h3, h4⟩
  · exact Or.inl h1
  · exact Or.inr ⟨m, _, _, _, _, h3.1, h3.2, h4⟩
end Go.Proofs.Ytpoofggcodiaiaa.Pure
