/- The reference's Parse as printed: it takes just the words' texts. -/
import Derived.Test.YtfpaigfknohhfaaWdE
namespace Go.Proofs.Ytfpaigfknohhfaa.Pure
open Go.RowKit Go.Proofs.Ytfpaigfknohhfaa.X Go.Proofs.YtfpaigfknohhfaaW.PrintWords Go.Proofs.YtfpaigfknohhfaaW.PrintLast

theorem bs_tail (s : ByteArray) : bs (s.extract 1 s.size) = (bs s).drop 1 := by
  rw [bs_extract]
  apply List.take_of_length_le
  rw [List.length_drop, bs_len]
  omega
/-- What the loop over the digits ends in. -/
def refEnd (below : Bool) (v : Int) : Int × Bool :=
  if below = true then (if -v > 2147483647 then (0, false) else if -v < -2147483648 then (0, false) else (-v, true))
  else (if v > 2147483647 then (0, false) else if v < -2147483648 then (0, false) else (v, true))
theorem ref_end (below : Bool) (t : ByteArray) (v : Int) (k : Nat) (h0 : 0 ≤ v) (h1 : v ≤ 1000000000000) (i : Int) (hi : (t.size : Int) ≤ i) : brazierref01_Parse.l0 (k + 1) below t v i = some (refEnd below v) := by
  simp only [brazierref01_Parse.l0]
  rw [if_neg (by omega), w64 (by omega) (by omega)]
  unfold refEnd
  cases below
  · simp only [Bool.false_eq_true, if_false]
    split
    · rfl
    · split
      · rfl
      · rw [w32 (by omega) (by omega)]
  · simp only [if_true]
    split
    · rfl
    · split
      · rfl
      · rw [w32 (by omega) (by omega)]
theorem ref_run (below : Bool) (t : ByteArray) (rest : List Int) : ∀ (pre : List Int) (acc : Int) (k : Nat), bs t = pre ++ rest → 0 ≤ acc → acc < 10 ^ pre.length → (pre ++ rest).length ≤ 10 → rest.length < k →
    brazierref01_Parse.l0 k below t acc (pre.length : Int) = some (if Digits rest then refEnd below (valF acc rest) else (0, false)) := by
  induction rest with
  | nil =>
    intro pre acc k hs h0 h1 hl hk
    obtain ⟨k, rfl⟩ : ∃ j, k = j + 1 := ⟨k - 1, by omega⟩
    have hsz := size_of hs
    simp only [List.append_nil] at hsz hl
    have hp : (10 : Int) ^ pre.length ≤ 10 ^ 10 := by
      have h2 : (10 : Nat) ^ pre.length ≤ 10 ^ 10 := Nat.pow_le_pow_right (by decide) hl
      have h3 : ((10 ^ pre.length : Nat) : Int) ≤ ((10 ^ 10 : Nat) : Int) := by exact_mod_cast h2
      simpa using h3
    have e : (10 : Int) ^ 10 = 10000000000 := by decide
    rw [ref_end below t acc k h0 (by omega) _ (by omega), if_pos (show Digits [] from fun x hx => by cases hx)]
    rfl
  | cons c rest ih =>
    intro pre acc k hs h0 h1 hl hk
    obtain ⟨k, rfl⟩ : ∃ j, k = j + 1 := ⟨k - 1, by omega⟩
    have hsz := size_of hs
    simp only [List.length_append, List.length_cons] at hsz hl
    simp only [List.length_cons] at hk
    have hc8 := bs_8 t c (by rw [hs]; simp)
    have hp : (10 : Int) ^ pre.length ≤ 10 ^ 10 := by
      have h2 : (10 : Nat) ^ pre.length ≤ 10 ^ 10 := Nat.pow_le_pow_right (by decide) (by omega)
      have h3 : ((10 ^ pre.length : Nat) : Int) ≤ ((10 ^ 10 : Nat) : Int) := by exact_mod_cast h2
      simpa using h3
    have e : (10 : Int) ^ 10 = 10000000000 := by decide
    simp only [brazierref01_Parse.l0, bt_at' t pre c rest hs]
    rw [if_pos (by omega), if_pos (by omega)]
    by_cases hlo : c < 48
    · rw [if_pos hlo, if_neg (fun h => by have := h c (List.mem_cons_self ..); omega)]
    · by_cases hhi : c > 57
      · rw [if_neg hlo, if_pos hhi, if_neg (fun h => by have := h c (List.mem_cons_self ..); omega)]
      · rw [if_neg hlo, if_neg hhi, w64 (n := acc * 10) (by omega) (by omega), w64 (n := c) (by omega) (by omega), w64 (n := acc * 10 + c) (by omega) (by omega), w64 (n := acc * 10 + c - 48) (by omega) (by omega), w64 (n := (pre.length : Int) + 1) (by omega) (by omega)]
        have h := ih (pre ++ [c]) (acc * 10 + c - 48) k (by rw [hs]; simp) (by omega) (by rw [List.length_append, List.length_singleton, Int.pow_succ]; omega) (by simp; omega) (by omega)
        rw [show ((pre ++ [c]).length : Int) = (pre.length : Int) + 1 from by simp] at h
        rw [h]
        have hd : Digits rest ↔ Digits (c :: rest) := by
          constructor
          · intro h x hx
            rcases List.mem_cons.1 hx with rfl | hx
            · omega
            · exact h x hx
          · intro h x hx; exact h x (List.mem_cons_of_mem _ hx)
        by_cases hr : Digits rest
        · rw [if_pos hr, if_pos (hd.1 hr)]
          simp only [valF]
          rw [show acc * 10 + c - 48 = 10 * acc + (c - 48) from by omega]
        · rw [if_neg hr, if_neg (fun h => hr (hd.2 h))]

/-- The answer of the reference: which texts are words'. -/
def RefTells (s : ByteArray) (r : Int × Bool) : Prop := (∃ n, (-2147483648 ≤ n ∧ n ≤ 2147483647) ∧ r = (n, true) ∧ bs s = decS n) ∨ (r = (0, false) ∧ ∀ n, (-2147483648 ≤ n ∧ n ≤ 2147483647) → bs s ≠ decS n)
theorem refEnd_cases (b : Bool) (v : Int) (h0 : 0 ≤ v) : (refEnd b v = (if b = true then -v else v, true) ∧ -2147483648 ≤ (if b = true then -v else v) ∧ (if b = true then -v else v) ≤ 2147483647) ∨ (refEnd b v = (0, false) ∧ (if b = true then v > 2147483648 else v > 2147483647)) := by
  unfold refEnd
  cases b
  · simp only [Bool.false_eq_true, if_false]
    by_cases h : v > 2147483647
    · right; rw [if_pos h]; exact ⟨rfl, h⟩
    · left; rw [if_neg h, if_neg (by omega)]; exact ⟨rfl, by omega, by omega⟩
  · simp only [if_true]
    by_cases h : v > 2147483648
    · right; rw [if_neg (by omega), if_pos (by omega)]; exact ⟨rfl, h⟩
    · left; rw [if_neg (by omega), if_neg (by omega)]; exact ⟨rfl, by omega, by omega⟩
theorem decS_neg {n : Int} (h : n < 0) : decS n = 45 :: digs n.natAbs := by unfold decS; rw [if_pos h]
theorem decS_pos {n : Int} (h : ¬ n < 0) : decS n = digs n.natAbs := by unfold decS; rw [if_neg h]
theorem digs_no45 (n : Nat) (l : List Int) : digs n ≠ 45 :: l := by
  intro h
  have := digs_digit n 45 (by rw [h]; exact List.mem_cons_self ..)
  omega
theorem digs_zero (n : Nat) (l : List Int) (h : digs n = 48 :: l) : n = 0 ∧ l = [] := by
  by_cases c : n = 0
  · subst c; rw [digs_small (by decide)] at h; simp at h; exact ⟨rfl, h⟩
  · obtain ⟨c, r, e, h49⟩ := digs_head n (by omega)
    rw [e] at h; simp at h; omega
/-- j1: what is made of the digits, below 0 or not. -/
theorem ref_j1 (s : ByteArray) (below : Bool) (t : ByteArray) (k : Nat) (hk : 20 ≤ k) (hs : bs s = (if below = true then [45] else []) ++ bs t) (hb : below = false → ∀ l, bs t ≠ 45 :: l) :
    ∃ r, brazierref01_Parse.j1 k below t = some r ∧ RefTells s r := by
  obtain ⟨k, rfl⟩ : ∃ j, k = (j + 1) + 1 := ⟨k - 2, by omega⟩
  have no : (∀ n, (-2147483648 ≤ n ∧ n ≤ 2147483647) → bs t = digs n.natAbs → (below = true → n < 0) → (below = false → ¬ n < 0) → False) → RefTells s (0, false) := by
    intro h
    refine .inr ⟨rfl, fun n hn e => ?_⟩
    rw [hs] at e
    cases below
    · simp only [Bool.false_eq_true, if_false, List.nil_append] at e
      by_cases c : n < 0
      · rw [decS_neg c] at e; exact hb rfl _ e
      · rw [decS_pos c] at e; exact h n hn e (by simp) (fun _ => c)
    · simp only [if_true, List.cons_append, List.nil_append] at e
      by_cases c : n < 0
      · rw [decS_neg c] at e; simp at e; exact h n hn e (fun _ => c) (by simp)
      · rw [decS_pos c] at e; exact digs_no45 _ _ e.symm
  simp only [brazierref01_Parse.j1]
  have hlen := bs_len t
  by_cases h0 : (t.size : Int) = 0
  · rw [if_pos h0]
    refine ⟨(0, false), by simp only [brazierref01_Parse.j2, if_true], no fun n hn e _ _ => ?_⟩
    rw [e] at hlen
    exact digs_ne n.natAbs (List.length_eq_zero_iff.1 (by omega))
  rw [if_neg h0]
  by_cases h10 : (t.size : Int) > 10
  · rw [if_pos h10]
    refine ⟨(0, false), by simp only [brazierref01_Parse.j2, if_true], no fun n hn e _ _ => ?_⟩
    have := word_small n hn
    rw [e] at hlen
    omega
  rw [if_neg h10, if_pos (by omega)]
  obtain ⟨c, l, hcl⟩ : ∃ c l, bs t = c :: l := List.exists_cons_of_ne_nil (by intro h; rw [h] at hlen; simp at hlen; omega)
  have hbt : bt t 0 = c := bt_at' t [] c l hcl
  rw [hbt]
  have hlen2 : t.size = l.length + 1 := by rw [← hlen, hcl]; rfl
  have run : brazierref01_Parse.j2 (k + 1) below t false = some (if Digits (bs t) then refEnd below (valF 0 (bs t)) else (0, false)) := by
    simp only [brazierref01_Parse.j2, Bool.false_eq_true, if_false]
    exact ref_run below t (bs t) [] 0 k (by simp) (by decide) (by decide) (by simp [hlen]; omega) (by rw [hlen]; omega)
  have bad : ∀ r, brazierref01_Parse.j2 (k + 1) below t true = some r → r = (0, false) := by
    intro r h; simp only [brazierref01_Parse.j2, if_true, Option.some.injEq] at h; exact h.symm
  by_cases h48 : c = 48
  · rw [if_pos h48]
    subst h48
    by_cases h1 : (t.size : Int) > 1
    · rw [if_pos h1]
      refine ⟨(0, false), by simp only [brazierref01_Parse.j2, if_true], no fun n hn e _ _ => ?_⟩
      rw [hcl] at e
      have := (digs_zero _ _ e.symm).2
      subst this
      simp at hlen2; omega
    · rw [if_neg h1]
      have hl : l = [] := List.length_eq_zero_iff.1 (by omega)
      subst hl
      cases below
      · rw [run, hcl]
        refine ⟨_, rfl, .inl ⟨0, by decide, ?_, ?_⟩⟩
        · rw [if_pos (by intro x hx; simp at hx; omega)]; rfl
        · rw [hs, hcl]; simp [decS, digs_small]
      · refine ⟨(0, false), by simp only [brazierref01_Parse.j2, if_true], no fun n hn e hneg _ => ?_⟩
        rw [hcl] at e
        have := (digs_zero _ _ e.symm).1
        have := hneg rfl
        omega
  rw [if_neg h48, run]
  refine ⟨_, rfl, ?_⟩
  by_cases hd : Digits (bs t)
  · rw [if_pos hd]
    have hc := hd c (by rw [hcl]; exact List.mem_cons_self ..)
    obtain ⟨n, hn1, hv, hg⟩ := digs_val _ (bs t) rfl hd ⟨c, l, hcl, by omega⟩
    rw [hv]
    rcases refEnd_cases below (n : Int) (by omega) with ⟨e, h1, h2⟩ | ⟨e, h1⟩
    · rw [e]
      refine .inl ⟨_, ⟨h1, h2⟩, rfl, ?_⟩
      rw [hs, ← hg]
      cases below
      · simp only [Bool.false_eq_true, if_false, List.nil_append]
        rw [decS_pos (by omega)]; rfl
      · simp only [if_true, List.cons_append, List.nil_append]
        rw [decS_neg (by omega)]; simp
    · rw [e]
      refine no fun m hm em hneg hpos => ?_
      rw [em] at hg
      have h3 : (n : Int) = m.natAbs := by rw [← val_digs n, hg, val_digs]
      cases below
      · have := hpos rfl; simp at h1; omega
      · have := hneg rfl; simp at h1; omega
  · rw [if_neg hd]
    exact no fun n hn e _ _ => hd (by rw [e]; exact digs_digits _)
theorem refparse_is (s : ByteArray) (k : Nat) (hk : 30 ≤ k) : ∃ r, brazierref01_Parse.f k s = some r ∧ RefTells s r := by
  unfold brazierref01_Parse.f
  have hlen := bs_len s
  obtain ⟨k, rfl⟩ : ∃ j, k = j + 1 := ⟨k - 1, by omega⟩
  by_cases h0 : (s.size : Int) > 0
  · rw [if_pos h0, if_pos h0]
    obtain ⟨c, l, hcl⟩ : ∃ c l, bs s = c :: l := List.exists_cons_of_ne_nil (by intro h; rw [h] at hlen; simp at hlen; omega)
    have hbt : bt s 0 = c := bt_at' s [] c l hcl
    rw [hbt]
    by_cases h45 : c = 45
    · have e : (c == 45) = true := beq_iff_eq.2 h45
      rw [e]
      simp only [brazierref01_Parse.j0, if_true]
      rw [if_pos (by omega)]
      exact ref_j1 s true _ k (by omega) (by rw [bs_tail, hcl, h45]; rfl) (by intro h; cases h)
    · have e : (c == 45) = false := beq_eq_false_iff_ne.2 h45
      rw [e]
      simp only [brazierref01_Parse.j0, Bool.false_eq_true, if_false]
      exact ref_j1 s false s k (by omega) (by simp) (by intro _ l2 h; rw [hcl] at h; simp at h; exact h45 h.1)
  · rw [if_neg h0]
    simp only [brazierref01_Parse.j0, Bool.false_eq_true, if_false]
    refine ref_j1 s false s k (by omega) (by simp) (fun _ l h => ?_)
    rw [h] at hlen; simp at hlen; omega
end Go.Proofs.Ytfpaigfknohhfaa.Pure
