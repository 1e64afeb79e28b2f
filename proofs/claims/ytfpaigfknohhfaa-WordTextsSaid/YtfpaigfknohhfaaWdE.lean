/- A text read as a word: word.Parse and the reference's Parse as printed, held against the decimal text. -/
import Derived.Test.YtfpaigfknohhfaaWdD
import Derived.Test.YtfpaigfknohhfaaX6
namespace Go.Proofs.Ytfpaigfknohhfaa.Pure
open Go.RowKit Go.Proofs.Ytfpaigfknohhfaa.X Go.Proofs.YtfpaigfknohhfaaW.PrintWords Go.Proofs.YtfpaigfknohhfaaW.PrintLast

/-- The number that digits make, behind one that is there. -/
def valF (acc : Int) : List Int → Int
  | [] => acc
  | c :: l => valF (10 * acc + (c - 48)) l
def Digits (l : List Int) : Prop := ∀ c ∈ l, 48 ≤ c ∧ c ≤ 57
instance (l : List Int) : Decidable (Digits l) := inferInstanceAs (Decidable (∀ c ∈ l, 48 ≤ c ∧ c ≤ 57))
theorem valF_append (l r : List Int) : ∀ acc, valF acc (l ++ r) = valF (valF acc l) r := by
  induction l with
  | nil => intro acc; rfl
  | cons c l ih => intro acc; exact ih _
theorem valF_le (l : List Int) (hl : Digits l) : ∀ acc, 0 ≤ acc → acc ≤ valF acc l := by
  induction l with
  | nil => intro acc _; exact Int.le_refl _
  | cons c l ih =>
    intro acc h0
    have hc := hl c (List.mem_cons_self ..)
    have := ih (fun x hx => hl x (List.mem_cons_of_mem _ hx)) (10 * acc + (c - 48)) (by omega)
    simp only [valF]; omega
theorem valF_lt (l : List Int) (hl : Digits l) : ∀ acc, 0 ≤ acc → valF acc l < (acc + 1) * 10 ^ l.length := by
  induction l with
  | nil => intro acc _; simp [valF]; omega
  | cons c l ih =>
    intro acc h0
    have hc := hl c (List.mem_cons_self ..)
    have h := ih (fun x hx => hl x (List.mem_cons_of_mem _ hx)) (10 * acc + (c - 48)) (by omega)
    simp only [valF, List.length_cons]
    refine Int.lt_of_lt_of_le h ?_
    rw [Int.pow_succ, Int.mul_comm (10 ^ l.length) 10, ← Int.mul_assoc]
    exact Int.mul_le_mul_of_nonneg_right (by omega) (Int.le_of_lt (Int.pow_pos (by decide)))
theorem val_digs (n : Nat) : valF 0 (digs n) = n := by
  induction n using Nat.strongRecOn with
  | _ n ih =>
    by_cases h : n < 10
    · rw [digs_small h]; simp [valF]; omega
    · rw [digs_big h, valF_append, ih (n / 10) (by omega)]
      simp only [valF]; omega
theorem digs_digits (n : Nat) : Digits (digs n) := digs_digit n
theorem digs_ne (n : Nat) : digs n ≠ [] := by
  by_cases h : n < 10
  · rw [digs_small h]; simp
  · rw [digs_big h]; simp
theorem digs_head (n : Nat) (h : 1 ≤ n) : ∃ c l, digs n = c :: l ∧ 49 ≤ c := by
  induction n using Nat.strongRecOn with
  | _ n ih =>
    by_cases c : n < 10
    · rw [digs_small c]; exact ⟨_, _, rfl, by omega⟩
    · obtain ⟨d, l, e, hd⟩ := ih (n / 10) (by omega) (by omega)
      rw [digs_big c, e]; exact ⟨d, _, rfl, hd⟩
/-- Digits with no 0 ahead are the text of the number that they make. -/
theorem digs_val (m : Nat) : ∀ l : List Int, l.length = m → Digits l → (∃ c r, l = c :: r ∧ 49 ≤ c) → ∃ n : Nat, 1 ≤ n ∧ valF 0 l = n ∧ digs n = l := by
  induction m with
  | zero => intro l hl _ ⟨c, r, e, _⟩; subst e; simp at hl
  | succ m ih =>
    intro l hl hd hc
    obtain ⟨l', x, e⟩ : ∃ l' x, l = l' ++ [x] := by
      rcases List.eq_nil_or_concat l with e | ⟨l', x, e⟩
      · subst e; simp at hl
      · exact ⟨l', x, by rw [e, List.concat_eq_append]⟩
    subst e
    have hx := hd x (by simp)
    obtain ⟨c, r, e, h49⟩ := hc
    rcases l' with _ | ⟨c', l'⟩
    · simp at e
      obtain ⟨rfl, rfl⟩ := e
      refine ⟨(x - 48).toNat, by omega, ?_, ?_⟩
      · simp [valF]; omega
      · rw [digs_small (by omega)]; simp; omega
    · simp only [List.cons_append, List.cons.injEq] at e
      obtain ⟨rfl, e⟩ := e
      obtain ⟨n, hn, hv, hg⟩ := ih (c' :: l') (by simpa using hl) (fun y hy => hd y (List.mem_append_left _ hy)) ⟨c', l', rfl, h49⟩
      refine ⟨n * 10 + (x - 48).toNat, by omega, ?_, ?_⟩
      · rw [valF_append, hv]; simp only [valF]; omega
      · rw [digs_big (by omega), show (n * 10 + (x - 48).toNat) / 10 = n from by omega, hg]
        congr 2
        omega
theorem bt_at' (s : ByteArray) (pre : List Int) (c : Int) (l : List Int) (h : bs s = pre ++ c :: l) : bt s (pre.length : Int) = c := by
  rw [bt_bs, h]
  unfold rd
  rw [Int.toNat_natCast, List.getD_eq_getElem?_getD, List.getElem?_append_right (Nat.le_refl _), Nat.sub_self]
  rfl
theorem size_of {s : ByteArray} {l : List Int} (h : bs s = l) : s.size = l.length := by rw [← bs_len, h]

/-! ### word.Parse: digits that stand there are gone through -/
theorem parse_run (s : ByteArray) (rest : List Int) : ∀ (pre : List Int) (acc : Int) (k : Nat), bs s = pre ++ rest → Digits rest → 0 ≤ acc → valF acc rest ≤ 2147483648 → s.size ≤ 4611686018427387904 →
    word_Parse.l0 (2 * rest.length + k) s acc (s.size : Int) (pre.length : Int) = word_Parse.l0 k s (valF acc rest) (s.size : Int) (s.size : Int) := by
  induction rest with
  | nil =>
    intro pre acc k hs _ _ _ _
    have h := size_of hs
    simp only [List.append_nil] at h
    rw [h]
    simp [valF]
  | cons c rest ih =>
    intro pre acc k hs hd h0 hv hsz
    have hl := size_of hs
    simp only [List.length_append, List.length_cons] at hl
    have hc := hd c (List.mem_cons_self ..)
    have hd' : Digits rest := fun x hx => hd x (List.mem_cons_of_mem _ hx)
    have hle := valF_le rest hd' (10 * acc + (c - 48)) (by omega)
    have hv' : valF (10 * acc + (c - 48)) rest ≤ 2147483648 := hv
    rw [show 2 * (c :: rest).length + k = (2 * rest.length + k) + 1 + 1 from by simp; omega]
    simp only [word_Parse.l0, bt_at' s pre c rest hs]
    rw [if_pos (by omega), if_pos (by omega), if_pos (by omega), if_pos (by omega)]
    simp only [word_Parse.j1, show (c ≤ 57) from hc.2, decide_true, if_true]
    rw [w64 (n := 10 * acc) (by omega) (by omega), show (c - 48) % 256 = c - 48 from by omega, w64 (n := 10 * acc + (c - 48)) (by omega) (by omega), if_neg (by omega), w64 (n := (pre.length : Int) + 1) (by omega) (by omega)]
    have h := ih (pre ++ [c]) (10 * acc + (c - 48)) k (by rw [hs]; simp) hd' (by omega) hv' hsz
    rw [show ((pre ++ [c]).length : Int) = (pre.length : Int) + 1 from by simp] at h
    exact h
theorem parse_end (s : ByteArray) (v n : Int) (k : Nat) (hk : 8589934600 ≤ k) (hn : -2147483648 ≤ n ∧ n ≤ 2147483647) (hs : bs s = decS n) (hv : v = n.natAbs) :
    word_Parse.l0 (k + 2) s v (s.size : Int) (s.size : Int) = some (n, 0) := by
  have hne : bs s ≠ [] := by rw [hs]; unfold decS; split <;> simp [digs_ne]
  have hsz : 0 < s.size := by
    rw [← bs_len]
    exact List.length_pos_iff.2 hne
  rw [show k + 2 = (k + 1) + 1 from rfl]
  simp only [word_Parse.l0]
  rw [if_neg (by omega), if_neg (by intro h; rw [toList_data] at h; rw [← size_len, h] at hsz; simp at hsz), if_pos (by omega)]
  have hd := dec_is n hn k hk
  have hb : (bt s 0 == 45) = decide (n < 0) := by
    have h0 : bt s 0 = rd (decS n) 0 := by rw [bt_bs, hs]
    rw [h0]
    unfold decS
    by_cases c : n < 0
    · rw [if_pos c]; simp [rd, c]
    · rw [if_neg c]
      obtain ⟨x, l, e⟩ : ∃ x l, digs n.natAbs = x :: l := List.exists_cons_of_ne_nil (digs_ne _)
      have hx := digs_digit n.natAbs x (by rw [e]; exact List.mem_cons_self ..)
      rw [e]
      simp [rd, c]
      omega
  rw [hb]
  have htl : (strOfNums (decS n)).toList = s.toList := by
    rw [toList_bs, bs_of (decS_8 n), hs]
  by_cases c : n < 0
  · simp only [word_Parse.j3, c, decide_true, if_true]
    have e : wrap64 (-v) = n := by rw [w64 (by omega) (by omega)]; omega
    rw [e, w32 hn.1 hn.2, w64 (by omega) (by omega), if_pos rfl, hd]
    simp only [Option.bind_some, htl, if_true]
  · simp only [word_Parse.j3, c, decide_false, Bool.false_eq_true, if_false]
    have e : v = n := by omega
    rw [e, w32 hn.1 hn.2, w64 (by omega) (by omega), if_pos rfl, hd]
    simp only [Option.bind_some, htl, if_true]
theorem word_small (n : Int) (hn : -2147483648 ≤ n ∧ n ≤ 2147483647) : (digs n.natAbs).length ≤ 10 := (digs_len n.natAbs 10 (by decide) (by omega)).1
theorem parse_yes (s : ByteArray) (n : Int) (hn : -2147483648 ≤ n ∧ n ≤ 2147483647) (hs : bs s = decS n) (k : Nat) (hk : 8589934700 ≤ k) : word_Parse.f k s = some (n, 0) := by
  unfold word_Parse.f
  have hw := word_small n hn
  have hv := val_digs n.natAbs
  by_cases c : n < 0
  · have e : decS n = [45] ++ digs n.natAbs := by unfold decS; rw [if_pos c]; rfl
    rw [e] at hs
    have hsz := size_of hs
    simp only [List.length_append, List.length_cons, List.length_nil] at hsz
    obtain ⟨k, rfl⟩ : ∃ j, k = j + 3 := ⟨k - 3, by omega⟩
    have h0 : bt s 0 = 45 := bt_at' s [] 45 (digs n.natAbs) hs
    rw [show k + 3 = ((k + 1) + 1) + 1 from rfl]
    simp only [word_Parse.l0, h0]
    rw [if_pos (by omega), if_pos (by decide), if_pos (by omega), if_neg (by decide)]
    simp only [word_Parse.j1, Bool.false_eq_true, if_false]
    rw [if_neg (by decide)]
    simp only [word_Parse.j2, bne_self_eq_false, Bool.false_eq_true, if_false]
    rw [if_neg (by decide), w64 (by decide) (by decide)]
    have h := parse_run s (digs n.natAbs) [45] 0 (k - 2 * (digs n.natAbs).length) hs (digs_digits _) (by decide) (by rw [hv]; omega) (by omega)
    rw [show 2 * (digs n.natAbs).length + (k - 2 * (digs n.natAbs).length) = k from by omega] at h
    have h2 := parse_end s (n.natAbs : Int) n (k - 2 * (digs n.natAbs).length - 2) (by omega) hn (by rw [hs, e]) rfl
    rw [show k - 2 * (digs n.natAbs).length - 2 + 2 = k - 2 * (digs n.natAbs).length from by omega] at h2
    rw [hv, h2] at h
    exact h
  · have e : decS n = digs n.natAbs := by unfold decS; rw [if_neg c]
    rw [e] at hs
    have hsz := size_of hs
    have h := parse_run s (digs n.natAbs) [] 0 (k - 2 * (digs n.natAbs).length) hs (digs_digits _) (by decide) (by rw [hv]; omega) (by omega)
    rw [show 2 * (digs n.natAbs).length + (k - 2 * (digs n.natAbs).length) = k from by omega] at h
    have h2 := parse_end s (n.natAbs : Int) n (k - 2 * (digs n.natAbs).length - 2) (by omega) hn (by rw [hs, e]) rfl
    rw [show k - 2 * (digs n.natAbs).length - 2 + 2 = k - 2 * (digs n.natAbs).length from by omega] at h2
    rw [hv, h2] at h
    exact h

/-! ### word.Parse: what it takes is a word's text -/
def Tells (s : ByteArray) (r : Option (Int × Int)) : Prop := r = some (0, 11) ∨ ∃ n, (-2147483648 ≤ n ∧ n ≤ 2147483647) ∧ r = some (n, 0) ∧ bs s = decS n
theorem tells_ite {s : ByteArray} {c : Prop} [Decidable c] {a b : Option (Int × Int)} (ha : c → Tells s a) (hb : ¬ c → Tells s b) : Tells s (if c then a else b) := by
  by_cases h : c
  · rw [if_pos h]; exact ha h
  · rw [if_neg h]; exact hb h
theorem tells_dec (s : ByteArray) (n : Int) (hn : -2147483648 ≤ n ∧ n ≤ 2147483647) (k : Nat) (hk : 8589934600 ≤ k) :
    Tells s ((word_Dec.f k n).bind fun t => if t.toList = s.toList then some (n, 0) else some (0, 11)) := by
  rw [dec_is n hn k hk]
  simp only [Option.bind_some]
  refine tells_ite (fun h => .inr ⟨n, hn, rfl, ?_⟩) (fun _ => .inl rfl)
  rw [toList_bs, bs_of (decS_8 n)] at h
  exact h.symm
theorem parse_tells (s : ByteArray) (d : Nat) : ∀ (i acc : Int) (k : Nat), 0 ≤ i → 0 ≤ acc → acc ≤ 2147483648 → (s.size : Int) - i = d → s.size ≤ 4611686018427387904 → 8589934700 + 3 * d ≤ k →
    Tells s (word_Parse.l0 k s acc (s.size : Int) i) := by
  induction d with
  | zero =>
    intro i acc k h0 ha hb hd hsz hk
    obtain ⟨k, rfl⟩ : ∃ j, k = (j + 1) + 1 := ⟨k - 2, by omega⟩
    simp only [word_Parse.l0]
    rw [if_neg (by omega)]
    have key : ∀ (c : Bool), Tells s (word_Parse.j3 (k + 1) s acc c) := by
      intro c
      simp only [word_Parse.j3]
      cases c
      · simp only [Bool.false_eq_true, if_false]
        refine tells_ite (fun _ => ?_) (fun _ => .inl rfl)
        exact tells_dec s (wrap32 acc) (wrap32_lo _) k (by omega)
      · simp only [if_true]
        refine tells_ite (fun _ => ?_) (fun _ => .inl rfl)
        exact tells_dec s (wrap32 (wrap64 (-acc))) (wrap32_lo _) k (by omega)
    refine tells_ite (fun _ => key _) (fun h => ?_)
    rw [if_pos ?_]
    · exact key _
    · have : s.size ≠ 0 := by
        intro h2
        apply h
        rw [toList_data]
        exact List.length_eq_zero_iff.1 (by rw [size_len, h2])
      omega
  | succ d ih =>
    intro i acc k h0 ha hb hd hsz hk
    obtain ⟨k, rfl⟩ : ∃ j, k = ((j + 1) + 1) + 1 := ⟨k - 3, by omega⟩
    have hr := rd_8 (bs_8 s) i
    rw [← bt_bs] at hr
    have hnext : ∀ (k' : Nat) (acc' : Int), k ≤ k' → 0 ≤ acc' → ¬ 2147483648 < acc' → Tells s (word_Parse.l0 k' s acc' (s.size : Int) (wrap64 (i + 1))) := by
      intro k' acc' hk' h1 h2
      rw [w64 (by omega) (by omega)]
      exact ih (i + 1) acc' k' (by omega) h1 (by omega) (by omega) hsz (by omega)
    simp only [word_Parse.l0]
    rw [if_pos (by omega), if_pos h0, if_pos (by omega)]
    generalize bt s i = c at *
    have key : ∀ b : Bool, (b = true → 48 ≤ c ∧ c ≤ 57) → Tells s (word_Parse.j1 (k + 1 + 1) s acc i c (s.size : Int) i b) := by
      intro b hb'
      simp only [word_Parse.j1]
      refine tells_ite (fun hbt => ?_) (fun _ => ?_)
      · have hc := hb' hbt
        rw [w64 (n := 10 * acc) (by omega) (by omega), show (c - 48) % 256 = c - 48 from by omega, w64 (n := 10 * acc + (c - 48)) (by omega) (by omega)]
        refine tells_ite (fun _ => .inl rfl) (fun h => ?_)
        exact hnext _ _ (by omega) (by omega) (by omega)
      · have k2 : ∀ b2 : Bool, Tells s (word_Parse.j2 (k + 1) s acc (s.size : Int) i b2) := by
          intro b2
          simp only [word_Parse.j2]
          refine tells_ite (fun _ => .inl rfl) (fun _ => ?_)
          refine tells_ite (fun _ => .inl rfl) (fun h => ?_)
          exact hnext _ _ (by omega) (by omega) (by omega)
        exact tells_ite (fun _ => k2 _) (fun _ => k2 _)
    refine tells_ite (fun h => key _ (fun hb2 => ⟨by omega, of_decide_eq_true hb2⟩)) (fun _ => key _ (fun hb2 => by cases hb2))
end Go.Proofs.Ytfpaigfknohhfaa.Pure
