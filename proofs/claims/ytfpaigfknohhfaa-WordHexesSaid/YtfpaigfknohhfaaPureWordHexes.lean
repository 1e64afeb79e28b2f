/- WordHexes, pure: any bytes' digits are read as these; any text is some bytes' digits, or none (of at most 3000 bytes). -/
import Derived.Test.YtfpaigfknohhfaaWdB
import Derived.Test.YtfpaigfknohhfaaBy
import Derived.Test.YtfpaigfknohhfaaX10
namespace Go.Proofs.Ytfpaigfknohhfaa.Pure
open Go.RowKit Go.Proofs.Ytfpaigfknohhfaa.X Go.Proofs.YtfpaigfknohhfaaW.PrintWords Go.Proofs.YtfpaigfknohhfaaW.PrintLast

/-- Is a byte a digit? -/
def isHex (c : Int) : Bool := (decide (48 ≤ c) && decide (c ≤ 57)) || (decide (97 ≤ c) && decide (c ≤ 102))
def hexV (c : Int) : Int := if c ≤ 57 then c - 48 else c - 87
theorem half_is (c : Int) (h0 : 0 ≤ c) (h1 : c ≤ 255) (k : Nat) : word_half.f (k + 1) c = some (if isHex c = true then (hexV c, true) else (0, false)) := by
  unfold word_half.f
  by_cases a : 48 ≤ c
  · rw [if_pos a]
    simp only [word_half.j0]
    by_cases b : c ≤ 57
    · rw [if_pos (by simp [b]), if_pos (by simp [isHex, a, b])]
      unfold hexV; rw [if_pos b]; congr 2; omega
    · rw [if_neg (by simp [b])]
      by_cases d : 97 ≤ c
      · rw [if_pos d]
        by_cases e : c ≤ 102
        · rw [if_pos e, if_pos (by simp [isHex, d, e])]
          unfold hexV; rw [if_neg b]; congr 2; omega
        · rw [if_neg e, if_neg (by simp [isHex, b, e])]
      · rw [if_neg d, if_neg (by simp [isHex, b, d])]
  · rw [if_neg a]
    simp only [word_half.j0, Bool.false_eq_true, if_false]
    rw [if_neg (by omega), if_neg (by simp [isHex, a]; omega)]
theorem hexV_bd (c : Int) (h : isHex c = true) : 0 ≤ hexV c ∧ hexV c ≤ 15 := by
  unfold isHex at h
  simp at h
  unfold hexV
  split <;> omega
theorem hexD_V (c : Int) (h : isHex c = true) : hexD (hexV c) = c := by
  unfold isHex at h
  simp at h
  unfold hexV hexD
  split <;> split <;> omega
theorem hexV_D (n : Int) (h0 : 0 ≤ n) (h1 : n < 16) : isHex (hexD n) = true ∧ hexV (hexD n) = n := by
  unfold isHex hexD hexV
  by_cases c : n < 10
  · rw [if_pos c]; constructor
    · simp; omega
    · rw [if_pos (by omega)]; omega
  · rw [if_neg c]; constructor
    · simp; omega
    · rw [if_neg (by omega)]; omega
/-- Two digits made one byte. -/
theorem or_two (x y : Int) (hx : 0 ≤ x ∧ x ≤ 15) (hy : 0 ≤ y ∧ y ≤ 15) : Go.bits .or .u8 ((x * 16) % 256) y = x * 16 + y := by
  rw [Go.u8_or _ _ (by omega) (by omega) (by omega) (by omega)]
  have e : ((x * 16 % 256).toNat ||| y.toNat) = (x * 16 % 256).toNat + y.toNat := Go.nat_join 4 _ _ (by omega) (by omega)
  rw [e]; omega
/-- What UnHex makes of digits, two by two; none, if one is none. -/
def unhexL : List Int → Option (List Int)
  | [] => some []
  | [_] => none
  | a :: b :: l => if isHex a = true ∧ isHex b = true then (unhexL l).map fun r => (hexV a * 16 + hexV b) :: r else none
theorem unhex_l0 (s : ByteArray) (hsz : s.size ≤ 1000000000) (d : Nat) : ∀ (pre rest acc : List Int) (k : Nat), bs s = pre ++ rest → rest.length = 2 * d → acc.length + rest.length ≤ 4000000000 → d + 1 < k →
    word_UnHex.l0 k s acc (pre.length : Int) = some (match unhexL rest with | some r => (acc ++ r, true) | none => ([], false)) := by
  induction d with
  | zero =>
    intro pre rest acc k hs hl _ hk
    obtain ⟨k, rfl⟩ : ∃ j, k = j + 1 := ⟨k - 1, by omega⟩
    obtain rfl : rest = [] := List.length_eq_zero_iff.1 (by omega)
    have hz := bs_len s
    rw [hs] at hz
    simp only [List.append_nil] at hz
    simp only [word_UnHex.l0, unhexL]
    rw [if_neg (by omega)]
    simp
  | succ d ih =>
    intro pre rest acc k hs hl ha hk
    obtain ⟨k, rfl⟩ : ∃ j, k = (j + 1) + 1 := ⟨k - 2, by omega⟩
    rcases rest with _ | ⟨a, _ | ⟨b, rest⟩⟩
    · simp at hl
    · simp at hl; omega
    · have hz := bs_len s
      rw [hs] at hz
      simp only [List.length_append, List.length_cons] at hz hl ha
      have h8 := bs_8 s
      rw [hs] at h8
      have ha8 := h8 a (by simp)
      have hb8 := h8 b (by simp)
      have b0 : bt s (pre.length : Int) = a := by
        rw [bt_bs, hs]; unfold rd
        rw [Int.toNat_natCast, List.getD_eq_getElem?_getD, List.getElem?_append_right (Nat.le_refl _), Nat.sub_self]; rfl
      have b1 : bt s ((pre.length : Int) + 1) = b := by
        rw [bt_bs, hs]; unfold rd
        rw [show ((pre.length : Int) + 1).toNat = pre.length + 1 from by omega, List.getD_eq_getElem?_getD, List.getElem?_append_right (by omega), show pre.length + 1 - pre.length = 1 from by omega]; rfl
      rw [word_UnHex.l0]
      rw [w64 (n := (pre.length : Int) + 1) (by omega) (by omega), w64 (n := (pre.length : Int) + 2) (by omega) (by omega), if_pos (by omega), if_pos (by omega), b0, b1, half_is a ha8.1 ha8.2, Option.bind_some, if_pos (by omega), if_pos (by omega), half_is b hb8.1 hb8.2, Option.bind_some]
      simp only [unhexL]
      by_cases ca : isHex a = true
      · by_cases cb : isHex b = true
        · have va := hexV_bd a ca
          have vb := hexV_bd b cb
          simp only [ca, cb, if_true, and_self]
          rw [if_pos (by omega), or_two _ _ va vb]
          have h := ih (pre ++ [a, b]) rest (acc ++ [hexV a * 16 + hexV b]) (k + 1) (by rw [hs]; simp) (by omega) (by simp; omega) (by omega)
          rw [show ((pre ++ [a, b]).length : Int) = (pre.length : Int) + 2 from by simp] at h
          rw [h]
          cases unhexL rest <;> simp
        · simp [ca, cb]
      · simp [ca]
theorem unhexL_hexL (l : List Int) (h : Bytes8 l) : unhexL (hexL l) = some l := by
  induction l with
  | nil => rfl
  | cons c l ih =>
    have hc := h c (List.mem_cons_self ..)
    have h1 := hexV_D (c / 16) (by omega) (by omega)
    have h2 := hexV_D (c % 16) (by omega) (by omega)
    simp only [hexL, unhexL, h1.1, h2.1, and_self, if_true, ih (fun x hx => h x (List.mem_cons_of_mem _ hx)), Option.map_some, h1.2, h2.2]
    congr 2
    omega
theorem hexL_unhexL (n : Nat) : ∀ (t l : List Int), t.length = n → unhexL t = some l → hexL l = t ∧ Bytes8 l := by
  induction n using Nat.strongRecOn with
  | _ n ih =>
    intro t l hn h
    rcases t with _ | ⟨a, _ | ⟨b, t⟩⟩
    · simp only [unhexL, Option.some.injEq] at h; subst h; exact ⟨rfl, fun x hx => by cases hx⟩
    · simp [unhexL] at h
    · simp only [unhexL] at h
      by_cases c : isHex a = true ∧ isHex b = true
      · rw [if_pos c] at h
        obtain ⟨r, hr, rfl⟩ := Option.map_eq_some_iff.1 h
        obtain ⟨h1, h2⟩ := ih t.length (by simp at hn; omega) t r rfl hr
        have va := hexV_bd a c.1
        have vb := hexV_bd b c.2
        have e1 : (hexV a * 16 + hexV b) / 16 = hexV a := by omega
        have e2 : (hexV a * 16 + hexV b) % 16 = hexV b := by omega
        refine ⟨by simp only [hexL, e1, e2, hexD_V a c.1, hexD_V b c.2, h1], fun x hx => ?_⟩
        rcases List.mem_cons.1 hx with rfl | hx
        · omega
        · exact h2 x hx
      · rw [if_neg c] at h; cases h
theorem unhexL_none (n : Nat) : ∀ t : List Int, t.length = 2 * n → unhexL t = none → ∃ c ∈ t, isHex c = false := by
  induction n with
  | zero => intro t hn h; obtain rfl : t = [] := List.length_eq_zero_iff.1 (by omega); simp [unhexL] at h
  | succ n ih =>
    intro t hn h
    rcases t with _ | ⟨a, _ | ⟨b, t⟩⟩
    · simp at hn
    · simp at hn; omega
    · simp only [unhexL] at h
      by_cases ca : isHex a = true
      · by_cases cb : isHex b = true
        · rw [if_pos ⟨ca, cb⟩, Option.map_eq_none_iff] at h
          obtain ⟨c, hc, hh⟩ := ih t (by simp at hn; omega) h
          exact ⟨c, by simp [hc], hh⟩
        · exact ⟨b, by simp, by simpa using cb⟩
      · exact ⟨a, by simp, by simpa using ca⟩
theorem byteB_of {l : List Int} (h : Bytes8 l) : byteB l = true := by
  unfold byteB
  rw [List.all_eq_true]
  intro x hx
  have := h x hx
  simp; omega
theorem hexL_8 (l : List Int) (h : Bytes8 l) : Bytes8 (hexL l) := by
  induction l with
  | nil => intro x hx; cases hx
  | cons c l ih =>
    have hc := h c (List.mem_cons_self ..)
    intro x hx
    have hd : ∀ n, 0 ≤ n → n < 16 → 0 ≤ hexD n ∧ hexD n ≤ 255 := by intro n h0 h1; unfold hexD; split <;> omega
    simp only [hexL, List.mem_cons] at hx
    rcases hx with rfl | rfl | hx
    · exact hd _ (by omega) (by omega)
    · exact hd _ (by omega) (by omega)
    · exact ih (fun y hy => h y (List.mem_cons_of_mem _ hy)) x hx
theorem unhex_is (s : ByteArray) (hsz : s.size ≤ 1000000000) (k : Nat) (hk : s.size + 3 ≤ k) :
    (∃ l, word_UnHex.f k s = some (l, true) ∧ Bytes8 l ∧ hexL l = bs s) ∨ (word_UnHex.f k s = some ([], false) ∧ (s.size % 2 = 1 ∨ ∃ c ∈ bs s, isHex c = false)) := by
  unfold word_UnHex.f
  have hz := bs_len s
  by_cases c : (s.size : Int) % 2 = 0
  · rw [if_pos c]
    have h := unhex_l0 s hsz (s.size / 2) [] (bs s) [] k (by simp) (by omega) (by simp; omega) (by omega)
    have e : word_UnHex.l0 k s [] 0 = word_UnHex.l0 k s [] (([] : List Int).length : Int) := rfl
    rw [e, h]
    cases hu : unhexL (bs s) with
    | some r =>
      have := hexL_unhexL _ (bs s) r rfl hu
      exact .inl ⟨r, by simp, this.2, this.1⟩
    | none =>
      refine .inr ⟨rfl, .inr (unhexL_none (s.size / 2) (bs s) (by omega) hu)⟩
  · rw [if_neg c]
    exact .inr ⟨rfl, .inl (by omega)⟩
theorem hexes_l0 (s : ByteArray) (hsz : s.size ≤ 3000) (d : Nat) : ∀ (i : Int) (k : Nat), 0 ≤ i → (s.size : Int) - i = d → d + 50 < k → (s.size % 2 = 1 ∨ ∃ j : Int, i ≤ j ∧ j < s.size ∧ isHex (bt s j) = false) →
    brazierlaw01_WordHexes.l0 k s [] (s.size : Int) i = some true := by
  induction d with
  | zero =>
    intro i k h0 hd hk hc
    obtain ⟨k, rfl⟩ : ∃ j, k = j + 1 := ⟨k - 1, by omega⟩
    have hlv := at_rounds brazierlaw01_lives.mono (show 40 ≤ k by omega) lives_at
    simp only [brazierlaw01_WordHexes.l0]
    rw [if_neg (by omega), if_pos (show (([] : List Int).length : Int) = 0 from rfl), hlv]
    rcases hc with hc | ⟨j, h1, h2, _⟩
    · rw [if_pos (by omega)]; rfl
    · omega
  | succ d ih =>
    intro i k h0 hd hk hc
    obtain ⟨k, rfl⟩ : ∃ j, k = j + 1 := ⟨k - 1, by omega⟩
    have hlv := at_rounds brazierlaw01_lives.mono (show 40 ≤ k by omega) lives_at
    have next : isHex (bt s i) = true → brazierlaw01_WordHexes.l0 k s [] (s.size : Int) (wrap64 (i + 1)) = some true := by
      intro hh
      rw [w64 (by omega) (by omega)]
      refine ih (i + 1) k (by omega) (by omega) (by omega) ?_
      rcases hc with hc | ⟨j, h1, h2, h3⟩
      · exact .inl hc
      · refine .inr ⟨j, ?_, h2, h3⟩
        by_cases e : j = i
        · subst e; rw [hh] at h3; cases h3
        · omega
    have good : (if (([] : List Int).length : Int) = 0 then (some true).bind fun t => some t else some false) = some true := rfl
    simp only [brazierlaw01_WordHexes.l0, hlv]
    rw [if_pos (by omega), if_pos h0, if_pos (by omega)]
    generalize bt s i = c at *
    by_cases a1 : c < 48
    · rw [if_pos a1]; exact good
    rw [if_neg a1]
    by_cases a2 : c > 57
    · rw [if_pos a2]
      by_cases a3 : c < 97
      · rw [if_pos a3]; exact good
      rw [if_neg a3]
      by_cases a4 : c > 102
      · rw [if_pos a4]; exact good
      · rw [if_neg a4]; exact next (by simp [isHex]; omega)
    · rw [if_neg a2]
      by_cases a4 : c > 102
      · rw [if_pos a4]; exact good
      · rw [if_neg a4]; exact next (by simp [isHex]; omega)
theorem cutH_is (s : ByteArray) : ∃ t, brazierlaw01_cut.f s = some t ∧ t.size ≤ 3000 := by
  have h : 0 ≤ mn (s.size : Int) 3000 ∧ mn (s.size : Int) 3000 ≤ s.size ∧ mn (s.size : Int) 3000 ≤ 3000 := by unfold mn; split <;> omega
  unfold brazierlaw01_cut.f
  rw [if_pos h.1, if_pos h.2.1]
  refine ⟨_, rfl, ?_⟩
  rw [← bs_len, bs_extract, List.length_take]
  omega
theorem WordHexes : brazierlaw01_WordHexes.Pure := by
  intro l s h0 h1 h2 h3
  have hm : 0 ≤ mn (l.length : Int) 3000 ∧ mn (l.length : Int) 3000 ≤ l.length ∧ mn (l.length : Int) 3000 ≤ 3000 := by unfold mn; split <;> omega
  obtain ⟨t, ht, htz⟩ := cutH_is s
  obtain ⟨k, hk⟩ : ∃ k : Nat, k = 20000 := ⟨_, rfl⟩
  have hlv := at_rounds brazierlaw01_lives.mono (show 40 ≤ k by omega) lives_at
  refine ⟨k + 1, ?_⟩
  unfold brazierlaw01_WordHexes.f
  rw [if_pos hm.1, if_pos hm.2.1, ht]
  simp only [Option.bind_some]
  have h8 : Bytes8 (l.take (mn (l.length : Int) 3000).toNat) := fun x hx => wfu8 (h2 x (List.mem_of_mem_take hx))
  have hlen : (l.take (mn (l.length : Int) 3000).toNat).length ≤ 3000 := by rw [List.length_take]; omega
  generalize l.take (mn (l.length : Int) 3000).toNat = b at *
  have e1 : word_Hex.f b = some (strOfNums (hexL b)) := by unfold word_Hex.f; rw [if_pos ⟨byteB_of h8, by omega⟩]
  have e2 : brazierref01_Hex.f b = some (strOfNums (hexL b)) := by unfold brazierref01_Hex.f; rw [if_pos ⟨byteB_of h8, by omega⟩]
  have hsz : (strOfNums (hexL b)).size ≤ 6000 := by rw [strOfNums_size, hexL_length]; omega
  rw [e1, Option.bind_some]
  have e3 : word_UnHex.f (k + 1) (strOfNums (hexL b)) = some (b, true) := by
    rcases unhex_is (strOfNums (hexL b)) (by omega) (k + 1) (by omega) with ⟨l2, e, hl8, hh⟩ | ⟨e, hh⟩
    · rw [bs_of (hexL_8 b h8)] at hh
      have := unhexL_hexL l2 hl8
      rw [hh, unhexL_hexL b h8] at this
      rw [e, Option.some.inj this]
    · exfalso
      rw [strOfNums_size, hexL_length, bs_of (hexL_8 b h8)] at hh
      rcases hh with hh | ⟨c, hc, hc2⟩
      · omega
      · have : ∀ l : List Int, Bytes8 l → ∀ c ∈ hexL l, isHex c = true := by
          intro l
          induction l with
          | nil => intro _ c hc; cases hc
          | cons d l ih =>
            intro hl c hc
            have hd := hl d (List.mem_cons_self ..)
            simp only [hexL, List.mem_cons] at hc
            rcases hc with rfl | rfl | hc
            · exact (hexV_D _ (by omega) (by omega)).1
            · exact (hexV_D _ (by omega) (by omega)).1
            · exact ih (fun y hy => hl y (List.mem_cons_of_mem _ hy)) c hc
        rw [this b h8 c hc] at hc2; cases hc2
  rw [e3, Option.bind_some, e2, Option.bind_some]
  simp only [if_true, bne_self_eq_false, brazierlaw01_WordHexes.j0, Bool.false_eq_true, if_false]
  rcases unhex_is t (by omega) k (by omega) with ⟨l2, e, hl8, hh⟩ | ⟨e, hh⟩
  · rw [e, Option.bind_some]
    have hlen2 : l2.length ≤ 3000 := by
      have := hexL_length l2
      rw [hh, bs_len] at this
      omega
    have e5 : brazierref01_Hex.f l2 = some t := by unfold brazierref01_Hex.f; rw [if_pos ⟨byteB_of hl8, by omega⟩, hh, of_bs]
    simp only [if_true]
    rw [e5, Option.bind_some, if_pos rfl, hlv]
    rfl
  · rw [e, Option.bind_some]
    simp only [Bool.false_eq_true, if_false]
    refine hexes_l0 t htz t.size 0 k (by decide) (by omega) (by omega) ?_
    rcases hh with hh | ⟨c, hc, hc2⟩
    · exact .inl hh
    · obtain ⟨j, hj, rfl⟩ := List.getElem_of_mem hc
      rw [bs_len] at hj
      refine .inr ⟨(j : Int), by omega, by omega, ?_⟩
      rw [bt_bs, rd_nat (by rw [bs_len]; exact hj)]
      exact hc2
end Go.Proofs.Ytfpaigfknohhfaa.Pure
