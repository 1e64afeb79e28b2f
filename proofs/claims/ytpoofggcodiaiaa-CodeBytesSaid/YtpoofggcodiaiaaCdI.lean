/- Lines and their bytes: what Bytes and Lines answer, as printed; the numbers' ranges are stated at each. -/
import Derived.Test.YtpoofggcodiaiaaCdG
import Derived.Test.YtpoofggcodiaiaaCdH
import Derived.Test.YtpoofggcodiaiaaCdE
import Derived.Test.YtpoofggcodiaiaaBy
import Derived.Test.YtpoofggcodiaiaaX18
set_option linter.unusedVariables false
namespace Go.Proofs.Ytpoofggcodiaiaa.Pure
open Go.RowKit Go.Proofs.Ytpoofggcodiaiaa.X Go.Proofs.YtpoofggcodiaiaaW.PrintWords Go.Proofs.YtpoofggcodiaiaaW.PrintLast

def okS (x : S23) : Bool := okL x.f0 x.f1 x.f2 x.f3 x.f4 x.f5 x.f6
def wS (x : S23) : Int := wordOf x.f0 x.f1 x.f2 x.f3 x.f4 x.f5 x.f6
def nS (x : S23) : Prop := -2147483648 ≤ x.f5 ∧ x.f5 ≤ 2147483647
def by4 (w : Int) : List Int := [w % 256, w / 256 % 256, w / 65536 % 256, w / 16777216 % 256]
def encS (l : List S23) : List Int := l.flatMap fun x => by4 (wS x)
theorem encS_cons (x : S23) (l : List S23) : encS (x :: l) = by4 (wS x) ++ encS l := by simp [encS]
theorem encS_len (l : List S23) : (encS l).length = 4 * l.length := by
  induction l with
  | nil => rfl
  | cons x l ih => rw [encS_cons, List.length_append, ih]; simp only [by4, List.length_cons, List.length_nil]; omega
theorem rdS {l : List S23} {i : Nat} (h : i < l.length) : rd_T23 l (i : Int) = l[i] := by
  unfold rd_T23
  rw [Int.toNat_natCast, List.getD_eq_getElem?_getD, List.getElem?_eq_getElem h]; rfl
theorem w64s {i : Nat} (h : i ≤ 1000000000000) (j : Nat) (hj : j ≤ 1000) : wrap64 ((i : Int) + (j : Int)) = ((i + j : Nat) : Int) := by unfold wrap64; omega

theorem bytes_l : ∀ (d : Nat) (l : List S23) (i k : Nat) (acc : List Int), i + d = l.length → (∀ x ∈ l, nS x) → l.length ≤ 1000000 → acc.length = 4 * i → d + 20 ≤ k →
    code_Bytes.l0 k acc l (l.length : Int) (i : Int) = if (l.drop i).all okS = true then some (acc ++ encS (l.drop i), true) else some ([], false) := by
  intro d
  induction d with
  | zero =>
    intro l i k acc hi hn hl ha hk
    obtain ⟨k, rfl⟩ : ∃ m, k = m + 1 := ⟨k - 1, by omega⟩
    rw [code_Bytes.l0, if_neg (by omega), List.drop_of_length_le (by omega)]
    simp [encS]
  | succ d ih =>
    intro l i k acc hi hn hl ha hk
    obtain ⟨k, rfl⟩ : ∃ m, k = m + 1 := ⟨k - 1, by omega⟩
    have hlt : i < l.length := by omega
    have hx : nS l[i] := hn _ (List.getElem_mem hlt)
    have hd : l.drop i = l[i] :: l.drop (i + 1) := List.drop_eq_getElem_cons hlt
    have hw := w64s (i := i) (by omega) 1 (by decide)
    rw [code_Bytes.l0, if_pos (by omega), if_pos (by omega), if_pos (by omega), rdS hlt, encode_is _ _ _ _ _ _ _ hx k (by omega), Option.bind_some, hd, List.all_cons]
    cases ho : okS l[i]
    · rw [show okL l[i].f0 l[i].f1 l[i].f2 l[i].f3 l[i].f4 l[i].f5 l[i].f6 = false from ho]
      rfl
    · rw [show okL l[i].f0 l[i].f1 l[i].f2 l[i].f3 l[i].f4 l[i].f5 l[i].f6 = true from ho]
      simp only [if_true, Option.bind_some, Bool.true_and]
      rw [if_pos (by simp only [List.length_cons, List.length_nil]; omega)]
      rw [show wrap64 ((i : Int) + 1) = ((i + 1 : Nat) : Int) from hw, ih l (i + 1) k _ (by omega) hn hl (by simp only [List.length_append, List.length_cons, List.length_nil]; omega) (by omega), encS_cons]
      simp only [List.append_assoc]
      rfl
theorem bytes_is (l : List S23) (hn : ∀ x ∈ l, nS x) (hl : l.length ≤ 1000000) (k : Nat) (hk : l.length + 20 ≤ k) : code_Bytes.f k l = if l.all okS = true then some (encS l, true) else some ([], false) := by
  unfold code_Bytes.f
  have h := bytes_l l.length l 0 k [] (by omega) hn hl rfl hk
  rw [List.drop_zero, List.nil_append] at h
  exact h

-- a word out of four bytes
theorem or_sum {a b c d : Nat} (ha : a < 256) (hb : b < 256) (hc : c < 256) (hd : d < 256) : (a ||| b * 256 ||| c * 65536 ||| d * 16777216) = a + 256 * b + 65536 * c + 16777216 * d := by
  have e1 : a ||| b * 256 = a + 256 * b := by
    rw [Nat.or_comm, Nat.mul_comm, show (256 : Nat) = 2 ^ 8 from rfl, ← Nat.two_pow_add_eq_or_of_lt (by omega)]; omega
  have e2 : (a + 256 * b) ||| c * 65536 = a + 256 * b + 65536 * c := by
    rw [Nat.or_comm, Nat.mul_comm c, show (65536 : Nat) = 2 ^ 16 from rfl, ← Nat.two_pow_add_eq_or_of_lt (by omega)]; omega
  rw [e1, e2, Nat.or_comm, Nat.mul_comm d, show (16777216 : Nat) = 2 ^ 24 from rfl, ← Nat.two_pow_add_eq_or_of_lt (by omega)]; omega
theorem or_word {a b c d : Int} (ha : 0 ≤ a ∧ a ≤ 255) (hb : 0 ≤ b ∧ b ≤ 255) (hc : 0 ≤ c ∧ c ≤ 255) (hd : 0 ≤ d ∧ d ≤ 255) :
    Go.bits .or .u32 (Go.bits .or .u32 (Go.bits .or .u32 (a % 4294967296) (((b % 4294967296) * 256) % 4294967296)) (((c % 4294967296) * 65536) % 4294967296)) (((d % 4294967296) * 16777216) % 4294967296) = a + 256 * b + 65536 * c + 16777216 * d := by
  obtain ⟨x, rfl⟩ : ∃ x : Nat, a = (x : Int) := ⟨a.toNat, by omega⟩
  obtain ⟨y, rfl⟩ : ∃ x : Nat, b = (x : Int) := ⟨b.toNat, by omega⟩
  obtain ⟨z, rfl⟩ : ∃ x : Nat, c = (x : Int) := ⟨c.toNat, by omega⟩
  obtain ⟨t, rfl⟩ : ∃ x : Nat, d = (x : Int) := ⟨d.toNat, by omega⟩
  rw [show (x : Int) % 4294967296 = (x : Int) by omega, show ((y : Int) % 4294967296 * 256) % 4294967296 = ((y * 256 : Nat) : Int) by omega, show ((z : Int) % 4294967296 * 65536) % 4294967296 = ((z * 65536 : Nat) : Int) by omega, show ((t : Int) % 4294967296 * 16777216) % 4294967296 = ((t * 16777216 : Nat) : Int) by omega]
  rw [or4 (by omega) (by omega) (by omega) (by omega), or_sum (by omega) (by omega) (by omega) (by omega)]
  omega
def wAt (b : List Int) (i : Nat) : Int := rd b (i : Int) + 256 * rd b ((i + 1 : Nat) : Int) + 65536 * rd b ((i + 2 : Nat) : Int) + 16777216 * rd b ((i + 3 : Nat) : Int)
theorem wAt_bd {b : List Int} (h8 : Bytes8 b) (i : Nat) : 0 ≤ wAt b i ∧ wAt b i ≤ 4294967295 := by
  have h0 := rd_8 h8 (i : Int); have h1 := rd_8 h8 ((i + 1 : Nat) : Int); have h2 := rd_8 h8 ((i + 2 : Nat) : Int); have h3 := rd_8 h8 ((i + 3 : Nat) : Int)
  unfold wAt; omega
theorem by4_wAt {b : List Int} (h8 : Bytes8 b) (i : Nat) : by4 (wAt b i) = [rd b (i : Int), rd b ((i + 1 : Nat) : Int), rd b ((i + 2 : Nat) : Int), rd b ((i + 3 : Nat) : Int)] := by
  have h0 := rd_8 h8 (i : Int); have h1 := rd_8 h8 ((i + 1 : Nat) : Int); have h2 := rd_8 h8 ((i + 2 : Nat) : Int); have h3 := rd_8 h8 ((i + 3 : Nat) : Int)
  unfold by4 wAt
  generalize rd b (i : Int) = x at *; generalize rd b ((i + 1 : Nat) : Int) = y at *; generalize rd b ((i + 2 : Nat) : Int) = z at *; generalize rd b ((i + 3 : Nat) : Int) = t at *
  rw [show (x + 256 * y + 65536 * z + 16777216 * t) % 256 = x by omega, show (x + 256 * y + 65536 * z + 16777216 * t) / 256 % 256 = y by omega, show (x + 256 * y + 65536 * z + 16777216 * t) / 65536 % 256 = z by omega, show (x + 256 * y + 65536 * z + 16777216 * t) / 16777216 % 256 = t by omega]
theorem take4 {b : List Int} {i : Nat} (h : i + 4 ≤ b.length) (n : Nat) : (b.drop i).take (4 * (n + 1)) = [rd b (i : Int), rd b ((i + 1 : Nat) : Int), rd b ((i + 2 : Nat) : Int), rd b ((i + 3 : Nat) : Int)] ++ (b.drop (i + 4)).take (4 * n) := by
  rw [List.drop_eq_getElem_cons (i := i) (by omega), List.drop_eq_getElem_cons (i := i + 1) (by omega), List.drop_eq_getElem_cons (i := i + 1 + 1) (by omega), List.drop_eq_getElem_cons (i := i + 1 + 1 + 1) (by omega)]
  rw [show 4 * (n + 1) = 4 * n + 1 + 1 + 1 + 1 by omega, List.take_succ_cons, List.take_succ_cons, List.take_succ_cons, List.take_succ_cons]
  rw [rd_nat (by omega), rd_nat (by omega), rd_nat (by omega), rd_nat (by omega)]
  rfl
abbrev noLine : Int × Int × Int × Int × Int × Int × ByteArray × Bool := (0, 0, 0, 0, 0, 0, (⟨#[]⟩ : ByteArray), false)
theorem lines_step {b : List Int} (h8 : Bytes8 b) (hl : b.length ≤ 1000000) {i : Nat} (h : i + 4 ≤ b.length) (acc : List S23) (ha : acc.length ≤ 1000000) (k : Nat) :
    code_Lines.l0 (k + 1) b acc (i : Int) = (code_Decode.f k (wAt b i)).bind fun bt => if bt.2.2.2.2.2.2.2 = true then code_Lines.l0 k b (acc ++ [(⟨bt.1, bt.2.1, bt.2.2.1, bt.2.2.2.1, bt.2.2.2.2.1, bt.2.2.2.2.2.1, bt.2.2.2.2.2.2.1⟩ : S23)]) ((i + 4 : Nat) : Int) else some (acc, (i : Int)) := by
  have w1 := w64s (i := i) (by omega) 1 (by decide); have w2 := w64s (i := i) (by omega) 2 (by decide); have w3 := w64s (i := i) (by omega) 3 (by decide); have w4 := w64s (i := i) (by omega) 4 (by decide)
  have w0 : wrap64 ((b.length : Int) - (i : Int)) = (b.length : Int) - (i : Int) := by unfold wrap64; omega
  rw [code_Lines.l0, w0, show wrap64 ((i : Int) + 1) = ((i + 1 : Nat) : Int) from w1, show wrap64 ((i : Int) + 2) = ((i + 2 : Nat) : Int) from w2, show wrap64 ((i : Int) + 3) = ((i + 3 : Nat) : Int) from w3, show wrap64 ((i : Int) + 4) = ((i + 4 : Nat) : Int) from w4]
  rw [if_pos (by omega), if_pos (by omega), if_pos (by omega), if_pos (by omega), if_pos (by omega), if_pos (by omega), if_pos (by omega), if_pos (by omega), if_pos (by omega)]
  rw [or_word (rd_8 h8 _) (rd_8 h8 _) (rd_8 h8 _) (rd_8 h8 _)]
  have hlt : acc.length < 2199023255552 := by omega
  simp only [hlt, if_true]
  rfl
theorem lines_end {b : List Int} {i : Nat} (hl : b.length ≤ 1000000) (hi : i ≤ b.length) (h : b.length < i + 4) (acc : List S23) (k : Nat) : code_Lines.l0 (k + 1) b acc (i : Int) = some (acc, (i : Int)) := by
  have w0 : wrap64 ((b.length : Int) - (i : Int)) = (b.length : Int) - (i : Int) := by unfold wrap64; omega
  rw [code_Lines.l0, w0, if_neg (by omega)]
theorem okL_may {op d a b n : Int} : okL 2 op d a b n (⟨#[]⟩ : ByteArray) = mayP op d a b n := by unfold okL; rw [empty_list]; rfl
theorem may_32 {op d a b n : Int} (h : mayP op d a b n = true) : -2147483648 ≤ n ∧ n ≤ 2147483647 := by
  have := numOk_bd (mayP_bd h).2.2.2.2.2.2
  omega
theorem lines_any {b : List Int} (h8 : Bytes8 b) (hl : b.length ≤ 1000000) : ∀ (m i k : Nat) (acc : List S23), b.length ≤ i + m → i ≤ b.length → 4 * acc.length = i → m + 100 ≤ k →
    ∃ xs : List S23, code_Lines.l0 k b acc (i : Int) = some (acc ++ xs, ((i + 4 * xs.length : Nat) : Int)) ∧ (∀ x ∈ xs, okS x = true ∧ nS x) ∧ i + 4 * xs.length ≤ b.length ∧ encS xs = (b.drop i).take (4 * xs.length) ∧
      (i + 4 * xs.length + 4 ≤ b.length → code_Decode.f 80 (wAt b (i + 4 * xs.length)) = some noLine) := by
  intro m
  induction m with
  | zero =>
    intro i k acc hm hi ha hk
    obtain ⟨k, rfl⟩ : ∃ m, k = m + 1 := ⟨k - 1, by omega⟩
    refine ⟨[], ?_, by simp, by simpa using hi, rfl, fun h => by simp at h; omega⟩
    rw [lines_end hl hi (by omega)]; simp
  | succ m ih =>
    intro i k acc hm hi ha hk
    obtain ⟨k, rfl⟩ : ∃ m, k = m + 1 := ⟨k - 1, by omega⟩
    by_cases h4 : b.length < i + 4
    · refine ⟨[], ?_, by simp, by simpa using hi, rfl, fun h => by simp at h; omega⟩
      rw [lines_end hl hi h4]; simp
    · have h4 : i + 4 ≤ b.length := by omega
      have hw := wAt_bd h8 i
      rw [lines_step h8 hl h4 acc (by omega) k]
      obtain ⟨v, hv⟩ : ∃ v : Nat, wAt b i = (v : Int) := ⟨(wAt b i).toNat, by omega⟩
      rcases decode_cases (w := v) (by omega) 80 (by decide) with e | ⟨op, d, a, c, n, hm', hv', e⟩
      · refine ⟨[], ?_, by simp, by simpa using hi, rfl, fun _ => ?_⟩
        · rw [hv, at_rounds (code_Decode.mono (v : Int)) (show 80 ≤ k by omega) e, Option.bind_some]; simp
        · simpa [hv] using e
      · obtain ⟨xs, h1, h2, h3, h5, h6⟩ := ih (i + 4) k (acc ++ [(⟨2, op, d, a, c, n, (⟨#[]⟩ : ByteArray)⟩ : S23)]) (by omega) (by omega) (by simp only [List.length_append, List.length_cons, List.length_nil]; omega) (by omega)
        refine ⟨(⟨2, op, d, a, c, n, (⟨#[]⟩ : ByteArray)⟩ : S23) :: xs, ?_, ?_, ?_, ?_, ?_⟩
        · rw [hv, at_rounds (code_Decode.mono (v : Int)) (show 80 ≤ k by omega) e, Option.bind_some]
          simp only [if_true]
          rw [h1, List.append_assoc, List.length_cons, show i + 4 + 4 * xs.length = i + 4 * (xs.length + 1) by omega]
          rfl
        · intro x hx
          rcases List.mem_cons.1 hx with rfl | hx
          · exact ⟨okL_may.trans hm', may_32 hm'⟩
          · exact h2 x hx
        · rw [List.length_cons]; omega
        · rw [List.length_cons, take4 h4, encS_cons, h5]
          have : wS (⟨2, op, d, a, c, n, (⟨#[]⟩ : ByteArray)⟩ : S23) = wAt b i := by
            unfold wS wordOf
            rw [show okL 2 op d a c n (⟨#[]⟩ : ByteArray) = true from okL_may.trans hm', if_pos rfl, hv', hv]
          rw [this, by4_wAt h8]
        · rw [List.length_cons, show i + 4 * (xs.length + 1) = i + 4 + 4 * xs.length by omega]
          exact h6
theorem rd_pre (p q : List Int) (j : Nat) : rd (p ++ q) ((p.length + j : Nat) : Int) = rd q (j : Int) := by
  unfold rd
  rw [Int.toNat_natCast, Int.toNat_natCast, List.getD_eq_getElem?_getD, List.getD_eq_getElem?_getD, List.getElem?_append_right (by omega)]
  congr 2; omega
theorem by4_sum {w : Int} (h : 0 ≤ w ∧ w ≤ 4294967295) : w % 256 + 256 * (w / 256 % 256) + 65536 * (w / 65536 % 256) + 16777216 * (w / 16777216 % 256) = w := by omega
theorem by4_8 (w : Int) : Bytes8 (by4 w) := by
  intro x hx
  simp only [by4, List.mem_cons, List.not_mem_nil, or_false] at hx
  rcases hx with rfl | rfl | rfl | rfl <;> omega
theorem encS_8 (l : List S23) : Bytes8 (encS l) := by
  intro x hx
  obtain ⟨y, _, hy⟩ := List.mem_flatMap.1 hx
  exact by4_8 _ x hy
theorem okS_form {x : S23} (h : okS x = true) : x = ⟨2, x.f1, x.f2, x.f3, x.f4, x.f5, (⟨#[]⟩ : ByteArray)⟩ ∧ mayP x.f1 x.f2 x.f3 x.f4 x.f5 = true := by
  obtain ⟨f0, f1, f2, f3, f4, f5, f6⟩ := x
  unfold okS okL at h
  simp only [Bool.and_eq_true, beq_iff_eq] at h
  obtain ⟨⟨rfl, h⟩, hm⟩ := h
  refine ⟨?_, hm⟩
  have : f6 = (⟨#[]⟩ : ByteArray) := toList_inj.1 (h.trans empty_list.symm)
  rw [this]
theorem lines_of (t : List Int) (ht : t.length < 4) (ht8 : Bytes8 t) : ∀ (l : List S23) (p : List Int) (acc : List S23) (k : Nat), Bytes8 p → 4 * acc.length = p.length → p.length + 4 * l.length ≤ 900000 → (∀ x ∈ l, okS x = true) → l.length + 100 ≤ k →
    code_Lines.l0 k (p ++ (encS l ++ t)) acc (p.length : Int) = some (acc ++ l, ((p.length + 4 * l.length : Nat) : Int)) := by
  intro l
  induction l with
  | nil =>
    intro p acc k hp ha hl ho hk
    obtain ⟨k, rfl⟩ : ∃ m, k = m + 1 := ⟨k - 1, by omega⟩
    rw [lines_end (by simp [encS]; simp at hl; omega) (by simp) (by simp [encS]; omega)]
    simp
  | cons x l ih =>
    intro p acc k hp ha hl ho hk
    simp only [List.length_cons] at hl hk
    obtain ⟨k, rfl⟩ : ∃ m, k = m + 1 := ⟨k - 1, by omega⟩
    obtain ⟨hx, hm⟩ := okS_form (ho x (by simp))
    have h8 : Bytes8 (p ++ (encS (x :: l) ++ t)) := by
      intro y hy
      rcases List.mem_append.1 hy with h | h
      · exact hp y h
      · rcases List.mem_append.1 h with h | h
        · exact encS_8 _ y h
        · exact ht8 y h
    have hlen : (p ++ (encS (x :: l) ++ t)).length = p.length + 4 * (l.length + 1) + t.length := by
      rw [List.length_append, List.length_append, encS_len, List.length_cons]; omega
    have hw : wordL x.f1 x.f2 x.f3 x.f4 x.f5 < 4294967296 := word_lt hm
    have hwS : wS x = ((wordL x.f1 x.f2 x.f3 x.f4 x.f5 : Nat) : Int) := by
      have e := ho x (by simp)
      unfold okS at e
      unfold wS wordOf
      rw [e, if_pos rfl]
    have hat : wAt (p ++ (encS (x :: l) ++ t)) p.length = ((wordL x.f1 x.f2 x.f3 x.f4 x.f5 : Nat) : Int) := by
      unfold wAt
      have r0 := rd_pre p (encS (x :: l) ++ t) 0
      rw [Nat.add_zero] at r0
      rw [r0, rd_pre, rd_pre, rd_pre, encS_cons, hwS]
      exact by4_sum (by omega)
    rw [lines_step h8 (by omega) (by omega) acc (by omega) k, hat, decode_word hm k (by omega), Option.bind_some]
    simp only [if_true]
    have h2 := ih (p ++ by4 (wS x)) (acc ++ [x]) k (by
      intro y hy
      rcases List.mem_append.1 hy with h | h
      · exact hp y h
      · exact by4_8 _ y h) (by simp only [List.length_append, List.length_cons, List.length_nil, by4]; omega) (by simp only [List.length_append, List.length_cons, List.length_nil, by4]; omega) (fun y hy => ho y (by simp [hy])) (by omega)
    rw [List.length_append, show (by4 (wS x)).length = 4 from rfl] at h2
    rw [show p ++ (encS (x :: l) ++ t) = p ++ by4 (wS x) ++ (encS l ++ t) by rw [encS_cons]; simp only [List.append_assoc]]
    rw [← hx, h2, List.length_cons, List.append_assoc, show p.length + 4 + 4 * l.length = p.length + 4 * (l.length + 1) by omega]
    rfl
end Go.Proofs.Ytpoofggcodiaiaa.Pure
