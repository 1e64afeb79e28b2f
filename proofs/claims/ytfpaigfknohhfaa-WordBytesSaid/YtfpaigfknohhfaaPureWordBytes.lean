/- Any word's bytes, behind any others, are read as it: the law's calls answer as it asks. -/
import Derived.Test.YtfpaigfknohhfaaBy
import Derived.Test.YtfpaigfknohhfaaWdB
import Derived.Test.YtfpaigfknohhfaaX15
set_option linter.unusedVariables false
namespace Go.Proofs.Ytfpaigfknohhfaa.Pure
open Go.RowKit Go.Proofs.Ytfpaigfknohhfaa.X Go.Proofs.YtfpaigfknohhfaaW.PrintWords Go.Proofs.YtfpaigfknohhfaaW.PrintLast

theorem wb_or {x y : Nat} (hx : x < 4294967296) (hy : y < 4294967296) : Go.bits .or .u32 (x : Int) (y : Int) = ((x ||| y : Nat) : Int) := by
  show IntKind.u32.wrap (((BitVec.ofInt 32 (x : Int) ||| BitVec.ofInt 32 (y : Int)).toNat : Nat) : Int) = _
  have hl : x ||| y < 4294967296 := Nat.or_lt_two_pow (n := 32) hx hy
  rw [BitVec.toNat_or, ofInt_toNat, ofInt_toNat, IntKind.wrap_u32, show ((x : Int) % 4294967296).toNat = x from by omega, show ((y : Int) % 4294967296).toNat = y from by omega]
  omega
theorem j4 {j : Nat} (h : j < 4) : j = 0 ∨ j = 1 ∨ j = 2 ∨ j = 3 := by omega
theorem wb_shl {b : Int} (hb : 0 ≤ b ∧ b ≤ 255) (j : Nat) (hj : j < 4) : shl .u32 (b % 4294967296) ((8 * j : Nat) : Int) = ((b.toNat * 2 ^ (8 * j) : Nat) : Int) := by
  unfold shl
  rw [Nat.min_eq_left (by simp [IntKind.bits]; omega), IntKind.wrap_u32, Int.toNat_natCast]
  rcases j4 hj with rfl | rfl | rfl | rfl
  · rw [show (2 : Int) ^ (8 * 0) = 1 from rfl, show (2 : Nat) ^ (8 * 0) = 1 from rfl]; omega
  · rw [show (2 : Int) ^ (8 * 1) = 256 from rfl, show (2 : Nat) ^ (8 * 1) = 256 from rfl]; omega
  · rw [show (2 : Int) ^ (8 * 2) = 65536 from rfl, show (2 : Nat) ^ (8 * 2) = 65536 from rfl]; omega
  · rw [show (2 : Int) ^ (8 * 3) = 16777216 from rfl, show (2 : Nat) ^ (8 * 3) = 16777216 from rfl]; omega
theorem get_step {l : List Int} (h8 : Bytes8 l) {p : Nat} (hl : l.length ≤ 1000000) (hp : p + 4 ≤ l.length) (j : Nat) (hj : j < 4) (acc : Nat) (ha : acc < 2 ^ (8 * j)) (k : Nat) :
    word_Get.l0 (k + 1) l (p : Int) (acc : Int) (j : Int) = word_Get.l0 k l (p : Int) ((acc + (rd l ((p + j : Nat) : Int)).toNat * 2 ^ (8 * j) : Nat) : Int) ((j + 1 : Nat) : Int) := by
  have hr := rd_8 h8 ((p + j : Nat) : Int)
  have e1 : wrap64 ((p : Int) + (j : Int)) = ((p + j : Nat) : Int) := by unfold wrap64; omega
  have e2 : wrap64 (8 * (j : Int)) = ((8 * j : Nat) : Int) := by unfold wrap64; omega
  have e3 : wrap64 ((j : Int) + 1) = ((j + 1 : Nat) : Int) := by unfold wrap64; omega
  have hb : (rd l ((p + j : Nat) : Int)).toNat < 256 := by omega
  have hs : (rd l ((p + j : Nat) : Int)).toNat * 2 ^ (8 * j) < 4294967296 ∧ 2 ^ (8 * j) ≤ 4294967296 := by
    rcases j4 hj with rfl | rfl | rfl | rfl
    · rw [show (2 : Nat) ^ (8 * 0) = 1 from rfl]; omega
    · rw [show (2 : Nat) ^ (8 * 1) = 256 from rfl]; omega
    · rw [show (2 : Nat) ^ (8 * 2) = 65536 from rfl]; omega
    · rw [show (2 : Nat) ^ (8 * 3) = 16777216 from rfl]; omega
  have ho : acc ||| (rd l ((p + j : Nat) : Int)).toNat * 2 ^ (8 * j) = acc + (rd l ((p + j : Nat) : Int)).toNat * 2 ^ (8 * j) := by
    rw [Nat.or_comm, Nat.mul_comm, ← Nat.two_pow_add_eq_or_of_lt ha, Nat.add_comm]
  have t1 : (j : Int) < 4 := by omega
  have t2 : (0 : Int) ≤ ((p + j : Nat) : Int) := by omega
  have t3 : ((p + j : Nat) : Int) < (l.length : Int) := by omega
  have t4 : (0 : Int) ≤ ((8 * j : Nat) : Int) := by omega
  rw [word_Get.l0, if_pos t1, e1, if_pos t2, if_pos t3, e2, if_pos t4, e3, wb_shl hr j hj, wb_or (by omega) hs.1, ho]
def wVal (l : List Int) (p : Nat) : Int := rd l (p : Int) + 256 * rd l ((p + 1 : Nat) : Int) + 65536 * rd l ((p + 2 : Nat) : Int) + 16777216 * rd l ((p + 3 : Nat) : Int)
theorem wVal_bd {l : List Int} (h8 : Bytes8 l) (p : Nat) : 0 ≤ wVal l p ∧ wVal l p ≤ 4294967295 := by
  have h0 := rd_8 h8 (p : Int); have h1 := rd_8 h8 ((p + 1 : Nat) : Int); have h2 := rd_8 h8 ((p + 2 : Nat) : Int); have h3 := rd_8 h8 ((p + 3 : Nat) : Int)
  unfold wVal; omega
theorem get_is {l : List Int} (h8 : Bytes8 l) (hl : l.length ≤ 1000000) (p : Nat) (hp : p + 4 ≤ l.length) (k : Nat) : word_Get.f (k + 6) l (p : Int) = some (wrap32 (wVal l p), true) := by
  have e : wrap64 ((l.length : Int) - 4) = (l.length : Int) - 4 := by unfold wrap64; omega
  have h0 := rd_8 h8 (p : Int); have h1 := rd_8 h8 ((p + 1 : Nat) : Int); have h2 := rd_8 h8 ((p + 2 : Nat) : Int); have h3 := rd_8 h8 ((p + 3 : Nat) : Int)
  have s0 := get_step h8 hl hp 0 (by decide) 0 (by decide) (k + 4)
  rw [show (2 : Nat) ^ (8 * 0) = 1 from rfl, Nat.add_zero] at s0
  have s1 := get_step h8 hl hp 1 (by decide) (0 + (rd l (p : Int)).toNat * 1) (by rw [show (2 : Nat) ^ (8 * 1) = 256 from rfl]; omega) (k + 3)
  rw [show (2 : Nat) ^ (8 * 1) = 256 from rfl] at s1
  have s2 := get_step h8 hl hp 2 (by decide) (0 + (rd l (p : Int)).toNat * 1 + (rd l ((p + 1 : Nat) : Int)).toNat * 256) (by rw [show (2 : Nat) ^ (8 * 2) = 65536 from rfl]; omega) (k + 2)
  rw [show (2 : Nat) ^ (8 * 2) = 65536 from rfl] at s2
  have s3 := get_step h8 hl hp 3 (by decide) (0 + (rd l (p : Int)).toNat * 1 + (rd l ((p + 1 : Nat) : Int)).toNat * 256 + (rd l ((p + 2 : Nat) : Int)).toNat * 65536) (by rw [show (2 : Nat) ^ (8 * 3) = 16777216 from rfl]; omega) (k + 1)
  rw [show (2 : Nat) ^ (8 * 3) = 16777216 from rfl] at s3
  unfold word_Get.f
  rw [if_neg (by omega), e, show decide ((p : Int) > (l.length : Int) - 4) = false by simp only [decide_eq_false_iff_not]; omega]
  rw [word_Get.j0]
  simp only [Bool.false_eq_true, if_false]
  have z0 : word_Get.l0 (k + 5) l (p : Int) 0 0 = word_Get.l0 (k + 3 + 1) l (p : Int) ((0 + (rd l (p : Int)).toNat * 1 : Nat) : Int) ((1 : Nat) : Int) := s0
  have z1 : _ = word_Get.l0 (k + 2 + 1) l (p : Int) ((0 + (rd l (p : Int)).toNat * 1 + (rd l ((p + 1 : Nat) : Int)).toNat * 256 : Nat) : Int) ((2 : Nat) : Int) := s1
  have z2 : _ = word_Get.l0 (k + 1 + 1) l (p : Int) ((0 + (rd l (p : Int)).toNat * 1 + (rd l ((p + 1 : Nat) : Int)).toNat * 256 + (rd l ((p + 2 : Nat) : Int)).toNat * 65536 : Nat) : Int) ((3 : Nat) : Int) := s2
  have z3 : _ = word_Get.l0 (k + 1) l (p : Int) ((0 + (rd l (p : Int)).toNat * 1 + (rd l ((p + 1 : Nat) : Int)).toNat * 256 + (rd l ((p + 2 : Nat) : Int)).toNat * 65536 + (rd l ((p + 3 : Nat) : Int)).toNat * 16777216 : Nat) : Int) ((4 : Nat) : Int) := s3
  rw [z0, z1, z2, z3, word_Get.l0, if_neg (by decide)]
  have ev : ((0 + (rd l (p : Int)).toNat * 1 + (rd l ((p + 1 : Nat) : Int)).toNat * 256 + (rd l ((p + 2 : Nat) : Int)).toNat * 65536 + (rd l ((p + 3 : Nat) : Int)).toNat * 16777216 : Nat) : Int) = wVal l p := by unfold wVal; omega
  rw [ev]
theorem get_no {l : List Int} (hl : l.length ≤ 1000000) (a : Int) (h : ¬ (0 ≤ a ∧ a ≤ (l.length : Int) - 4)) (k : Nat) : word_Get.f (k + 1) l a = some (0, false) := by
  have e : wrap64 ((l.length : Int) - 4) = (l.length : Int) - 4 := by unfold wrap64; omega
  unfold word_Get.f
  by_cases h0 : a < 0
  · rw [if_pos h0, word_Get.j0, if_pos rfl]
  · rw [if_neg h0, e, show decide (a > (l.length : Int) - 4) = true by simp only [decide_eq_true_eq]; omega, word_Get.j0, if_pos rfl]
def four (w : Int) : List Int := [w % 256, w / 256 % 256, w / 65536 % 256, w / 16777216 % 256]
theorem refput_is {a : Int} (h : -2147483648 ≤ a ∧ a ≤ 2147483647) : brazierref01_Put.f a = some (four (a % 4294967296)) := by
  have hb : brazierref01_bits.f a = some (a % 4294967296) := by
    unfold brazierref01_bits.f
    rw [w64 (n := a) (by omega) (by omega)]
    by_cases h0 : a < 0
    · rw [if_pos h0, w64 (by omega) (by omega)]; congr 1; omega
    · rw [if_neg h0]; congr 1; omega
  have h0 : 0 ≤ a % 4294967296 := by omega
  have h1 : a % 4294967296 < 4294967296 := by omega
  unfold brazierref01_Put.f four
  rw [hb, Option.bind_some]
  generalize a % 4294967296 = u at h0 h1
  rw [tmod_nn h0, tdiv_nn h0, tdiv_nn h0, tdiv_nn h0, w64 (n := u / 256) (by omega) (by omega), w64 (n := u / 65536) (by omega) (by omega), w64 (n := u / 16777216) (by omega) (by omega), tmod_nn (by omega), tmod_nn (by omega)]
  rw [show u % 256 % 256 = u % 256 by omega, show u / 256 % 256 % 256 = u / 256 % 256 by omega, show u / 65536 % 256 % 256 = u / 65536 % 256 by omega]
theorem four_8 (w : Int) : Bytes8 (four w) := by
  intro x hx
  simp only [four, List.mem_cons, List.not_mem_nil, or_false] at hx
  rcases hx with rfl | rfl | rfl | rfl <;> omega
theorem rd_pre (p q : List Int) (j : Nat) : rd (p ++ q) ((p.length + j : Nat) : Int) = rd q (j : Int) := by
  unfold rd
  rw [Int.toNat_natCast, Int.toNat_natCast, List.getD_eq_getElem?_getD, List.getD_eq_getElem?_getD, List.getElem?_append_right (by omega)]
  congr 2; omega
theorem wVal_four (b : List Int) {w : Int} (h : 0 ≤ w ∧ w ≤ 4294967295) : wVal (b ++ four w) b.length = w := by
  have r0 := rd_pre b (four w) 0
  rw [Nat.add_zero] at r0
  unfold wVal
  rw [r0, rd_pre, rd_pre, rd_pre]
  show w % 256 + 256 * (w / 256 % 256) + 65536 * (w / 65536 % 256) + 16777216 * (w / 16777216 % 256) = w
  omega
theorem four_wVal {b : List Int} (h8 : Bytes8 b) {i : Nat} (h : i + 4 ≤ b.length) : four (wVal b i) = (b.drop i).take 4 := by
  have h0 := rd_8 h8 (i : Int); have h1 := rd_8 h8 ((i + 1 : Nat) : Int); have h2 := rd_8 h8 ((i + 2 : Nat) : Int); have h3 := rd_8 h8 ((i + 3 : Nat) : Int)
  rw [List.drop_eq_getElem_cons (i := i) (by omega), List.drop_eq_getElem_cons (i := i + 1) (by omega), List.drop_eq_getElem_cons (i := i + 1 + 1) (by omega), List.drop_eq_getElem_cons (i := i + 1 + 1 + 1) (by omega)]
  rw [List.take_succ_cons, List.take_succ_cons, List.take_succ_cons, List.take_succ_cons, List.take_zero]
  rw [← rd_nat (l := b) (i := i) (by omega), ← rd_nat (l := b) (i := i + 1) (by omega), ← rd_nat (l := b) (i := i + 1 + 1) (by omega), ← rd_nat (l := b) (i := i + 1 + 1 + 1) (by omega)]
  show four (wVal b i) = [rd b (i : Int), rd b ((i + 1 : Nat) : Int), rd b ((i + 2 : Nat) : Int), rd b ((i + 3 : Nat) : Int)]
  unfold four wVal
  generalize rd b (i : Int) = x at *; generalize rd b ((i + 1 : Nat) : Int) = y at *; generalize rd b ((i + 2 : Nat) : Int) = z at *; generalize rd b ((i + 3 : Nat) : Int) = t at *
  rw [show (x + 256 * y + 65536 * z + 16777216 * t) % 256 = x by omega, show (x + 256 * y + 65536 * z + 16777216 * t) / 256 % 256 = y by omega, show (x + 256 * y + 65536 * z + 16777216 * t) / 65536 % 256 = z by omega, show (x + 256 * y + 65536 * z + 16777216 * t) / 16777216 % 256 = t by omega]
theorem WordBytes_is (l0 : List Int) (a1 a2 : Int) (h0 : ∀ x ∈ l0, (Lit.int .u8 x).wf = true) (h1 : (Lit.int .i32 a1).wf = true) (h2 : (Lit.int .i64 a2).wf = true) : brazierlaw01_WordBytes.f 60 l0 a1 a2 = some true := by
  have ha := wf32 h1
  have hm : 0 ≤ mn (l0.length : Int) 3000 ∧ mn (l0.length : Int) 3000 ≤ 3000 := by unfold mn; omega
  unfold brazierlaw01_WordBytes.f
  have h8 : Bytes8 (l0.take (mn (l0.length : Int) 3000).toNat) := fun x hx => wfu8 (h0 x (List.mem_of_mem_take hx))
  have hl : (l0.take (mn (l0.length : Int) 3000).toNat).length ≤ 3000 := by rw [List.length_take]; omega
  generalize l0.take (mn (l0.length : Int) 3000).toNat = b at h8 hl
  have hput : word_Put.f b a1 = some (b ++ four (a1 % 4294967296)) := by
    unfold word_Put.f four
    rw [if_pos (by omega), show a1 % 4294967296 / 16777216 % 256 = a1 % 4294967296 / 16777216 % 256 from rfl]
  have ho8 : Bytes8 (b ++ four (a1 % 4294967296)) := fun x hx => (List.mem_append.1 hx).elim (h8 x) (four_8 _ x)
  have hlen : (b ++ four (a1 % 4294967296)).length = b.length + 4 := by rw [List.length_append]; rfl
  rw [hput, Option.bind_some, refput_is ha, Option.bind_some, get_is ho8 (by omega) b.length (by omega) 54, Option.bind_some, wVal_four b (by omega), show wrap32 (a1 % 4294967296) = a1 by unfold wrap32; omega]
  by_cases hy : 0 ≤ a2 ∧ a2 ≤ (b.length : Int) - 4
  · obtain ⟨p, rfl⟩ : ∃ p : Nat, a2 = (p : Int) := ⟨a2.toNat, by omega⟩
    have hbd := wVal_bd h8 p
    rw [get_is h8 (by omega) p (by omega) 54, Option.bind_some]
    dsimp only
    rw [refput_is (wrap32_lo _), Option.bind_some, show wrap32 (wVal b p) % 4294967296 = wVal b p by rw [wrap32_mod]; omega, four_wVal h8 (by omega)]
    rw [if_pos]
    (repeat' apply And.intro) <;> first | rfl | trivial | exact (decide_eq_true hy).symm | exact (fun _ => by rw [Int.toNat_natCast]) | exact (fun h => by cases h) | exact at_rounds brazierlaw01_lives.mono (show 40 ≤ 60 by decide) lives_at
  · rw [get_no (by omega) a2 hy 59, Option.bind_some]
    dsimp only
    rw [refput_is (by decide), Option.bind_some, if_pos]
    (repeat' apply And.intro) <;> first | rfl | trivial | exact (decide_eq_false hy).symm | exact (fun _ => rfl) | exact (fun h => by cases h) | exact at_rounds brazierlaw01_lives.mono (show 40 ≤ 60 by decide) lives_at
end Go.Proofs.Ytfpaigfknohhfaa.Pure
