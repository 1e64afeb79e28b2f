import Derived.Test.YtbmabnmidacpdaaProg
import Derived.Below
import Derived.Deep.Draws
import Derived.Deep.AppendLies
import Derived.Maps.AppendAt
import Derived.OwnWalk
import Derived.Laws.BytesArg
import Derived.Laws.MakeOwn
import Derived.Laws.OwnMore
import Derived.Deep.OwnRows
import Derived.Tactics
import Derived.Lib.ConvBytes
import Derived.Laws.Slices
import Derived.WalkKit
import Derived.KernelRfl
import Derived.RowKit3
import Derived.IntWalk
import Derived.Deep.LoopGhost
import Derived.Deep.QuietTactic
import Derived.BigQuiet
import Derived.WideLaws
import Derived.Deep.DeepCutAuto
import Derived.Deep.CutBlock
import Derived.Deep.RegionHeld3
import Derived.Laws.Rows
import Derived.Lib.AppendStr
import Derived.ArgAppend
import Derived.Laws.IdiomCopy
import Derived.OrdersHeld
import Derived.Laws.BitsLemmas
import Derived.RowKit
import Derived.Test.YtbmabnmidacpdaaWWords
import Derived.Test.YtbmabnmidacpdaaWLast
import Derived.Test.YtbmabnmidacpdaaWTab
import Derived.Test.YtbmabnmidacpdaaWQPut
import Derived.Test.YtbmabnmidacpdaaWApart
import Derived.Test.YtbmabnmidacpdaaWArr
import Derived.Test.YtbmabnmidacpdaaWZeros
import Derived.Test.YtbmabnmidacpdaaWFoot
import Derived.Test.YtbmabnmidacpdaaWKept
import Derived.Test.YtbmabnmidacpdaaWShare
import Derived.Test.YtbmabnmidacpdaaWN
import Derived.Test.YtbmabnmidacpdaaWEqStruct
import Derived.Test.YtbmabnmidacpdaaWGuard
import Derived.Test.YtbmabnmidacpdaaWNEv
import Derived.Test.YtbmabnmidacpdaaWMore
import Derived.Test.YtbmabnmidacpdaaX1
import Derived.Test.YtbmabnmidacpdaaX2
import Derived.Test.YtbmabnmidacpdaaX3
import Derived.Test.YtbmabnmidacpdaaX4
import Derived.Test.YtbmabnmidacpdaaSh
import Derived.Test.YtbmabnmidacpdaaLxA
import Derived.Test.YtbmabnmidacpdaaLxB
import Derived.Test.YtbmabnmidacpdaaLxC
import Derived.Test.YtbmabnmidacpdaaLxD
import Derived.Test.YtbmabnmidacpdaaLxP
import Derived.Test.YtbmabnmidacpdaaHw
import Derived.Test.YtbmabnmidacpdaaLxE
import Derived.Test.YtbmabnmidacpdaaLxS
import Derived.Test.YtbmabnmidacpdaaLxT
import Derived.Test.YtbmabnmidacpdaaLxV
import Derived.Test.YtbmabnmidacpdaaLxU
import Derived.Test.YtbmabnmidacpdaaLxW
import Derived.Test.YtbmabnmidacpdaaLxX
import Derived.Test.YtbmabnmidacpdaaLxR
import Derived.Test.YtbmabnmidacpdaaLxZ
import Derived.Test.YtbmabnmidacpdaaLyA
import Derived.Test.YtbmabnmidacpdaaLyB
import Derived.Lib.Builder

import Derived.Lib.UnsafeStr
import Derived.Laws.Externs
import Derived.DataShut
import Derived.Deep.RegionLawGrows
import Derived.Deep.Upon
import Derived.Deep.MidRow
namespace Go.Proofs.Ytbmabnmidacpdaa.L
open Go.RowKit Go.Proofs.Ytbmabnmidacpdaa.X Go.Proofs.YtbmabnmidacpdaaW.PrintWords Go.Proofs.YtbmabnmidacpdaaW.PrintLast Go.Proofs.YtbmabnmidacpdaaW.PrintMore
attribute [local go_sem] max2_int min2_int max_two min_two max_three min_three max_four min_four   -- for this text's walks alone
set_option linter.unusedVariables false
set_option linter.unusedSimpArgs false
/-! Long names, many signs, decimal numbers. -/
theorem gap_no47 {c : UInt8} (r : List UInt8) (h : blk c = false) (h2 : c ≠ 47) : gapL (c :: r) = 0 := by
  refine gap_none h ?_ ?_
  · cases hp : Lib.hasPrefix (c :: r) [47, 47] with
    | false => rfl
    | true =>
      obtain ⟨t, hx⟩ := List.isPrefixOf_iff_prefix.1 hp
      injection hx with hx _
      exact absurd hx.symm h2
  · cases hp : Lib.hasPrefix (c :: r) [47, 42] with
    | false => rfl
    | true =>
      obtain ⟨t, hx⟩ := List.isPrefixOf_iff_prefix.1 hp
      injection hx with hx _
      exact absurd hx.symm h2
theorem words_no120 : ∀ l ∈ wordsL, l.head? ≠ some 120 := by decide
theorem xs_tok (n : Nat) : tokL (List.replicate (n + 1) 120) = if 64 < n + 1 then .err 2 else .ok 1 (n + 1) 0 := by
  have hid : idL (List.replicate (n + 1) 120) = n + 1 := by
    have h := idL_app (r := []) (.inl rfl) (List.replicate (n + 1) 120) (by rw [List.all_eq_true]; intro x hx; rw [(List.mem_replicate.1 hx).2]; rfl)
    rw [List.append_nil, List.length_replicate] at h
    exact h
  refine tok_name (c := 120) hid (by omega) rfl rfl (fun hm => ?_)
  rw [List.take_of_length_le (by rw [List.length_replicate]; exact Nat.le_refl _)] at hm
  exact words_no120 _ hm rfl
theorem xs_small (n : Nat) (h : n + 1 ≤ 64) : ∃ L : List T, lexA (List.replicate (n + 1) 120) = .ok L ∧ L.length = 1 ∧ ∀ t ∈ L, t.kd = 1 := by
  refine ⟨[⟨1, (List.replicate (n + 1) 120).take (n + 1), 0, 0⟩], ?_, rfl, by intro t ht; obtain rfl := List.mem_singleton.1 ht; rfl⟩
  have ht := xs_tok n
  rw [if_neg (by omega)] at ht
  rw [lexA_eq, if_neg (by rw [List.length_replicate]; omega), lexP_tok (l := List.replicate (n + 1) 120) 0 (gap_no47 (c := 120) (List.replicate n 120) rfl (by decide)) (by simp) ht, List.drop_of_length_le (by rw [List.length_replicate]; exact Nat.le_refl _), lexP_nil]
  rfl
theorem xs_big (n : Nat) (h : 64 < n + 1) : lexA (List.replicate (n + 1) 120) = .err 2 0 := by
  rw [lexA_eq]
  split
  · rfl
  · have ht := xs_tok n
    rw [if_pos h] at ht
    rw [lexP_terr (l := List.replicate (n + 1) 120) 0 (gap_no47 (c := 120) (List.replicate n 120) rfl (by decide)) (by simp) ht]
theorem twos_no59 : ∀ l ∈ twos, l.head? ≠ some 59 := by decide
theorem semi_tok (r : List UInt8) : tokL (59 :: r) = .ok 4 1 0 := by
  have hid : idL (59 :: r) = 0 := by rw [idL_cons, if_neg (by decide)]
  have hs : signL (59 :: r) = 1 := by
    unfold signL
    rw [if_neg (fun hm => twos_no59 _ hm rfl)]
    rfl
  rw [tok_sign hid, hs, if_neg (by decide)]
theorem semis : ∀ (n o : Nat), ∃ L : List T, lexP (List.replicate n 59) o = .ok L ∧ L.length = n
  | 0, o => ⟨[], rfl, rfl⟩
  | n + 1, o => by
    obtain ⟨L, h, hl⟩ := semis n (o + 1)
    refine ⟨⟨4, [59], 0, o⟩ :: L, ?_, by rw [List.length_cons, hl]⟩
    rw [List.replicate_succ, lexP_tok o (gap_no47 _ rfl (by decide)) (by simp) (semi_tok _), show (59 :: List.replicate n (59 : UInt8)).drop 1 = List.replicate n 59 from rfl, h]
    rfl
theorem numV_from (s : List UInt8) : ∀ a : Int, s.foldl (fun n c => 10 * n + ((c.toNat : Int) - 48)) a = a * 10 ^ s.length + numV s := by
  induction s with
  | nil => intro a; simp [numV]
  | cons c s ih =>
    intro a
    have h1 := ih (10 * a + ((c.toNat : Int) - 48))
    have h2 := ih (10 * 0 + ((c.toNat : Int) - 48))
    show s.foldl _ (10 * a + ((c.toNat : Int) - 48)) = a * 10 ^ (s.length + 1) + s.foldl _ (10 * 0 + ((c.toNat : Int) - 48))
    rw [h1, h2, Int.add_mul, Int.pow_succ]
    simp only [Int.mul_zero, Int.zero_add]
    rw [Int.mul_comm 10 a, Int.mul_assoc, Int.mul_comm 10]
    omega
theorem numV_cons (c : UInt8) (s : List UInt8) : numV (c :: s) = ((c.toNat : Int) - 48) * 10 ^ s.length + numV s := by
  have h := numV_from s (10 * 0 + ((c.toNat : Int) - 48))
  have e : (10 * 0 + ((c.toNat : Int) - 48)) = (c.toNat : Int) - 48 := by omega
  show s.foldl _ (10 * 0 + ((c.toNat : Int) - 48)) = _
  rw [h, e]
/-- What the loop over a number's digits holds: x is left of k, s is written. -/
structure DG (k : Nat) (x : Nat) (s : List UInt8) : Prop where
  val : (k : Int) = (x : Int) * 10 ^ s.length + numV s
  len : s.length ≤ 10
  room : x < 10 ^ (10 - s.length)
  all : s.all dig = true
  head : x = 0 → s.head? ≠ some 48
def dgt (x : Nat) : UInt8 := UInt8.ofNat (48 + x % 10)
theorem dgt_toNat (x : Nat) : (dgt x).toNat = 48 + x % 10 := by
  unfold dgt
  rw [UInt8.toNat_ofNat']
  omega
theorem DG.start (k : Nat) (h : k < 4294967296) : DG k k [] := ⟨by simp [numV], by simp, Nat.lt_trans h (by decide), rfl, by simp⟩
theorem DG.next {k x : Nat} {s : List UInt8} (h : DG k x s) (hx : 0 < x) : DG k (x / 10) (dgt x :: s) := by
  have hl : s.length < 10 := by
    rcases Nat.lt_or_ge s.length 10 with h1 | h1
    · exact h1
    · have h2 := h.room
      rw [Nat.sub_eq_zero_of_le h1, Nat.pow_zero] at h2
      omega
  refine ⟨?_, by rw [List.length_cons]; omega, ?_, ?_, ?_⟩
  · rw [numV_cons, List.length_cons, h.val, dgt_toNat, Int.pow_succ]
    have e1 : ((48 + x % 10 : Nat) : Int) - 48 = ((x % 10 : Nat) : Int) := by omega
    have e2 : (x : Int) = ((x / 10 : Nat) : Int) * 10 + ((x % 10 : Nat) : Int) := by omega
    rw [e1]
    generalize ((x / 10 : Nat) : Int) = q at e2 ⊢
    generalize ((x % 10 : Nat) : Int) = r at e2 ⊢
    rw [e2, Int.add_mul, Int.mul_assoc, Int.mul_comm 10]
    omega
  · rw [List.length_cons]
    have h2 := h.room
    obtain ⟨m, hm⟩ : ∃ m, 10 - s.length = m + 1 := ⟨9 - s.length, by omega⟩
    rw [hm, Nat.pow_succ] at h2
    rw [show 10 - (s.length + 1) = m by omega]
    exact Nat.div_lt_of_lt_mul (by rw [Nat.mul_comm]; exact h2)
  · rw [List.all_cons, h.all, Bool.and_true]
    unfold dig
    rw [dgt_toNat]
    simp
    omega
  · intro h0 h1
    have h2 : dgt x = 48 := by simpa using h1
    have h3 := dgt_toNat x
    rw [h2] at h3
    have h4 : (48 : UInt8).toNat = 48 := rfl
    omega
theorem dig_idc {c : UInt8} (h : dig c = true) : idc c = true := by unfold idc; rw [h, Bool.or_true]
theorem num_tok {s : List UInt8} (h0 : s ≠ []) (ha : s.all dig = true) : tokL s = match numL s with
    | none => .err 11
    | some v => .ok 2 s.length v := by
  have hid : idL s = s.length := by
    have h := idL_app (r := []) (.inl rfl) s (by rw [List.all_eq_true] at ha ⊢; exact fun x hx => dig_idc (ha x hx))
    rw [List.append_nil] at h
    exact h
  obtain ⟨c, q, rfl⟩ : ∃ c q, s = c :: q := by
    cases s with
    | nil => exact absurd rfl h0
    | cons c q => exact ⟨c, q, rfl⟩
  have hc : dig c = true := by rw [List.all_cons, Bool.and_eq_true] at ha; exact ha.1
  have ht : (c :: q).take (c :: q).length = c :: q := List.take_of_length_le (Nat.le_refl _)
  cases hn : numL (c :: q) with
  | none => exact tok_nonum (c := c) hid (by simp) rfl hc (by rw [ht]; exact hn)
  | some v => exact tok_num (c := c) hid (by simp) rfl hc (by rw [ht]; exact hn)
theorem num_lex {s : List UInt8} (h0 : s ≠ []) (ha : s.all dig = true) (hl : s.length ≤ 10) : lexA s = match numL s with
    | none => .err 11 0
    | some v => .ok [⟨2, s, v, 0⟩] := by
  have hg : gapL s = 0 := by
    cases s with
    | nil => rfl
    | cons c q =>
      have hc : dig c = true := by rw [List.all_cons, Bool.and_eq_true] at ha; exact ha.1
      exact gap_no47 q (idc_blk (dig_idc hc)) (idc_47 (dig_idc hc))
  have ht := num_tok h0 ha
  rw [lexA_eq, if_neg (by omega)]
  cases hn : numL s with
  | none => rw [hn] at ht; rw [lexP_terr 0 hg h0 ht]
  | some v =>
    rw [hn] at ht
    rw [lexP_tok 0 hg h0 ht, List.drop_of_length_le (Nat.le_refl _), List.take_of_length_le (Nat.le_refl _), lexP_nil]
    rfl
/-- The digits of k, or one nought. -/
theorem DG.lex {k : Nat} {s : List UInt8} (h : DG k 0 s) : lexA (if s = [] then [48] else s) = if 2147483647 < k then .err 11 0 else .ok [⟨2, if s = [] then [48] else s, (k : Int), 0⟩] := by
  have hv : numV (if s = [] then [48] else s) = (k : Int) := by
    have h1 := h.val
    rw [show ((0 : Nat) : Int) = 0 from rfl, Int.zero_mul, Int.zero_add] at h1
    rw [h1]
    split
    · rename_i e; subst e; rfl
    · rfl
  have ha : (if s = [] then [48] else s).all dig = true := by
    split
    · rfl
    · exact h.all
  have hl : (if s = [] then [48] else s).length ≤ 10 := by
    split
    · decide
    · exact h.len
  have hh : (if s = [] then [48] else s).length ≤ 1 ∨ (if s = [] then [48] else s).head? ≠ some 48 := by
    split
    · exact .inl (by decide)
    · exact .inr (h.head rfl)
  have h0 : (if s = [] then [48] else s) ≠ [] := by
    split
    · simp
    · assumption
  rw [num_lex h0 ha hl]
  unfold numL
  by_cases hk : 2147483647 < k
  · rw [if_pos hk, if_neg (by intro hx; have h1 := hx.2.2.2; rw [hv] at h1; omega)]
  · rw [if_neg hk, if_pos ⟨hl, hh, ha, by rw [hv]; omega⟩, hv]

end Go.Proofs.Ytbmabnmidacpdaa.L
