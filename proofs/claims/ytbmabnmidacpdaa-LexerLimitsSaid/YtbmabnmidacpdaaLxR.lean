import Derived.Test.YtbmabnmidacpdaaProg
import Derived.Below
import Derived.Deep.Draws
import Derived.Deep.AppendLies
import Derived.Maps.AppendAt
import Derived.OwnWalk
import Derived.Laws.BytesArg
import Derived.Laws.MakeOwn
import Derived.Laws.OwnMore
import Derived.Deep.OwnRows
import Derived.Tactics
import Derived.Lib.ConvBytes
import Derived.Laws.Slices
import Derived.WalkKit
import Derived.KernelRfl
import Derived.RowKit3
import Derived.Deep.LoopGhost
import Derived.Deep.QuietTactic
import Derived.BigQuiet
import Derived.WideLaws
import Derived.Deep.DeepCutAuto
import Derived.Deep.CutBlock
import Derived.Deep.RegionHeld3
import Derived.Laws.Rows
import Derived.Lib.AppendStr
import Derived.ArgAppend
import Derived.Laws.IdiomCopy
import Derived.OrdersHeld
import Derived.Laws.BitsLemmas
import Derived.RowKit
import Derived.Test.YtbmabnmidacpdaaWWords
import Derived.Test.YtbmabnmidacpdaaWLast
import Derived.Test.YtbmabnmidacpdaaWTab
import Derived.Test.YtbmabnmidacpdaaWQPut
import Derived.Test.YtbmabnmidacpdaaWApart
import Derived.Test.YtbmabnmidacpdaaWArr
import Derived.Test.YtbmabnmidacpdaaWZeros
import Derived.Test.YtbmabnmidacpdaaWFoot
import Derived.Test.YtbmabnmidacpdaaWKept
import Derived.Test.YtbmabnmidacpdaaWShare
import Derived.Test.YtbmabnmidacpdaaWN
import Derived.Test.YtbmabnmidacpdaaWEqStruct
import Derived.Test.YtbmabnmidacpdaaWGuard
import Derived.Test.YtbmabnmidacpdaaWNEv
import Derived.Test.YtbmabnmidacpdaaWMore
import Derived.Test.YtbmabnmidacpdaaX1
import Derived.Test.YtbmabnmidacpdaaX2
import Derived.Test.YtbmabnmidacpdaaX3
import Derived.Test.YtbmabnmidacpdaaX4
import Derived.Test.YtbmabnmidacpdaaSh
import Derived.Test.YtbmabnmidacpdaaLxA
import Derived.Test.YtbmabnmidacpdaaLxB
import Derived.Test.YtbmabnmidacpdaaLxC
import Derived.Test.YtbmabnmidacpdaaLxD
import Derived.Test.YtbmabnmidacpdaaLxP
import Derived.Test.YtbmabnmidacpdaaHw
import Derived.Test.YtbmabnmidacpdaaLxE
import Derived.Test.YtbmabnmidacpdaaLxS
import Derived.Test.YtbmabnmidacpdaaLxT
import Derived.Test.YtbmabnmidacpdaaLxV
import Derived.Test.YtbmabnmidacpdaaLxU
import Derived.Test.YtbmabnmidacpdaaLxW
import Derived.Test.YtbmabnmidacpdaaLxX
import Derived.DataShut
import Derived.Deep.RegionLawGrows
import Derived.Deep.Upon
import Derived.Deep.MidRow
namespace Go.Proofs.Ytbmabnmidacpdaa.L
open Go.RowKit Go.Proofs.Ytbmabnmidacpdaa.X Go.Proofs.YtbmabnmidacpdaaW.PrintWords Go.Proofs.YtbmabnmidacpdaaW.PrintLast Go.Proofs.YtbmabnmidacpdaaW.PrintMore
attribute [local go_sem] max2_int min2_int max_two min_two max_three min_three max_four min_four   -- for this text's walks alone
set_option linter.unusedVariables false
set_option linter.unusedSimpArgs false
/-! Pieces of a text: what lies between two tokens is blanks and comments alone. -/
theorem occ_take {s sub : List UInt8} {n j : Nat} (h : Lib.occAt (s.take n) sub j = true) : Lib.occAt s sub j = true := by
  unfold Lib.occAt at *
  rw [List.isPrefixOf_iff_prefix] at *
  refine h.trans ?_
  rw [List.drop_take]
  exact List.take_prefix _ _
theorem index_take {s sub : List UInt8} {i n : Nat} (h : Lib.index s sub = (i : Int)) (hn : i + sub.length ≤ n) (hs : sub ≠ []) : Lib.index (s.take n) sub = (i : Int) := by
  rcases Lib.index_spec s sub with ⟨h1, _⟩ | ⟨k, h1, h2, h3, h4⟩
  · rw [h1] at h; omega
  · obtain rfl : k = i := by rw [h1] at h; omega
    have hp : sub <+: s.drop k := by
      have h5 := h3
      unfold Lib.occAt at h5
      exact List.isPrefixOf_iff_prefix.1 h5
    have hl := hp.length_le
    rw [List.length_drop] at hl
    have hsl : 0 < sub.length := List.length_pos_iff.mpr hs
    refine Lib.index_first ?_ ?_ ?_
    · rw [List.length_take]; omega
    · unfold Lib.occAt
      rw [List.isPrefixOf_iff_prefix, List.drop_take]
      obtain ⟨t, ht⟩ := hp
      rw [← ht, List.take_append, List.take_of_length_le (by omega)]
      exact List.prefix_append _ _
    · intro j hj
      have h5 := h4 j hj
      rw [← Bool.not_eq_true]
      intro h6
      rw [occ_take h6] at h5
      cases h5
theorem hasPre_take {s p : List UInt8} {n : Nat} (h : p.length ≤ n) : Lib.hasPrefix (s.take n) p = Lib.hasPrefix s p := by
  unfold Lib.hasPrefix
  rw [Bool.eq_iff_iff, List.isPrefixOf_iff_prefix, List.isPrefixOf_iff_prefix]
  constructor
  · intro h2; exact h2.trans (List.take_prefix _ _)
  · rintro ⟨t, ht⟩
    rw [← ht, List.take_append, List.take_of_length_le h]
    exact List.prefix_append _ _
theorem iB_take : ∀ (l : List UInt8) (c : UInt8) (n : Nat), Lib.indexByte (l.take n) c = if Lib.indexByte l c < n then Lib.indexByte l c else -1
  | [], c, n => by
    rw [List.take_nil]
    show (-1 : Int) = if (-1 : Int) < n then -1 else -1
    split <;> rfl
  | b :: l, c, 0 => by
    have h := Lib.indexByte_ge (b :: l) c
    rw [List.take_zero]
    show (-1 : Int) = _
    split
    · omega
    · rfl
  | b :: l, c, n + 1 => by
    have ih := iB_take l c n
    have hg := Lib.indexByte_ge l c
    rw [List.take_succ_cons]
    unfold Lib.indexByte
    by_cases hb : (b == c) = true
    · rw [if_pos hb, if_pos hb, if_pos (by omega)]
    · rw [if_neg hb, if_neg hb, ih]
      by_cases h1 : Lib.indexByte l c < n
      · rw [if_pos h1]
        by_cases h2 : (Lib.indexByte l c == -1) = true
        · rw [if_pos h2, if_pos (by omega)]
        · rw [if_neg h2, if_pos (by omega)]
      · rw [if_neg h1]
        have h2 : ¬ (Lib.indexByte l c == -1) = true := by rw [beq_iff_eq]; omega
        rw [if_pos (show ((-1 : Int) == -1) = true from rfl), if_neg h2, if_neg (by omega)]
theorem gap_take {l : List UInt8} {n : Nat} (h0 : 0 < gapL l) (hn : (gapL l).toNat ≤ n) : gapL (l.take n) = gapL l := by
  cases l with
  | nil => exact absurd h0 (by decide)
  | cons c r =>
    obtain ⟨n, rfl⟩ : ∃ m, n = m + 1 := ⟨n - 1, by omega⟩
    cases hb : blk c with
    | true => rw [List.take_succ_cons, gap_blk hb, gap_blk hb]
    | false =>
      have hg := gap_cons c r
      rw [if_neg (by rw [hb]; decide)] at hg
      have ht : (c :: r).take (n + 1) = c :: r.take n := rfl
      have hg2 := gap_cons c (r.take n)
      rw [if_neg (by rw [hb]; decide), ← ht] at hg2
      by_cases hp1 : Lib.hasPrefix (c :: r) [47, 47] = true
      · rw [if_pos hp1] at hg
        have hl2 : 2 ≤ (c :: r).length := (List.isPrefixOf_iff_prefix.1 hp1).length_le
        have hge := Lib.indexByte_ge (c :: r) 10
        have hc : c = 47 := by
          obtain ⟨t, ht⟩ := List.isPrefixOf_iff_prefix.1 hp1
          injection ht with ht _
          exact ht.symm
        have hi2 : Lib.indexByte (c :: r) 10 ≥ 0 → 2 ≤ Lib.indexByte (c :: r) 10 := by
          intro h
          obtain ⟨t, ht⟩ := List.isPrefixOf_iff_prefix.1 hp1
          obtain ⟨e, he⟩ := Int.eq_ofNat_of_zero_le h
          have h3 := (Lib.indexByte_some he).1
          rw [← ht] at h3
          match e, h3 with
          | 0, h3 => simp at h3
          | 1, h3 => simp at h3
          | e + 2, _ => omega
        have hn2 : 2 ≤ n + 1 := by
          split at hg <;> omega
        rw [hasPre_take (by simpa using hn2), if_pos hp1, iB_take] at hg2
        rw [hg2, hg]
        by_cases hi : 0 ≤ Lib.indexByte (c :: r) 10
        · rw [if_pos hi] at hg
          rw [if_pos hi]
          by_cases hlt : Lib.indexByte (c :: r) 10 < ((n + 1 : Nat) : Int)
          · rw [if_pos hlt, if_pos hi]
          · rw [if_neg hlt, if_neg (by decide), List.length_take]
            have hle := iB_lt (c :: r) 10
            rcases hle with hle | hle
            · omega
            · cases hle
        · rw [if_neg hi] at hg
          have hm : Lib.indexByte (c :: r) 10 = -1 := by omega
          have e : (if (-1 : Int) < ((n + 1 : Nat) : Int) then (-1 : Int) else -1) = -1 := by split <;> rfl
          rw [hm, e, if_neg (by decide), if_neg (by decide), List.length_take]
          omega
      · rw [if_neg hp1] at hg
        by_cases hp2 : Lib.hasPrefix (c :: r) [47, 42] = true
        · rw [if_pos hp2] at hg
          have hge := Lib.index_ge ((c :: r).drop 2) [42, 47]
          have hn4 : Lib.index ((c :: r).drop 2) [42, 47] + 4 ≤ ((n + 1 : Nat) : Int) ∧ 0 ≤ Lib.index ((c :: r).drop 2) [42, 47] := by
            split at hg
            · omega
            · omega
          obtain ⟨i, hi⟩ := Int.eq_ofNat_of_zero_le hn4.2
          rw [hasPre_take (by simp; omega), if_neg hp1, hasPre_take (by simp; omega), if_pos hp2, List.drop_take, index_take hi (by simp; omega) (by decide)] at hg2
          rw [hg2, hg, hi]
        · rw [if_neg hp2] at hg
          omega
/-- What is skipped holds no token. -/
theorem skip_take : ∀ (k : Nat) (l : List UInt8) (o n o2 : Nat), l.length < k → skP l o = ((o + n : Nat) : Int) → n ≤ l.length → lexP (l.take n) o2 = .ok [] := by
  intro k
  induction k with
  | zero => intro l o n o2 h; omega
  | succ k ih =>
    intro l o n o2 h hs hn
    have hb := gap_bd l
    by_cases h0 : gapL l < 0
    · rw [skP_err o h0] at hs; omega
    · by_cases h1 : 0 < gapL l
      · rw [skP_gap o h1] at hs
        obtain ⟨g, hg⟩ := Int.eq_ofNat_of_zero_le (show 0 ≤ gapL l by omega)
        rw [hg, Int.toNat_natCast] at hs
        rcases skP_lex _ (l.drop g) (o + g) (Nat.lt_succ_self _) with ⟨h2, _⟩ | ⟨m, h2, h3, _, _⟩
        · rw [h2] at hs; omega
        · rw [h2] at hs
          have hm : n = g + m := by omega
          rw [lexP_gap o2 (by rw [gap_take h1 (by rw [hg]; omega)]; exact h1), gap_take h1 (by rw [hg]; omega), hg, Int.toNat_natCast, List.drop_take]
          refine ih (l.drop g) (o + g) (n - g) (o2 + g) (by rw [List.length_drop]; omega) ?_ (by rw [List.length_drop]; omega)
          rw [h2]
          congr 1
          omega
      · rw [skP_end o (by omega)] at hs
        obtain rfl : n = 0 := by omega
        rfl
/-- The next token of a text, and what is ahead of it. -/
theorem lexP_next {l : List UInt8} {o : Nat} {t : T} {m : List T} (h : lexP l o = .ok (t :: m)) : ∃ n k : Nat, t.off = o + n ∧ n + k ≤ l.length ∧ 1 ≤ k ∧ t.tx = (l.drop n).take k ∧ t.tx.length = k ∧ lexP (l.take n) 0 = .ok [] ∧ tokL (l.drop n) = .ok t.kd k t.v ∧ gapL (l.drop n) = 0 ∧ lexP (l.drop (n + k)) (o + n + k) = .ok m := by
  rcases skP_lex _ l o (Nat.lt_succ_self _) with ⟨_, h2⟩ | ⟨n, h1, h2, h3, h4⟩
  · rw [h2] at h; cases h
  · rw [h4] at h
    by_cases h5 : l.drop n = []
    · rw [h5] at h; cases h
    · cases ht : tokL (l.drop n) with
      | err e => rw [lexP_terr _ h3 h5 ht] at h; cases h
      | ok kd k v =>
        rw [lexP_tok _ h3 h5 ht] at h
        have hk := tok_bd ht
        cases hr : lexP ((l.drop n).drop k) (o + n + k) with
        | err e2 o2 => rw [hr] at h; cases h
        | ok m2 =>
          rw [hr] at h
          injection h with h
          injection h with h6 h7
          subst h6
          subst h7
          rw [List.length_drop] at hk
          refine ⟨n, k, rfl, by omega, hk.1, rfl, by simp [List.length_take, List.length_drop]; omega, skip_take _ l o n 0 (Nat.lt_succ_self _) h1 h2, ht, h3, ?_⟩
          rw [List.drop_drop] at hr
          exact hr
theorem lexP_done : ∀ (k : Nat) (l : List UInt8) (o o2 : Nat), l.length < k → lexP l o = .ok [] → lexP l o2 = .ok [] := by
  intro k
  induction k with
  | zero => intro l o o2 h; omega
  | succ k ih =>
    intro l o o2 h he
    have hb := gap_bd l
    by_cases h0 : gapL l < 0
    · rw [lexP_err o h0] at he; cases he
    · by_cases h1 : 0 < gapL l
      · rw [lexP_gap o h1] at he
        rw [lexP_gap o2 h1]
        exact ih _ _ _ (by rw [List.length_drop]; omega) he
      · by_cases h2 : l = []
        · subst h2; rfl
        · cases ht : tokL l with
          | err e => rw [lexP_terr o (by omega) h2 ht] at he; cases he
          | ok kd n v =>
            rw [lexP_tok o (by omega) h2 ht] at he
            cases hr : lexP (l.drop n) (o + n) with
            | err e2 o2 => rw [hr] at he; cases he
            | ok m2 => rw [hr] at he; cases he

end Go.Proofs.Ytbmabnmidacpdaa.L
