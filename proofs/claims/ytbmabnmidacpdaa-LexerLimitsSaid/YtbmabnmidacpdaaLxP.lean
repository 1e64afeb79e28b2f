import Derived.Test.YtbmabnmidacpdaaProg
import Derived.Below
import Derived.Deep.Draws
import Derived.Deep.AppendLies
import Derived.Maps.AppendAt
import Derived.OwnWalk
import Derived.Laws.BytesArg
import Derived.Laws.MakeOwn
import Derived.Laws.OwnMore
import Derived.Deep.OwnRows
import Derived.Tactics
import Derived.Lib.ConvBytes
import Derived.Laws.Slices
import Derived.WalkKit
import Derived.KernelRfl
import Derived.RowKit3
import Derived.Deep.LoopGhost
import Derived.Deep.QuietTactic
import Derived.BigQuiet
import Derived.WideLaws
import Derived.Deep.DeepCutAuto
import Derived.Deep.CutBlock
import Derived.Deep.RegionHeld3
import Derived.Laws.Rows
import Derived.Lib.AppendStr
import Derived.ArgAppend
import Derived.Laws.IdiomCopy
import Derived.OrdersHeld
import Derived.Laws.BitsLemmas
import Derived.RowKit
import Derived.Test.YtbmabnmidacpdaaWWords
import Derived.Test.YtbmabnmidacpdaaWLast
import Derived.Test.YtbmabnmidacpdaaWTab
import Derived.Test.YtbmabnmidacpdaaWQPut
import Derived.Test.YtbmabnmidacpdaaWApart
import Derived.Test.YtbmabnmidacpdaaWArr
import Derived.Test.YtbmabnmidacpdaaWZeros
import Derived.Test.YtbmabnmidacpdaaWFoot
import Derived.Test.YtbmabnmidacpdaaWKept
import Derived.Test.YtbmabnmidacpdaaWShare
import Derived.Test.YtbmabnmidacpdaaWN
import Derived.Test.YtbmabnmidacpdaaWEqStruct
import Derived.Test.YtbmabnmidacpdaaWGuard
import Derived.Test.YtbmabnmidacpdaaWNEv
import Derived.Test.YtbmabnmidacpdaaWMore
import Derived.Test.YtbmabnmidacpdaaX1
import Derived.Test.YtbmabnmidacpdaaX2
import Derived.Test.YtbmabnmidacpdaaX3
import Derived.Test.YtbmabnmidacpdaaX4
import Derived.Test.YtbmabnmidacpdaaSh
import Derived.Test.YtbmabnmidacpdaaLxA
import Derived.Test.YtbmabnmidacpdaaLxB
import Derived.Test.YtbmabnmidacpdaaLxC
import Derived.Test.YtbmabnmidacpdaaLxD
import Derived.DataShut
import Derived.Deep.RegionLawGrows
import Derived.Deep.Upon
import Derived.Deep.MidRow
namespace Go.Proofs.Ytbmabnmidacpdaa.L
open Go.RowKit Go.Proofs.Ytbmabnmidacpdaa.X Go.Proofs.YtbmabnmidacpdaaW.PrintWords Go.Proofs.YtbmabnmidacpdaaW.PrintLast Go.Proofs.YtbmabnmidacpdaaW.PrintMore
attribute [local go_sem] max2_int min2_int max_two min_two max_three min_three max_four min_four   -- for this text's walks alone
set_option linter.unusedVariables false
set_option linter.unusedSimpArgs false
/-! The document's lexer without rounds. -/
theorem gap_nil : gapL [] = 0 := rfl
theorem lexG_fuel : ∀ (k k' : Nat) (l : List UInt8) (o : Nat), l.length < k → l.length < k' → lexG k l o = lexG k' l o := by
  intro k
  induction k with
  | zero => intro k' l o h; omega
  | succ k ih =>
    intro k' l o h h'
    cases k' with
    | zero => omega
    | succ k' =>
      unfold lexG
      have hb := gap_bd l
      split
      · rfl
      · split
        · exact ih k' _ _ (by rw [List.length_drop]; omega) (by rw [List.length_drop]; omega)
        · split
          · rfl
          · cases ht : tokL l with
            | err e => rfl
            | ok kd n v =>
              have h1 := tok_bd ht
              simp only
              rw [ih k' (l.drop n) (o + n) (by rw [List.length_drop]; omega) (by rw [List.length_drop]; omega)]
def lexP (l : List UInt8) (o : Nat) : R := lexG (l.length + 1) l o
theorem lexP_eq (l : List UInt8) (o : Nat) : lexP l o =
    if gapL l < 0 then .err 12 (o + l.length)
    else if 0 < gapL l then lexP (l.drop (gapL l).toNat) (o + (gapL l).toNat)
    else if l = [] then .ok []
    else match tokL l with
      | .err e => .err e o
      | .ok kd n v => R.cons ⟨kd, l.take n, v, o⟩ (lexP (l.drop n) (o + n)) := by
  have hb := gap_bd l
  unfold lexP
  conv => lhs; unfold lexG
  split
  · rfl
  · split
    · exact lexG_fuel _ _ _ _ (by rw [List.length_drop]; omega) (by rw [List.length_drop]; omega)
    · split
      · rfl
      · cases ht : tokL l with
        | err e => rfl
        | ok kd n v =>
          have h1 := tok_bd ht
          simp only
          rw [lexG_fuel l.length ((l.drop n).length + 1) (l.drop n) (o + n) (by rw [List.length_drop]; omega) (by omega)]
theorem lexP_err {l : List UInt8} (o : Nat) (h : gapL l < 0) : lexP l o = .err 12 (o + l.length) := by
  rw [lexP_eq, if_pos h]
theorem lexP_gap {l : List UInt8} (o : Nat) (h : 0 < gapL l) : lexP l o = lexP (l.drop (gapL l).toNat) (o + (gapL l).toNat) := by
  conv => lhs; rw [lexP_eq, if_neg (by omega), if_pos h]
theorem lexP_nil (o : Nat) : lexP [] o = .ok [] := rfl
theorem lexP_terr {l : List UInt8} (o : Nat) (h : gapL l = 0) (h0 : l ≠ []) {e : Int} (ht : tokL l = .err e) : lexP l o = .err e o := by
  rw [lexP_eq, if_neg (by omega), if_neg (by omega), if_neg h0, ht]
theorem lexP_tok {l : List UInt8} (o : Nat) (h : gapL l = 0) (h0 : l ≠ []) {kd v : Int} {n : Nat} (ht : tokL l = .ok kd n v) : lexP l o = R.cons ⟨kd, l.take n, v, o⟩ (lexP (l.drop n) (o + n)) := by
  conv => lhs; rw [lexP_eq, if_neg (by omega), if_neg (by omega), if_neg h0, ht]
theorem lexA_eq (l : List UInt8) : lexA l = if 65536 < l.length then .err 2 0 else lexP l 0 := rfl

end Go.Proofs.Ytbmabnmidacpdaa.L
