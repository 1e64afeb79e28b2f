import Derived.Test.YtbmabnmidacpdaaProg
import Derived.Below
import Derived.Deep.Draws
import Derived.Deep.AppendLies
import Derived.Maps.AppendAt
import Derived.OwnWalk
import Derived.Laws.BytesArg
import Derived.Laws.MakeOwn
import Derived.Laws.OwnMore
import Derived.Deep.OwnRows
import Derived.Tactics
import Derived.Lib.ConvBytes
import Derived.Laws.Slices
import Derived.WalkKit
import Derived.KernelRfl
import Derived.RowKit3
import Derived.Deep.LoopGhost
import Derived.Deep.QuietTactic
import Derived.BigQuiet
import Derived.WideLaws
import Derived.Deep.DeepCutAuto
import Derived.Deep.CutBlock
import Derived.Deep.RegionHeld3
import Derived.Laws.Rows
import Derived.Lib.AppendStr
import Derived.ArgAppend
import Derived.Laws.IdiomCopy
import Derived.OrdersHeld
import Derived.Laws.BitsLemmas
import Derived.RowKit
import Derived.Test.YtbmabnmidacpdaaWWords
import Derived.Test.YtbmabnmidacpdaaWLast
import Derived.Test.YtbmabnmidacpdaaWTab
import Derived.Test.YtbmabnmidacpdaaWQPut
import Derived.Test.YtbmabnmidacpdaaWApart
import Derived.Test.YtbmabnmidacpdaaWArr
import Derived.Test.YtbmabnmidacpdaaWZeros
import Derived.Test.YtbmabnmidacpdaaWFoot
import Derived.Test.YtbmabnmidacpdaaWKept
import Derived.Test.YtbmabnmidacpdaaWShare
import Derived.Test.YtbmabnmidacpdaaWN
import Derived.Test.YtbmabnmidacpdaaWEqStruct
import Derived.Test.YtbmabnmidacpdaaWGuard
import Derived.Test.YtbmabnmidacpdaaWNEv
import Derived.Test.YtbmabnmidacpdaaWMore
import Derived.Test.YtbmabnmidacpdaaX4
import Derived.Test.YtbmabnmidacpdaaSh
import Derived.DataShut
import Derived.Deep.RegionLawGrows
import Derived.Deep.Upon
import Derived.Deep.MidRow
namespace Go.Proofs.Ytbmabnmidacpdaa.L
open Go.RowKit Go.Proofs.Ytbmabnmidacpdaa.X Go.Proofs.YtbmabnmidacpdaaW.PrintWords Go.Proofs.YtbmabnmidacpdaaW.PrintLast Go.Proofs.YtbmabnmidacpdaaW.PrintMore
attribute [local go_sem] max2_int min2_int max_two min_two max_three min_three max_four min_four   -- for this text's walks alone
set_option linter.unusedVariables false
set_option linter.unusedSimpArgs false
/-- The line of a place, and where that line begins. -/
def lnA (s : ByteArray) : Nat → Int
  | 0 => 1
  | k + 1 => if bt s (k : Int) = 10 then lnA s k + 1 else lnA s k
def stA (s : ByteArray) : Nat → Int
  | 0 => 0
  | k + 1 => if bt s (k : Int) = 10 then (k : Int) + 1 else stA s k
theorem stA_bd (s : ByteArray) (k : Nat) : 0 ≤ stA s k ∧ stA s k ≤ k := by
  induction k with
  | zero => exact ⟨Int.le_refl 0, Int.le_refl 0⟩
  | succ k ih => unfold stA; split <;> omega
theorem lnA_bd (s : ByteArray) (k : Nat) : 1 ≤ lnA s k ∧ lnA s k ≤ k + 1 := by
  induction k with
  | zero => exact ⟨Int.le_refl 1, Int.le_refl 1⟩
  | succ k ih => unfold lnA; split <;> omega
theorem bt_get (s : ByteArray) (k : Nat) (h : k < s.size) : bt s (k : Int) = ((s[k]'h).toNat : Int) := (bt_at s (k : Int) h).symm
theorem bt_list (s : ByteArray) (k : Nat) (h : k < s.data.toList.length) : bt s (k : Int) = ((s.data.toList[k]'h).toNat : Int) := by
  have h2 : k < s.size := by
    have e : s.data.toList.length = s.size := by simp
    omega
  rw [bt_get s k h2]
  rfl
theorem count_ln (s : ByteArray) (k : Nat) (h : k ≤ s.size) : 1 + (((s.data.toList.take k).count 10 : Nat) : Int) = lnA s k := by
  induction k with
  | zero => rfl
  | succ k ih =>
    have hl : k < s.data.toList.length := by
      have e : s.data.toList.length = s.size := by simp
      omega
    rw [List.take_succ_eq_append_getElem hl, List.count_append, lnA, bt_list s k hl, ← ih (by omega)]
    by_cases hc : s.data.toList[k] = 10
    · rw [hc]; simp; omega
    · have hn : ¬ ((s.data.toList[k].toNat : Int) = 10) := fun e => hc (UInt8.toNat_inj.1 (by (have h1 : s.data.toList[k].toNat = 10 := by omega); exact h1))
      rw [if_neg hn, List.count_singleton, if_neg (by simpa using hc)]
      omega
theorem last_st (s t : ByteArray) (n : Nat) (ht : t.data.toList = s.data.toList.take n) (hn : n ≤ s.size) (k : Nat) (hk : k ≤ n) : Lib.lastIdx t 10 k = stA s k - 1 := by
  induction k with
  | zero => rfl
  | succ k ih =>
    have hl : k < s.data.toList.length := by
      have e : s.data.toList.length = s.size := by simp
      omega
    have hb : ((t.data[k]!).toNat : Int) = bt s (k : Int) := by
      rw [bt_list s k hl]
      have h1 : t.data[k]! = s.data.toList[k] := by
        rw [← Array.getElem!_toList, ht, List.getElem!_eq_getElem?_getD, List.getElem?_take, if_pos (by omega), List.getElem?_eq_getElem hl]
        rfl
      rw [h1]
    unfold Lib.lastIdx stA
    rw [hb, ih (by omega)]
    split <;> omega
/-- A place as it is told. -/
def plV (s : ByteArray) (n : Nat) : Value := .agg #[.int .i64 (n : Int), .int .i64 (lnA s n), .int .i64 ((n : Int) - stA s n + 1)]
theorem ext_list (s : ByteArray) (n : Nat) : (s.extract 0 n).data.toList = s.data.toList.take n := by
  rw [Lib.extract_data]
  simp
set_option maxHeartbeats 4000000 in
set_option maxRecDepth 100000 in
theorem at_calls (s : ByteArray) (off : Int) (n : Nat) (w : World) (hs : s.size ≤ 1000000000) (ho : -9223372036854775808 ≤ off ∧ off ≤ 9223372036854775807) (hn : (n : Int) = max 0 (min off (s.size : Int))) :
    Calls Try.prog 20 #[.string s, .int .i64 off] w fun e w' => e = .returned (plV s n) ∧ Below w.heap.size w w' := by
  obtain ⟨o0, o1⟩ := ho
  have hsz : (s.size : Int) ≤ 1000000000 := by omega
  obtain ⟨q, hq⟩ : ∃ q : Int, (if (s.size : Int) < off then (s.size : Int) else off) = q := ⟨_, rfl⟩
  have hm : (if 0 < q then q else 0) = (n : Int) := by rw [hn, ← hq]; omega
  have hns : n ≤ s.size := by omega
  have hni : (n : Int) ≤ (s.size : Int) := by omega
  have hl := lnA_bd s n
  have hst := stA_bd s n
  clear hn
  have I26 : Aside0 ((Try.prog.info? 26).map (·.size) = some 3) := ⟨by kernel_rfl⟩
  go_enter Try.func20, Try.ntmps20
  have hc : 1 + ((Lib.countByte (s.extract 0 n).data.toList 10 : Nat) : Int) = lnA s n := by
    unfold Lib.countByte
    rw [ext_list, count_ln s n hns]
  have hcc : ((Lib.countByte (s.extract 0 n).data.toList 10 : Nat) : Int) = lnA s n - 1 := by omega
  have he : (s.extract 0 n).size = n := by
    have h1 : (s.extract 0 n).data.toList.length = n := by
      rw [ext_list, List.length_take]
      have e : s.data.toList.length = s.size := by simp
      omega
    simpa using h1
  have hls : Lib.lastIndexByte (s.extract 0 n) (((⟨#[10]⟩ : ByteArray)[0]'(by decide)).toNat : Int) = stA s n - 1 := by
    unfold Lib.lastIndexByte
    rw [he]
    exact last_st s _ n (ext_list s n) hns n (Nat.le_refl n)
  go_wp2_with (first
    | (go_at_call 33; (with_reducible refine (Try.strings_Count_one (s.extract 0 n) 10 _).mono ?_); rw [hcc]; rintro e w' ⟨rfl, rfl⟩)
    | (go_at_call 34; refine (Try.strings_LastIndex_one (s.extract 0 n) _ rfl (by omega) _).mono ?_; rw [hls]; rintro e w' ⟨rfl, rfl⟩))
  have e1 : 1 + (lnA s n - 1) = lnA s n := by omega
  have e2 : (n : Int) - (stA s n - 1) = (n : Int) - stA s n + 1 := by omega
  rw [e1, e2]
  exact bodyPost_ret (results_cell_row rfl _ _ w.heap.size 26 #[.int .i64 (n : Int), .int .i64 (lnA s n), .int .i64 ((n : Int) - stA s n + 1)] (0, 0) _ rfl (blk_new w _) Try.underlying26 rfl I26.out) rfl ⟨rfl, below_alloc (Below.refl _ _) _⟩

end Go.Proofs.Ytbmabnmidacpdaa.L
