import Derived.Test.YtbmabnmidacpdaaProg
import Derived.Below
import Derived.Deep.Draws
import Derived.Deep.AppendLies
import Derived.Maps.AppendAt
import Derived.OwnWalk
import Derived.Laws.BytesArg
import Derived.Laws.MakeOwn
import Derived.Laws.OwnMore
import Derived.Deep.OwnRows
import Derived.Tactics
import Derived.Lib.ConvBytes
import Derived.Laws.Slices
import Derived.WalkKit
import Derived.KernelRfl
import Derived.RowKit3
import Derived.IntWalk
import Derived.Deep.LoopGhost
import Derived.Deep.QuietTactic
import Derived.BigQuiet
import Derived.WideLaws
import Derived.Deep.DeepCutAuto
import Derived.Deep.CutBlock
import Derived.Deep.RegionHeld3
import Derived.Laws.Rows
import Derived.Lib.AppendStr
import Derived.ArgAppend
import Derived.Laws.IdiomCopy
import Derived.OrdersHeld
import Derived.Laws.BitsLemmas
import Derived.RowKit
import Derived.Test.YtbmabnmidacpdaaWWords
import Derived.Test.YtbmabnmidacpdaaWLast
import Derived.Test.YtbmabnmidacpdaaWTab
import Derived.Test.YtbmabnmidacpdaaWQPut
import Derived.Test.YtbmabnmidacpdaaWApart
import Derived.Test.YtbmabnmidacpdaaWArr
import Derived.Test.YtbmabnmidacpdaaWZeros
import Derived.Test.YtbmabnmidacpdaaWFoot
import Derived.Test.YtbmabnmidacpdaaWKept
import Derived.Test.YtbmabnmidacpdaaWShare
import Derived.Test.YtbmabnmidacpdaaWN
import Derived.Test.YtbmabnmidacpdaaWEqStruct
import Derived.Test.YtbmabnmidacpdaaWGuard
import Derived.Test.YtbmabnmidacpdaaWNEv
import Derived.Test.YtbmabnmidacpdaaWMore
import Derived.Test.YtbmabnmidacpdaaX1
import Derived.Test.YtbmabnmidacpdaaX2
import Derived.Test.YtbmabnmidacpdaaX3
import Derived.Test.YtbmabnmidacpdaaX4
import Derived.Test.YtbmabnmidacpdaaSh
import Derived.Test.YtbmabnmidacpdaaLxA
import Derived.Test.YtbmabnmidacpdaaLxB
import Derived.Test.YtbmabnmidacpdaaLxC
import Derived.Test.YtbmabnmidacpdaaLxD
import Derived.Test.YtbmabnmidacpdaaLxP
import Derived.Test.YtbmabnmidacpdaaHw
import Derived.Test.YtbmabnmidacpdaaLxE
import Derived.Test.YtbmabnmidacpdaaLxS
import Derived.Test.YtbmabnmidacpdaaLxT
import Derived.Test.YtbmabnmidacpdaaLxV
import Derived.Test.YtbmabnmidacpdaaLxU
import Derived.Test.YtbmabnmidacpdaaLxW
import Derived.Test.YtbmabnmidacpdaaLxX
import Derived.Test.YtbmabnmidacpdaaLxR
import Derived.Test.YtbmabnmidacpdaaLxZ
import Derived.Lib.Builder

import Derived.Lib.UnsafeStr
import Derived.Laws.Externs
import Derived.DataShut
import Derived.Deep.RegionLawGrows
import Derived.Deep.Upon
import Derived.Deep.MidRow
namespace Go.Proofs.Ytbmabnmidacpdaa.L
open Go.RowKit Go.Proofs.Ytbmabnmidacpdaa.X Go.Proofs.YtbmabnmidacpdaaW.PrintWords Go.Proofs.YtbmabnmidacpdaaW.PrintLast Go.Proofs.YtbmabnmidacpdaaW.PrintMore
attribute [local go_sem] max2_int min2_int max_two min_two max_three min_three max_four min_four   -- for this text's walks alone
set_option linter.unusedVariables false
set_option linter.unusedSimpArgs false
theorem jn_one (L : List (List UInt8)) (j : Nat) : (jn L (j + 1)).length ≤ (jn L j).length + 1 + (L.getD j []).length := by
  show (jn L j ++ (if 0 < j then [32] else []) ++ L.getD j []).length ≤ _
  rw [List.length_append, List.length_append]
  split <;> simp
theorem add_list (a b : ByteArray) : (a ++ b).data.toList = a.data.toList ++ b.data.toList := by
  simp [ByteArray.data_append]
set_option maxHeartbeats 16000000 in
set_option maxRecDepth 100000 in
theorem prints_calls (A : Option Addr) (c : Nat) (l : List S33) (w : World) (mx : Int) (hm : w.cell? ⟨0, 0, none⟩ = some (.int .i64 mx)) (hC : Kd.C k33 w A l.length l) (hc : l.length ≤ c) {okP : S33 → Prop} (_ : ∀ y ∈ l, okP y) :
    Calls Try.prog 9 #[.slice A l.length c] w fun e w' => e = .returned (.bool true) ∧ Below w.heap.size w w' := by
  have I33 : Aside0 ((Try.prog.info? 33).map (·.size) = some 6) := ⟨by kernel_rfl⟩
  obtain ⟨N, hN⟩ : ∃ N, l.length = N := ⟨_, rfl⟩
  obtain ⟨n, hn⟩ : ∃ n, min N 60 = n := ⟨_, rfl⟩
  obtain ⟨l2, hl2⟩ : ∃ l2, l.take n = l2 := ⟨_, rfl⟩
  have hln : l2.length = n := by rw [← hl2, List.length_take, hN]; omega
  have hC2 : Kd.C k33 w A n l2 := by
    have h_ := Kd.C_take (m := n) hC (by omega)
    rw [hl2, hln] at h_
    exact h_
  obtain ⟨L, hL⟩ : ∃ L, (l2.map fun x => x.f1.data.toList) = L := ⟨_, rfl⟩
  rw [hN] at hc ⊢
  have hN2 : (N : Int) ≤ 9223372036854775807 := by have h_ := hC.2.1; omega
  have hn60 : n ≤ 60 := by omega
  have hnN : n ≤ N := by omega
  have hmn : (if 60 < (N : Int) then (60 : Int) else (N : Int)) = (n : Int) := by rw [← hn]; split <;> omega
  have hnc : (n : Int) ≤ (c : Int) := by omega
  have HM := Aside0.mk hm
  have HC2 := Aside0.mk hC2
  have HL := Aside0.mk hL
  have HLN := Aside0.mk hln
  clear hN hn hl2 hln hC2 hL hC hm
  go_enter Try.func9, Try.ntmps9
  go_wp2
  go_loopg [3, 13] (n + 1) (fun kq v3 v wr => ∃ (j : Nat) (W : ByteArray), v = .int .i64 (j : Int) ∧ v3 = .string W ∧ Aside0 (n + 1 ≤ j + kq) ∧ Aside0 (j ≤ n) ∧ Aside0 (W = ⟨(jn L j).toArray⟩ ∧ (jn L j).length ≤ 301 * j) ∧ Aside0 (Below w.heap.size w wr))
  case atStart => exact ⟨0, ⟨#[]⟩, rfl, rfl, ⟨by omega⟩, ⟨by omega⟩, ⟨rfl, Nat.le_refl _⟩, ⟨Below.refl _ _⟩⟩
  case round =>
    obtain ⟨j, W, rfl, rfl, HJK, HJ, HW, HBJ⟩ := hrel
    cases gk with
    | zero => exact absurd HJK.out (by have h_ := HJ.out; omega)
    | succ k1 =>
      by_cases hj : j < n
      · have hjl : j < l2.length := by rw [HLN.out]; exact hj
        have hrx := rdx hjl
        obtain ⟨ad, e_, x0, x1, x2, x3, x4, x5⟩ := at_T33 (Kd.C_below HC2.out HBJ.out) (j : Int) (by omega) (by omega)
        subst e_
        rw [Int.toNat_natCast] at x0 x1 x2 x3 x4 x5
        generalize rd_T33 l2 (j : Int) = x at x0 x1 x2 x3 x4 x5 hrx
        rw [HL.out] at hrx
        have HRX := Aside0.mk hrx
        have HJ9 := Aside0.mk hj
        have HEW : Aside0 (wrap64 ((j : Int) + 1) = ((j + 1 : Nat) : Int)) := ⟨by rw [w64 _ (by omega) (by omega)]; rfl⟩
        have q1 : ((j : Int) < (n : Int)) = True := by apply eq_true; omega
        by_cases hbig : 300 < x.f1.size
        · have q3 : (300 : Int) < (x.f1.size : Int) := by omega
          by_cases h0 : j = 0
          · subst h0
            rw [show ((0 : Nat) : Int) = 0 from rfl]
            rw [show ((0 : Nat) : Int) = 0 from rfl] at q1
            have hz : ad.add (0 * 6) = ad := by simp [Addr.add]
            rw [hz] at x0 x1 x2 x3 x4 x5
            have q2 : (0 < n) = True := eq_true hj
            clear hj hjl hrx hz hbig
            go_wp2_with (first
              | ((with_reducible refine gate_dst (N := 5) rfl ?_); refine box_event ?hg (N := 5) ?hd (cs := zcells) (t := 33) ?hr ?_; (case hd => rfl); (case hg => rfl); (case hr => exact alloc33 _ _ _ _ _ _); intro g5 hg_ wb5 hbox_ hba_; have BZ5 := Aside0.mk hbox_; have HZ5 := Aside0.mk hba_; have GZ5 := Aside0.mk hg_; clear hg_ hbox_ hba_)
              | ((with_reducible refine gate_op (.store 33 (.tmp 5) (.tmp 17)) rfl ?_); refine put_row rfl 33 (.tmp 5) (.tmp 17) rfl g5 (by rfl) 33 zcells #[.int .i64 x.f0, .string x.f1, .int .i32 x.f2, .int .i64 x.f3.f0, .int .i64 x.f3.f1, .int .i64 x.f3.f2] (by rfl) BZ5.out I33.out rfl (by simp [Value.oneCell']) ?_; intro wp5 hb_ hk_ hbl_ hsz_; have BP5 := Aside0.mk hb_; have KP5 := Aside0.mk hk_; have QP5 := Aside0.mk hbl_; clear hb_ hk_ hbl_ hsz_; have hx5_ := HZ5.out.trans (QP5.out _ (Nat.le_of_eq GZ5.out.symm)); have HW5 := Aside0.mk (below_then HBJ.out HBJ.out.size hx5_); have b5_ := BP5.out; have c50 : wp5.cell? ⟨g5, 0, none⟩ = some (.int .i64 x.f0) := (blk_cell b5_ 0).trans rfl; have f50 := blk_frozen b5_ 0; have c51 : wp5.cell? ⟨g5, 1, none⟩ = some (.string x.f1) := (blk_cell b5_ 1).trans rfl; have f51 := blk_frozen b5_ 1; have c52 : wp5.cell? ⟨g5, 2, none⟩ = some (.int .i32 x.f2) := (blk_cell b5_ 2).trans rfl; have f52 := blk_frozen b5_ 2; have c53 : wp5.cell? ⟨g5, 3, none⟩ = some (.int .i64 x.f3.f0) := (blk_cell b5_ 3).trans rfl; have f53 := blk_frozen b5_ 3; have c54 : wp5.cell? ⟨g5, 4, none⟩ = some (.int .i64 x.f3.f1) := (blk_cell b5_ 4).trans rfl; have f54 := blk_frozen b5_ 4; have c55 : wp5.cell? ⟨g5, 5, none⟩ = some (.int .i64 x.f3.f2) := (blk_cell b5_ 5).trans rfl; have f55 := blk_frozen b5_ 5; clear b5_ hx5_)
              | (go_at_call 15; (with_reducible refine (lives_calls _ mx (MXb HM.out HW5.out)).mono ?_); rintro e w8 ⟨rfl, hb⟩; have HB8 := Aside0.mk (below_then HW5.out HW5.out.size hb); clear hb))
            go_ret
            exact ⟨rfl, HB8.out⟩
          · have h0i : (0 : Int) < (j : Int) := by omega
            clear hj hjl hrx hbig h0
            go_wp2_with (first
              | ((with_reducible refine gate_dst (N := 5) rfl ?_); refine box_event ?hg (N := 5) ?hd (cs := zcells) (t := 33) ?hr ?_; (case hd => rfl); (case hg => rfl); (case hr => exact alloc33 _ _ _ _ _ _); intro g5 hg_ wb5 hbox_ hba_; have BZ5 := Aside0.mk hbox_; have HZ5 := Aside0.mk hba_; have GZ5 := Aside0.mk hg_; clear hg_ hbox_ hba_)
              | ((with_reducible refine gate_op (.store 33 (.tmp 5) (.tmp 17)) rfl ?_); refine put_row rfl 33 (.tmp 5) (.tmp 17) rfl g5 (by rfl) 33 zcells #[.int .i64 x.f0, .string x.f1, .int .i32 x.f2, .int .i64 x.f3.f0, .int .i64 x.f3.f1, .int .i64 x.f3.f2] (by rfl) BZ5.out I33.out rfl (by simp [Value.oneCell']) ?_; intro wp5 hb_ hk_ hbl_ hsz_; have BP5 := Aside0.mk hb_; have KP5 := Aside0.mk hk_; have QP5 := Aside0.mk hbl_; clear hb_ hk_ hbl_ hsz_; have hx5_ := HZ5.out.trans (QP5.out _ (Nat.le_of_eq GZ5.out.symm)); have HW5 := Aside0.mk (below_then HBJ.out HBJ.out.size hx5_); have b5_ := BP5.out; have c50 : wp5.cell? ⟨g5, 0, none⟩ = some (.int .i64 x.f0) := (blk_cell b5_ 0).trans rfl; have f50 := blk_frozen b5_ 0; have c51 : wp5.cell? ⟨g5, 1, none⟩ = some (.string x.f1) := (blk_cell b5_ 1).trans rfl; have f51 := blk_frozen b5_ 1; have c52 : wp5.cell? ⟨g5, 2, none⟩ = some (.int .i32 x.f2) := (blk_cell b5_ 2).trans rfl; have f52 := blk_frozen b5_ 2; have c53 : wp5.cell? ⟨g5, 3, none⟩ = some (.int .i64 x.f3.f0) := (blk_cell b5_ 3).trans rfl; have f53 := blk_frozen b5_ 3; have c54 : wp5.cell? ⟨g5, 4, none⟩ = some (.int .i64 x.f3.f1) := (blk_cell b5_ 4).trans rfl; have f54 := blk_frozen b5_ 4; have c55 : wp5.cell? ⟨g5, 5, none⟩ = some (.int .i64 x.f3.f2) := (blk_cell b5_ 5).trans rfl; have f55 := blk_frozen b5_ 5; clear b5_ hx5_)
              | (go_at_call 15; (with_reducible refine (lives_calls _ mx (MXb HM.out HW5.out)).mono ?_); rintro e w8 ⟨rfl, hb⟩; have HB8 := Aside0.mk (below_then HW5.out HW5.out.size hb); clear hb))
            go_ret
            exact ⟨rfl, HB8.out⟩
        · have q3 : (x.f1.size : Int) ≤ 300 := by omega
          have hl1 := jn_one L j
          have hWs : W.size ≤ 301 * j := by rw [HW.out.1, ba_size]; exact HW.out.2
          have qs1 : W.size + x.f1.size ≤ 9223372036854775807 := by omega
          have qs2 : W.size + 1 ≤ 9223372036854775807 := by omega
          have qs3 : (W ++ (⟨#[32]⟩ : ByteArray)).size + x.f1.size ≤ 9223372036854775807 := by rw [ByteArray.size_append]; show W.size + 1 + _ ≤ _; omega
          have HL1 : Aside0 ((jn L (j + 1)).length ≤ 301 * (j + 1)) := ⟨by rw [← hrx, slen] at hl1; have h_ := HW.out.2; omega⟩
          by_cases h0 : j = 0
          · subst h0
            rw [show ((0 : Nat) : Int) = 0 from rfl]
            rw [show ((0 : Nat) : Int) = 0 from rfl] at q1
            have hz : ad.add (0 * 6) = ad := by simp [Addr.add]
            rw [hz] at x0 x1 x2 x3 x4 x5
            have q2 : (0 < n) = True := eq_true hj
            clear hj hjl hrx hz hbig hl1
            go_wp2_with (first
              | ((with_reducible refine gate_dst (N := 5) rfl ?_); refine box_event ?hg (N := 5) ?hd (cs := zcells) (t := 33) ?hr ?_; (case hd => rfl); (case hg => rfl); (case hr => exact alloc33 _ _ _ _ _ _); intro g5 hg_ wb5 hbox_ hba_; have BZ5 := Aside0.mk hbox_; have HZ5 := Aside0.mk hba_; have GZ5 := Aside0.mk hg_; clear hg_ hbox_ hba_)
              | ((with_reducible refine gate_op (.store 33 (.tmp 5) (.tmp 17)) rfl ?_); refine put_row rfl 33 (.tmp 5) (.tmp 17) rfl g5 (by rfl) 33 zcells #[.int .i64 x.f0, .string x.f1, .int .i32 x.f2, .int .i64 x.f3.f0, .int .i64 x.f3.f1, .int .i64 x.f3.f2] (by rfl) BZ5.out I33.out rfl (by simp [Value.oneCell']) ?_; intro wp5 hb_ hk_ hbl_ hsz_; have BP5 := Aside0.mk hb_; have KP5 := Aside0.mk hk_; have QP5 := Aside0.mk hbl_; clear hb_ hk_ hbl_ hsz_; have hx5_ := HZ5.out.trans (QP5.out _ (Nat.le_of_eq GZ5.out.symm)); have HW5 := Aside0.mk (below_then HBJ.out HBJ.out.size hx5_); have b5_ := BP5.out; have c50 : wp5.cell? ⟨g5, 0, none⟩ = some (.int .i64 x.f0) := (blk_cell b5_ 0).trans rfl; have f50 := blk_frozen b5_ 0; have c51 : wp5.cell? ⟨g5, 1, none⟩ = some (.string x.f1) := (blk_cell b5_ 1).trans rfl; have f51 := blk_frozen b5_ 1; have c52 : wp5.cell? ⟨g5, 2, none⟩ = some (.int .i32 x.f2) := (blk_cell b5_ 2).trans rfl; have f52 := blk_frozen b5_ 2; have c53 : wp5.cell? ⟨g5, 3, none⟩ = some (.int .i64 x.f3.f0) := (blk_cell b5_ 3).trans rfl; have f53 := blk_frozen b5_ 3; have c54 : wp5.cell? ⟨g5, 4, none⟩ = some (.int .i64 x.f3.f1) := (blk_cell b5_ 4).trans rfl; have f54 := blk_frozen b5_ 4; have c55 : wp5.cell? ⟨g5, 5, none⟩ = some (.int .i64 x.f3.f2) := (blk_cell b5_ 5).trans rfl; have f55 := blk_frozen b5_ 5; clear b5_ hx5_))
            go_roundg k1
            case measure => omega
            case rel => exact ⟨1, W ++ x.f1, by first | rfl | go_num, rfl, ⟨by have h_ := HJK.out; omega⟩, ⟨by have h_ := HJ9.out; omega⟩, ⟨ba_of _ _ (by rw [add_list, HW.out.1, ba_list, HRX.out]; rfl), HL1.out⟩, HW5⟩
          · have h0i : (0 : Int) < (j : Int) := by omega
            have HJ0 := Aside0.mk h0
            clear hj hjl hrx hbig h0 hl1
            go_wp2_with (first
              | ((with_reducible refine gate_dst (N := 5) rfl ?_); refine box_event ?hg (N := 5) ?hd (cs := zcells) (t := 33) ?hr ?_; (case hd => rfl); (case hg => rfl); (case hr => exact alloc33 _ _ _ _ _ _); intro g5 hg_ wb5 hbox_ hba_; have BZ5 := Aside0.mk hbox_; have HZ5 := Aside0.mk hba_; have GZ5 := Aside0.mk hg_; clear hg_ hbox_ hba_)
              | ((with_reducible refine gate_op (.store 33 (.tmp 5) (.tmp 17)) rfl ?_); refine put_row rfl 33 (.tmp 5) (.tmp 17) rfl g5 (by rfl) 33 zcells #[.int .i64 x.f0, .string x.f1, .int .i32 x.f2, .int .i64 x.f3.f0, .int .i64 x.f3.f1, .int .i64 x.f3.f2] (by rfl) BZ5.out I33.out rfl (by simp [Value.oneCell']) ?_; intro wp5 hb_ hk_ hbl_ hsz_; have BP5 := Aside0.mk hb_; have KP5 := Aside0.mk hk_; have QP5 := Aside0.mk hbl_; clear hb_ hk_ hbl_ hsz_; have hx5_ := HZ5.out.trans (QP5.out _ (Nat.le_of_eq GZ5.out.symm)); have HW5 := Aside0.mk (below_then HBJ.out HBJ.out.size hx5_); have b5_ := BP5.out; have c50 : wp5.cell? ⟨g5, 0, none⟩ = some (.int .i64 x.f0) := (blk_cell b5_ 0).trans rfl; have f50 := blk_frozen b5_ 0; have c51 : wp5.cell? ⟨g5, 1, none⟩ = some (.string x.f1) := (blk_cell b5_ 1).trans rfl; have f51 := blk_frozen b5_ 1; have c52 : wp5.cell? ⟨g5, 2, none⟩ = some (.int .i32 x.f2) := (blk_cell b5_ 2).trans rfl; have f52 := blk_frozen b5_ 2; have c53 : wp5.cell? ⟨g5, 3, none⟩ = some (.int .i64 x.f3.f0) := (blk_cell b5_ 3).trans rfl; have f53 := blk_frozen b5_ 3; have c54 : wp5.cell? ⟨g5, 4, none⟩ = some (.int .i64 x.f3.f1) := (blk_cell b5_ 4).trans rfl; have f54 := blk_frozen b5_ 4; have c55 : wp5.cell? ⟨g5, 5, none⟩ = some (.int .i64 x.f3.f2) := (blk_cell b5_ 5).trans rfl; have f55 := blk_frozen b5_ 5; clear b5_ hx5_))
            go_roundg k1
            case measure => omega
            case rel => exact ⟨j + 1, (W ++ ⟨#[32]⟩) ++ x.f1, by first | (rw [HEW.out]; done) | rfl | go_num, rfl, ⟨by have h_ := HJK.out; omega⟩, ⟨by have h_ := HJ9.out; omega⟩, ⟨ba_of _ _ (by
              rw [add_list, add_list, HW.out.1, ba_list, HRX.out]
              have h2_ : jn L (j + 1) = jn L j ++ [32] ++ L.getD j [] := by
                show jn L j ++ (if 0 < j then [32] else []) ++ L.getD j [] = _
                rw [if_pos (Nat.pos_of_ne_zero HJ0.out)]
              rw [h2_]), HL1.out⟩, HW5⟩
      · obtain rfl : j = n := by have h_ := HJ.out; omega
        clear hj
        obtain ⟨hWe, hWl⟩ := HW.out
        subst hWe
        have q1 : ((j : Int) < (j : Int)) = False := by apply eq_false; omega
        have HPB : Aside0 ((jn (l2.map fun x => x.f1.data.toList) j).length ≤ 1000000) := ⟨by rw [HL.out]; omega⟩
        have HPC := Aside0.mk (Kd.C_below HC2.out HBJ.out)
        have hjc : j ≤ c := by omega
        have hj6 : j ≤ 1000000 := by omega
        clear hWl
        obtain ⟨Y, hY⟩ : ∃ Y : ByteArray, ⟨(jn L j).toArray⟩ = Y := ⟨_, rfl⟩
        rw [hY]
        have HY := Aside0.mk hY
        clear hY
        have qY : (Y.toList == Y.toList) = true := by simp
        go_wp2_with (first
          | (go_at_call 21; (with_reducible refine (print_calls A c l2 j _ HLN.out hjc hj6 HPC.out HPB.out).mono ?_); rw [HL.out, HY.out]; rintro e w7 ⟨rfl, hb⟩; have HB7 := Aside0.mk (below_then HBJ.out HBJ.out.size hb); clear hb)
          | (go_at_call 15; (with_reducible refine (lives_calls _ mx (MXb HM.out HB7.out)).mono ?_); rintro e w8 ⟨rfl, hb⟩; have HB8 := Aside0.mk (below_then HB7.out HB7.out.size hb); clear hb))
        go_ret
        exact ⟨rfl, HB8.out⟩

end Go.Proofs.Ytbmabnmidacpdaa.L
