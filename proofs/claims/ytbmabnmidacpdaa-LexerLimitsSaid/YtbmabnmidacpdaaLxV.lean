import Derived.Test.YtbmabnmidacpdaaProg
import Derived.Below
import Derived.Deep.Draws
import Derived.Deep.AppendLies
import Derived.Maps.AppendAt
import Derived.OwnWalk
import Derived.Laws.BytesArg
import Derived.Laws.MakeOwn
import Derived.Laws.OwnMore
import Derived.Deep.OwnRows
import Derived.Tactics
import Derived.Lib.ConvBytes
import Derived.Laws.Slices
import Derived.WalkKit
import Derived.KernelRfl
import Derived.RowKit3
import Derived.Deep.LoopGhost
import Derived.Deep.QuietTactic
import Derived.BigQuiet
import Derived.WideLaws
import Derived.Deep.DeepCutAuto
import Derived.Deep.CutBlock
import Derived.Deep.RegionHeld3
import Derived.Laws.Rows
import Derived.Lib.AppendStr
import Derived.ArgAppend
import Derived.Laws.IdiomCopy
import Derived.OrdersHeld
import Derived.Laws.BitsLemmas
import Derived.RowKit
import Derived.Test.YtbmabnmidacpdaaWWords
import Derived.Test.YtbmabnmidacpdaaWLast
import Derived.Test.YtbmabnmidacpdaaWTab
import Derived.Test.YtbmabnmidacpdaaWQPut
import Derived.Test.YtbmabnmidacpdaaWApart
import Derived.Test.YtbmabnmidacpdaaWArr
import Derived.Test.YtbmabnmidacpdaaWZeros
import Derived.Test.YtbmabnmidacpdaaWFoot
import Derived.Test.YtbmabnmidacpdaaWKept
import Derived.Test.YtbmabnmidacpdaaWShare
import Derived.Test.YtbmabnmidacpdaaWN
import Derived.Test.YtbmabnmidacpdaaWEqStruct
import Derived.Test.YtbmabnmidacpdaaWGuard
import Derived.Test.YtbmabnmidacpdaaWNEv
import Derived.Test.YtbmabnmidacpdaaWMore
import Derived.Test.YtbmabnmidacpdaaX1
import Derived.Test.YtbmabnmidacpdaaX2
import Derived.Test.YtbmabnmidacpdaaX3
import Derived.Test.YtbmabnmidacpdaaX4
import Derived.Test.YtbmabnmidacpdaaSh
import Derived.Test.YtbmabnmidacpdaaLxA
import Derived.Test.YtbmabnmidacpdaaLxB
import Derived.Test.YtbmabnmidacpdaaLxC
import Derived.Test.YtbmabnmidacpdaaLxD
import Derived.Test.YtbmabnmidacpdaaLxP
import Derived.Test.YtbmabnmidacpdaaHw
import Derived.Test.YtbmabnmidacpdaaLxE
import Derived.DataShut
import Derived.Deep.RegionLawGrows
import Derived.Deep.Upon
import Derived.Deep.MidRow
namespace Go.Proofs.Ytbmabnmidacpdaa.L
open Go.RowKit Go.Proofs.Ytbmabnmidacpdaa.X Go.Proofs.YtbmabnmidacpdaaW.PrintWords Go.Proofs.YtbmabnmidacpdaaW.PrintLast Go.Proofs.YtbmabnmidacpdaaW.PrintMore
attribute [local go_sem] max2_int min2_int max_two min_two max_three min_three max_four min_four   -- for this text's walks alone
set_option linter.unusedVariables false
set_option linter.unusedSimpArgs false
theorem all_ok (s : ByteArray) (w : World) (mx : Int) (hm : w.cell? ⟨0, 0, none⟩ = some (.int .i64 mx)) (hs : s.size ≤ 1000000000) {l : List T} (h : lexA s.data.toList = .ok l) :
    Calls Try.prog 11 #[.string s] w fun e w' => ∃ A c, e = .returned (.tuple #[.slice A l.length c, .int .i64 0, .agg #[.int .i64 0, .int .i64 0, .int .i64 0]]) ∧ l.length ≤ c ∧ Kd.R k33 33 w' w.heap.size (fun _ => True) (.slice A l.length c) (l.map (tk33 s)) ∧ Below w.heap.size w w' :=
  (all_calls s w mx hm hs).mono fun e w' hp => by
    rw [h] at hp
    obtain ⟨⟨v, he, hr⟩, hb⟩ := hp
    obtain ⟨A, c, rfl, hc, _⟩ := Kd.R_reads hr
    rw [List.length_map] at he hc hr
    exact ⟨A, c, he, hc, hr, hb⟩
theorem all_err (s : ByteArray) (w : World) (mx : Int) (hm : w.cell? ⟨0, 0, none⟩ = some (.int .i64 mx)) (hs : s.size ≤ 1000000000) {c : Int} {off : Nat} (h : lexA s.data.toList = .err c off) :
    Calls Try.prog 11 #[.string s] w fun e w' => e = .returned (.tuple #[.slice none 0 0, .int .i64 c, .agg #[.int .i64 (off : Int), .int .i64 (lnA s off), .int .i64 ((off : Int) - stA s off + 1)]]) ∧ Below w.heap.size w w' :=
  (all_calls s w mx hm hs).mono fun e w' hp => by
    rw [h] at hp
    exact hp
def ex1 : List T := [⟨1, [120, 49], 0, 0⟩, ⟨4, [61], 0, 3⟩, ⟨2, [49, 48], 10, 5⟩, ⟨4, [60, 60], 0, 7⟩, ⟨1, [121], 0, 9⟩, ⟨4, [59], 0, 10⟩]
def bx1 : ByteArray := ⟨#[120, 49, 32, 61, 32, 49, 48, 60, 60, 121, 59]⟩
def bx2 : ByteArray := ⟨#[49, 120]⟩
def bx3 : ByteArray := ⟨#[97, 32, 47, 42]⟩
def bx4 : ByteArray := ⟨#[97, 32, 64]⟩
theorem lx1 : lexA (⟨#[120, 49, 32, 61, 32, 49, 48, 60, 60, 121, 59]⟩ : ByteArray).data.toList = .ok ex1 := by kernel_rfl
theorem lx2 : lexA (⟨#[49, 120]⟩ : ByteArray).data.toList = .err 11 0 := by kernel_rfl
theorem lx3 : lexA (⟨#[97, 32, 47, 42]⟩ : ByteArray).data.toList = .err 12 4 := by kernel_rfl
theorem lx4 : lexA (⟨#[97, 32, 64]⟩ : ByteArray).data.toList = .err 10 2 := by kernel_rfl
theorem MXb {w w1 : World} {mx : Int} (hm : w.cell? ⟨0, 0, none⟩ = some (.int .i64 mx)) (hb : Below w.heap.size w w1) : w1.cell? ⟨0, 0, none⟩ = some (.int .i64 mx) := pw_cell_below hb hm
set_option maxHeartbeats 16000000 in
set_option maxRecDepth 100000 in
theorem lives_calls (w : World) (mx : Int) (hm : w.cell? ⟨0, 0, none⟩ = some (.int .i64 mx)) : Calls Try.prog 15 #[] w fun e w' => e = .returned (.bool true) ∧ Below w.heap.size w w' := by
  have I26 : Aside0 ((Try.prog.info? 26).map (·.size) = some 3) := ⟨by kernel_rfl⟩
  have HM := Aside0.mk hm
  clear hm
  go_enter Try.func15, Try.ntmps15
  go_upto_region 5 with (first
    | (go_at_call 11; (with_reducible refine (all_ok (⟨#[120, 49, 32, 61, 32, 49, 48, 60, 60, 121, 59]⟩ : ByteArray) _ mx HM.out (by decide) lx1).mono ?_); rintro e w1 ⟨A, cp, rfl, hcp, hr, hb⟩; have HR := Aside0.mk hr; have HB1 := Aside0.mk hb; clear hr hb hcp)
    | ((with_reducible refine gate_dst (N := 3) rfl ?_); refine box_event ?hg (N := 3) ?hd (cs := z3) (t := 26) ?hr ?_; (case hd => rfl); (case hg => rfl); (case hr => exact alloc26 _ _ _ _ _ _); intro g1 hg_ wb1 hbox_ hba_; have BZ1 := Aside0.mk hbox_; have HZ1 := Aside0.mk hba_; have GZ1 := Aside0.mk hg_; clear hg_ hbox_ hba_)
    | ((with_reducible refine gate_op (.store 26 (.tmp 3) (.tmp 17)) rfl ?_); refine put_row rfl 26 (.tmp 3) (.tmp 17) rfl g1 (by rfl) 26 z3 #[.int .i64 0, .int .i64 0, .int .i64 0] (by rfl) BZ1.out I26.out rfl (by simp [Value.oneCell']) ?_; intro wp1 hb_ hk_ hbl_ hsz_; have BP1 := Aside0.mk hb_; have KP1 := Aside0.mk hk_; have QP1 := Aside0.mk hbl_; clear hb_ hk_ hbl_ hsz_; have HW1 := Aside0.mk ((below_then HB1.out HB1.out.size HZ1.out).trans (QP1.out _ (by rw [GZ1.out]; exact HB1.out.size))))
    | (go_at_call 11; (with_reducible refine (all_err (⟨#[49, 120]⟩ : ByteArray) _ mx (MXb HM.out HW1.out) (by decide) lx2).mono ?_); rintro e w2 ⟨rfl, hb⟩; have HB2 := Aside0.mk (below_then HW1.out HW1.out.size hb); have HBx2 := Aside0.mk hb; clear hb)
    | ((with_reducible refine gate_dst (N := 6) rfl ?_); refine box_event ?hg (N := 6) ?hd (cs := z3) (t := 26) ?hr ?_; (case hd => rfl); (case hg => rfl); (case hr => exact alloc26 _ _ _ _ _ _); intro g2 hg_ wb2 hbox_ hba_; have BZ2 := Aside0.mk hbox_; have HZ2 := Aside0.mk hba_; have GZ2 := Aside0.mk hg_; clear hg_ hbox_ hba_)
    | ((with_reducible refine gate_op (.store 26 (.tmp 6) (.tmp 22)) rfl ?_); refine put_row rfl 26 (.tmp 6) (.tmp 22) rfl g2 (by rfl) 26 z3 #[.int .i64 ((0 : Nat) : Int), .int .i64 (lnA (⟨#[49, 120]⟩ : ByteArray) 0), .int .i64 (((0 : Nat) : Int) - stA (⟨#[49, 120]⟩ : ByteArray) 0 + 1)] (by rfl) BZ2.out I26.out rfl (by simp [Value.oneCell']) ?_; intro wp2 hb_ hk_ hbl_ hsz_; have BP2 := Aside0.mk hb_; have KP2 := Aside0.mk hk_; have QP2 := Aside0.mk hbl_; clear hb_ hk_ hbl_ hsz_; have HW2 := Aside0.mk ((below_then HB2.out HB2.out.size HZ2.out).trans (QP2.out _ (by rw [GZ2.out]; exact HB2.out.size))))
    | (go_at_call 11; (with_reducible refine (all_err (⟨#[97, 32, 47, 42]⟩ : ByteArray) _ mx (MXb HM.out HW2.out) (by decide) lx3).mono ?_); rintro e w3 ⟨rfl, hb⟩; have HB3 := Aside0.mk (below_then HW2.out HW2.out.size hb); have HBx3 := Aside0.mk hb; clear hb)
    | ((with_reducible refine gate_dst (N := 9) rfl ?_); refine box_event ?hg (N := 9) ?hd (cs := z3) (t := 26) ?hr ?_; (case hd => rfl); (case hg => rfl); (case hr => exact alloc26 _ _ _ _ _ _); intro g3 hg_ wb3 hbox_ hba_; have BZ3 := Aside0.mk hbox_; have HZ3 := Aside0.mk hba_; have GZ3 := Aside0.mk hg_; clear hg_ hbox_ hba_)
    | ((with_reducible refine gate_op (.store 26 (.tmp 9) (.tmp 27)) rfl ?_); refine put_row rfl 26 (.tmp 9) (.tmp 27) rfl g3 (by rfl) 26 z3 #[.int .i64 ((4 : Nat) : Int), .int .i64 (lnA (⟨#[97, 32, 47, 42]⟩ : ByteArray) 4), .int .i64 (((4 : Nat) : Int) - stA (⟨#[97, 32, 47, 42]⟩ : ByteArray) 4 + 1)] (by rfl) BZ3.out I26.out rfl (by simp [Value.oneCell']) ?_; intro wp3 hb_ hk_ hbl_ hsz_; have BP3 := Aside0.mk hb_; have KP3 := Aside0.mk hk_; have QP3 := Aside0.mk hbl_; clear hb_ hk_ hbl_ hsz_; have HW3 := Aside0.mk ((below_then HB3.out HB3.out.size HZ3.out).trans (QP3.out _ (by rw [GZ3.out]; exact HB3.out.size))))
    | (go_at_call 11; (with_reducible refine (all_err (⟨#[97, 32, 64]⟩ : ByteArray) _ mx (MXb HM.out HW3.out) (by decide) lx4).mono ?_); rintro e w4 ⟨rfl, hb⟩; have HB4 := Aside0.mk (below_then HW3.out HW3.out.size hb); have HBx4 := Aside0.mk hb; clear hb)
    | ((with_reducible refine gate_dst (N := 12) rfl ?_); refine box_event ?hg (N := 12) ?hd (cs := z3) (t := 26) ?hr ?_; (case hd => rfl); (case hg => rfl); (case hr => exact alloc26 _ _ _ _ _ _); intro g4 hg_ wb4 hbox_ hba_; have BZ4 := Aside0.mk hbox_; have HZ4 := Aside0.mk hba_; have GZ4 := Aside0.mk hg_; clear hg_ hbox_ hba_)
    | ((with_reducible refine gate_op (.store 26 (.tmp 12) (.tmp 32)) rfl ?_); refine put_row rfl 26 (.tmp 12) (.tmp 32) rfl g4 (by rfl) 26 z3 #[.int .i64 ((2 : Nat) : Int), .int .i64 (lnA (⟨#[97, 32, 64]⟩ : ByteArray) 2), .int .i64 (((2 : Nat) : Int) - stA (⟨#[97, 32, 64]⟩ : ByteArray) 2 + 1)] (by rfl) BZ4.out I26.out rfl (by simp [Value.oneCell']) ?_; intro wp4 hb_ hk_ hbl_ hsz_; have BP4 := Aside0.mk hb_; have KP4 := Aside0.mk hk_; have QP4 := Aside0.mk hbl_; clear hb_ hk_ hbl_ hsz_; have HW4 := Aside0.mk ((below_then HB4.out HB4.out.size HZ4.out).trans (QP4.out _ (by rw [GZ4.out]; exact HB4.out.size)))))
  have X1 : Below w1.heap.size w1 wp1 := HZ1.out.trans (QP1.out _ (by rw [GZ1.out]; exact Nat.le_refl _))
  have X2 : Below w2.heap.size w2 wp2 := HZ2.out.trans (QP2.out _ (by rw [GZ2.out]; exact Nat.le_refl _))
  have X3 : Below w3.heap.size w3 wp3 := HZ3.out.trans (QP3.out _ (by rw [GZ3.out]; exact Nat.le_refl _))
  have X4 : Below w4.heap.size w4 wp4 := HZ4.out.trans (QP4.out _ (by rw [GZ4.out]; exact Nat.le_refl _))
  have Y2 := below_then HBx2.out HBx2.out.size X2
  have Y3 := below_then HBx3.out HBx3.out.size X3
  have Y4 := below_then HBx4.out HBx4.out.size X4
  have R4 := Kd.R_below (Kd.R_below (Kd.R_below (Kd.R_below HR.out X1) Y2) Y3) Y4
  have P2 := blk_below (blk_below BP2.out Y3) Y4
  have P3 := blk_below BP3.out Y4
  have P4 := BP4.out
  have hC := (Kd.R_reads' R4).2.2
  obtain ⟨ad, ea, hc0, _⟩ := at_T33 hC 0 (by decide) (by decide)
  subst ea
  obtain ⟨_, ea, _, _, hc2, _⟩ := at_T33 hC 2 (by decide) (by decide)
  cases ea
  obtain ⟨_, ea, _, hc3, _⟩ := at_T33 hC 3 (by decide) (by decide)
  cases ea
  have hc0 : wp4.cell? ad = some (.int .i64 1) := hc0
  have hc2 : wp4.cell? ⟨ad.block, ad.off + 12 + 2, none⟩ = some (.int .i32 10) := hc2
  have hc3 : wp4.cell? ⟨ad.block, ad.off + 18 + 1, none⟩ = some (.string ⟨#[60, 60]⟩) := hc3
  have p2 : wp4.cell? ⟨g2, 0, none⟩ = some (.int .i64 0) := (blk_cell P2 0).trans rfl
  have p3 : wp4.cell? ⟨g3, 0, none⟩ = some (.int .i64 4) := (blk_cell P3 0).trans rfl
  have p4 : wp4.cell? ⟨g4, 0, none⟩ = some (.int .i64 2) := (blk_cell P4 0).trans rfl
  have HF := Aside0.mk HW4.out
  have hlen : (ex1.length : Int) = 6 := rfl
  clear X1 X2 X3 X4 Y2 Y3 Y4 R4 P2 P3 P4 hC
  go_wp2
  go_ret
  exact ⟨rfl, HF.out⟩

end Go.Proofs.Ytbmabnmidacpdaa.L
