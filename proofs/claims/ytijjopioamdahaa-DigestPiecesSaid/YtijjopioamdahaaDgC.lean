/- The sum with a block more: the walk; S has 8 words, the block 64 bytes. -/
import Derived.Test.YtijjopioamdahaaProg
import Derived.Below
import Derived.Deep.Draws
import Derived.Deep.AppendLies
import Derived.Maps.AppendAt
import Derived.OwnWalk
import Derived.Laws.BytesArg
import Derived.Laws.MakeOwn
import Derived.Laws.OwnMore
import Derived.Deep.OwnRows
import Derived.Tactics
import Derived.Lib.ConvBytes
import Derived.Laws.Slices
import Derived.WalkKit
import Derived.KernelRfl
import Derived.RowKit3
import Derived.Deep.LoopGhost
import Derived.Deep.QuietTactic
import Derived.BigQuiet
import Derived.WideLaws
import Derived.Deep.DeepCutAuto
import Derived.Deep.CutBlock
import Derived.Deep.RegionHeld3
import Derived.Laws.Rows
import Derived.Lib.AppendStr
import Derived.ArgAppend
import Derived.Laws.IdiomCopy
import Derived.OrdersHeld
import Derived.Laws.BitsLemmas
import Derived.RowKit
import Derived.Test.YtijjopioamdahaaWWords
import Derived.Test.YtijjopioamdahaaWLast
import Derived.Test.YtijjopioamdahaaWTab
import Derived.Test.YtijjopioamdahaaWQPut
import Derived.Test.YtijjopioamdahaaWApart
import Derived.Test.YtijjopioamdahaaWArr
import Derived.Test.YtijjopioamdahaaWZeros
import Derived.Test.YtijjopioamdahaaWFoot
import Derived.Test.YtijjopioamdahaaWKept
import Derived.Test.YtijjopioamdahaaWShare
import Derived.Test.YtijjopioamdahaaWN
import Derived.Test.YtijjopioamdahaaWEqStruct
import Derived.Test.YtijjopioamdahaaWGuard
import Derived.Test.YtijjopioamdahaaWNEv
import Derived.Test.YtijjopioamdahaaWMore
import Derived.Test.YtijjopioamdahaaX1
import Derived.Test.YtijjopioamdahaaDgA
import Derived.Test.YtijjopioamdahaaDgB
namespace Go.Proofs.Ytijjopioamdahaa.D
open Go.RowKit Go.Proofs.Ytijjopioamdahaa.X Go.Proofs.YtijjopioamdahaaW.PrintWords Go.Proofs.YtijjopioamdahaaW.PrintLast Go.Proofs.YtijjopioamdahaaW.PrintMore
attribute [local go_sem] max2_int min2_int max_two min_two max_three min_three max_four min_four   -- for this text's walks alone
set_option linter.unusedVariables false
set_option linter.unusedSimpArgs false
def t1F (V : List Int) (k x : Int) : Int := (rd V 7 + Go.bits .xor .u32 (Go.bits .xor .u32 (rot (rd V 4) 6) (rot (rd V 4) 11)) (rot (rd V 4) 25) + Go.bits .xor .u32 (Go.bits .and .u32 (rd V 4) (rd V 5)) (Go.bits .and .u32 (Go.bits .xor .u32 IntKind.u32.max (rd V 4)) (rd V 6)) + k + x)
def t2F (V : List Int) : Int := (Go.bits .xor .u32 (Go.bits .xor .u32 (rot (rd V 0) 2) (rot (rd V 0) 13)) (rot (rd V 0) 22) + Go.bits .xor .u32 (Go.bits .xor .u32 (Go.bits .and .u32 (rd V 0) (rd V 1)) (Go.bits .and .u32 (rd V 0) (rd V 2))) (Go.bits .and .u32 (rd V 1) (rd V 2)))
/-- One round. -/
def roundF (V : List Int) (k x : Int) : List Int := [(t1F V k x + t2F V) % 4294967296, rd V 0, rd V 1, rd V 2, (rd V 3 + t1F V k x) % 4294967296, rd V 4, rd V 5, rd V 6]
def roundsF (W : List Int) (S : List Int) : Nat → List Int
  | 0 => S
  | n + 1 => roundF (roundsF W S n) (rd KS (n : Int)) (rd W (n : Int))
theorem roundsF_len (W S : List Int) (h : S.length = 8) (n : Nat) : (roundsF W S n).length = 8 := by
  cases n with
  | zero => exact h
  | succ n => rfl
def addF (V S : List Int) : Nat → List Int
  | 0 => V
  | n + 1 => (addF V S n).set n ((rd (addF V S n) (n : Int) + rd S (n : Int)) % 4294967296)
theorem addF_len (V S : List Int) (h : V.length = 8) (n : Nat) : (addF V S n).length = 8 := by
  induction n with
  | zero => exact h
  | succ n ih => simp [addF, ih]
/-- The sum with a block more. -/
def blockF (S l : List Int) : List Int := addF (roundsF (schedT l 64) S 64) S 8
theorem blockF_len (S l : List Int) (h : S.length = 8) : (blockF S l).length = 8 := addF_len _ _ (roundsF_len _ _ h _) _
theorem gate_op {P : Program} {ops : Array Oper} {rest : List Oper} {o : Oper} {a : Act} {w : World} {Q : Exit → Act → World → Prop} (op : Op) (h : o.op = op) (k : wpList P ops Q (o :: rest) a w) : wpList P ops Q (o :: rest) a w := k
theorem ks_len : KS.length = 64 := rfl
theorem alloc55 (ev : Operand → Value) (d : Option Tmp) (ty : TypeId) (ps : String) (af : Array Edge) (W : World) :
    (execOp ev ⟨d, .alloc 55, ty, ps, af, none⟩).run Try.prog W = .ok (.value (.pointer (some ⟨W.heap.size, 0, none⟩))) (W.alloc (.cells (u32s (List.replicate 64 0)) 55 (0, 0))) := by
  kernel_rfl
theorem alloc47 (ev : Operand → Value) (d : Option Tmp) (ty : TypeId) (ps : String) (af : Array Edge) (W : World) :
    (execOp ev ⟨d, .alloc 47, ty, ps, af, none⟩).run Try.prog W = .ok (.value (.pointer (some ⟨W.heap.size, 0, none⟩))) (W.alloc (.cells (u32s (List.replicate 8 0)) 47 (0, 0))) := by
  kernel_rfl
set_option maxHeartbeats 4000000 in
set_option maxRecDepth 100000 in
theorem block_calls (S : List Int) (A : Option Addr) (c : Nat) (l : List Int) (w : World) (hS : S.length = 8) (hr : Kd.C (Kd.int .u8) w A l.length l) (hl : l.length = 64) (hc : l.length ≤ c) (h8 : ∀ i, 0 ≤ rd l i ∧ rd l i ≤ 255) :
    Calls Try.prog 27 #[.agg (u32s S), .slice A l.length c] w fun e w' => e = .returned (.agg (u32s (blockF S l))) ∧ Below w.heap.size w w' := by
  have HR := Aside0.mk hr
  have HL := Aside0.mk hl
  have HC := Aside0.mk hc
  have H8 := Aside0.mk h8
  have HS := Aside0.mk hS
  have HB := Aside0.mk (Below.refl w.heap.size w)
  have I55 : Aside0 ((Try.prog.info? 55).map (·.size) = some 64) := ⟨by kernel_rfl⟩
  have I47 : Aside0 ((Try.prog.info? 47).map (·.size) = some 8) := ⟨by kernel_rfl⟩
  clear hr hl hc h8 hS
  go_enter Try.func27, Try.ntmps27
  go_upto_region 1 with (first | ((with_reducible refine gate_dst (N := 2) rfl ?_); refine box_event ?hg (N := 2) ?hd (cs := u32s S) (t := 47) ?hr ?_; (case hd => rfl); (case hg => rfl); (case hr => first | (go_simp; done) | (go_simp; rfl)); intro g2 hg_ wa hbox hb; have n0_ := Aside0.mk (below_step HB.out hb); have G2 : Aside0 (w.heap.size ≤ g2) := ⟨by rw [hg_]; exact below_size HB.out⟩; have B2 := Aside0.mk hbox; clear HB; have HB := n0_; clear n0_ hb hbox hg_) | ((with_reducible refine gate_dst (N := 4) rfl ?_); refine box_event ?hg (N := 4) ?hd (cs := u32s (List.replicate 8 0)) (t := 47) ?hr ?_; (case hd => rfl); (case hg => rfl); (case hr => exact alloc47 _ _ _ _ _ _); intro g4 hg_ wb hbox hb; have n0_ := Aside0.mk (below_step HB.out hb); have G4 : Aside0 (w.heap.size ≤ g4) := ⟨by rw [hg_]; exact below_size HB.out⟩; have N2 := Aside0.mk (blk_lt B2.out); have m2_ := Aside0.mk (blk_below B2.out hb); have B4 := Aside0.mk hbox; have D4_2 : Aside0 (g4 ≠ g2) := ⟨by have h_ := N2.out; rw [hg_]; omega⟩; clear B2 N2; have B2 := m2_; clear m2_; clear HB; have HB := n0_; clear n0_ hb hbox hg_))
  (try simp only [Act.put, List.setIfInBounds_toArray, List.set_cons_zero, List.set_cons_succ])
  go_wp2_with (first | (go_at_call 28; refine (schedule_calls A c l _ (Kd.C_below HR.out HB.out) HL.out HC.out H8.out).mono ?_; rintro e_ wc ⟨rfl, hb⟩; have n0_ := Aside0.mk (below_step HB.out hb); have m2_ := Aside0.mk (blk_below B2.out hb); clear B2; have B2 := m2_; clear m2_; have m4_ := Aside0.mk (blk_below B4.out hb); clear B4; have B4 := m4_; clear m4_; clear HB; have HB := n0_; clear n0_ hb) | (go_at_call 29; refine (constants_calls _).mono ?_; rintro e_ wd ⟨rfl, hb⟩; have n0_ := Aside0.mk (below_step HB.out hb); have m2_ := Aside0.mk (blk_below B2.out hb); clear B2; have B2 := m2_; clear m2_; have m4_ := Aside0.mk (blk_below B4.out hb); clear B4; have B4 := m4_; clear m4_; clear HB; have HB := n0_; clear n0_ hb) | ((with_reducible refine gate_dst (N := 5) rfl ?_); refine box_event ?hg (N := 5) ?hd (cs := u32s (List.replicate 64 0)) (t := 55) ?hr ?_; (case hd => rfl); (case hg => rfl); (case hr => exact alloc55 _ _ _ _ _ _); intro g5 hg_ we hbox hb; have n0_ := Aside0.mk (below_step HB.out hb); have G5 : Aside0 (w.heap.size ≤ g5) := ⟨by rw [hg_]; exact below_size HB.out⟩; have N2 := Aside0.mk (blk_lt B2.out); have m2_ := Aside0.mk (blk_below B2.out hb); have N4 := Aside0.mk (blk_lt B4.out); have m4_ := Aside0.mk (blk_below B4.out hb); have B5 := Aside0.mk hbox; have D5_2 : Aside0 (g5 ≠ g2) := ⟨by have h_ := N2.out; rw [hg_]; omega⟩; clear B2 N2; have B2 := m2_; clear m2_; have D5_4 : Aside0 (g5 ≠ g4) := ⟨by have h_ := N4.out; rw [hg_]; omega⟩; clear B4 N4; have B4 := m4_; clear m4_; clear HB; have HB := n0_; clear n0_ hb hbox hg_) | ((with_reducible refine gate_dst (N := 6) rfl ?_); refine box_event ?hg (N := 6) ?hd (cs := u32s (List.replicate 64 0)) (t := 55) ?hr ?_; (case hd => rfl); (case hg => rfl); (case hr => exact alloc55 _ _ _ _ _ _); intro g6 hg_ wf hbox hb; have n0_ := Aside0.mk (below_step HB.out hb); have G6 : Aside0 (w.heap.size ≤ g6) := ⟨by rw [hg_]; exact below_size HB.out⟩; have N2 := Aside0.mk (blk_lt B2.out); have m2_ := Aside0.mk (blk_below B2.out hb); have N4 := Aside0.mk (blk_lt B4.out); have m4_ := Aside0.mk (blk_below B4.out hb); have N5 := Aside0.mk (blk_lt B5.out); have m5_ := Aside0.mk (blk_below B5.out hb); have B6 := Aside0.mk hbox; have D6_2 : Aside0 (g6 ≠ g2) := ⟨by have h_ := N2.out; rw [hg_]; omega⟩; clear B2 N2; have B2 := m2_; clear m2_; have D6_4 : Aside0 (g6 ≠ g4) := ⟨by have h_ := N4.out; rw [hg_]; omega⟩; clear B4 N4; have B4 := m4_; clear m4_; have D6_5 : Aside0 (g6 ≠ g5) := ⟨by have h_ := N5.out; rw [hg_]; omega⟩; clear B5 N5; have B5 := m5_; clear m5_; clear HB; have HB := n0_; clear n0_ hb hbox hg_) | ((with_reducible refine gate_op (.store 55 (.tmp 5) (.tmp 15)) rfl ?_); refine wpList_store_row rfl 55 (.tmp 5) (.tmp 15) rfl g5 (by rfl) 55 (u32s (List.replicate 64 0)) (u32s (schedT l 64)) (by rfl) B5.out (by rw [u32s_size]; simp only [schedT_len, ks_len]; exact I55.out) (by rw [u32s_size, u32s_size]; simp only [schedT_len, ks_len, List.length_replicate]) (u32s_one _) ?_; have n0_ := Aside0.mk (below_row HB.out G5.out (u32s (schedT l 64))); have z_ := Aside0.mk (setRow_heap _ _ _ (u32s (schedT l 64)) _ _ B5.out); have m2_ := Aside0.mk ((setRow_other _ g5 g2 (u32s (schedT l 64)) (by first | exact D5_2.out.symm | exact D2_5.out)).trans B2.out); have m4_ := Aside0.mk ((setRow_other _ g5 g4 (u32s (schedT l 64)) (by first | exact D5_4.out.symm | exact D4_5.out)).trans B4.out); have m6_ := Aside0.mk ((setRow_other _ g5 g6 (u32s (schedT l 64)) (by first | exact D5_6.out.symm | exact D6_5.out)).trans B6.out); clear HB B5; have HB := n0_; have B5 := z_; clear B2; have B2 := m2_; clear m2_; clear B4; have B4 := m4_; clear m4_; clear B6; have B6 := m6_; clear m6_; clear n0_ z_; (generalize hW_ : World.setRow _ g5 _ = wS5 at HB B5 B2 B4 B6 ⊢); clear hW_) | ((with_reducible refine gate_op (.store 55 (.tmp 6) (.tmp 16)) rfl ?_); refine wpList_store_row rfl 55 (.tmp 6) (.tmp 16) rfl g6 (by rfl) 55 (u32s (List.replicate 64 0)) (u32s KS) (by rfl) B6.out (by rw [u32s_size]; simp only [schedT_len, ks_len]; exact I55.out) (by rw [u32s_size, u32s_size]; simp only [schedT_len, ks_len, List.length_replicate]) (u32s_one _) ?_; have n0_ := Aside0.mk (below_row HB.out G6.out (u32s KS)); have z_ := Aside0.mk (setRow_heap _ _ _ (u32s KS) _ _ B6.out); have m2_ := Aside0.mk ((setRow_other _ g6 g2 (u32s KS) (by first | exact D6_2.out.symm | exact D2_6.out)).trans B2.out); have m4_ := Aside0.mk ((setRow_other _ g6 g4 (u32s KS) (by first | exact D6_4.out.symm | exact D4_6.out)).trans B4.out); have m5_ := Aside0.mk ((setRow_other _ g6 g5 (u32s KS) (by first | exact D6_5.out.symm | exact D5_6.out)).trans B5.out); clear HB B6; have HB := n0_; have B6 := z_; clear B2; have B2 := m2_; clear m2_; clear B4; have B4 := m4_; clear m4_; clear B5; have B5 := m5_; clear m5_; clear n0_ z_; (generalize hW_ : World.setRow _ g6 _ = wS6 at HB B6 B2 B4 B5 ⊢); clear hW_) | ((with_reducible refine gate_op (.load 47 (.tmp 2)) rfl ?_); refine wpList_load_row rfl 47 (.tmp 2) rfl g2 (by rfl) 47 (u32s S) (0, 0) _ B2.out Try.underlying47 rfl (by rw [u32s_size, HS.out]; exact I47.out) ?_) | ((with_reducible refine gate_dst (N := 7) rfl ?_); refine box_event ?hg (N := 7) ?hd (cs := u32s (List.replicate 8 0)) (t := 47) ?hr ?_; (case hd => rfl); (case hg => rfl); (case hr => exact alloc47 _ _ _ _ _ _); intro g7 hg_ wg hbox hb; have n0_ := Aside0.mk (below_step HB.out hb); have G7 : Aside0 (w.heap.size ≤ g7) := ⟨by rw [hg_]; exact below_size HB.out⟩; have N2 := Aside0.mk (blk_lt B2.out); have m2_ := Aside0.mk (blk_below B2.out hb); have N4 := Aside0.mk (blk_lt B4.out); have m4_ := Aside0.mk (blk_below B4.out hb); have N5 := Aside0.mk (blk_lt B5.out); have m5_ := Aside0.mk (blk_below B5.out hb); have N6 := Aside0.mk (blk_lt B6.out); have m6_ := Aside0.mk (blk_below B6.out hb); have B7 := Aside0.mk hbox; have D7_2 : Aside0 (g7 ≠ g2) := ⟨by have h_ := N2.out; rw [hg_]; omega⟩; clear B2 N2; have B2 := m2_; clear m2_; have D7_4 : Aside0 (g7 ≠ g4) := ⟨by have h_ := N4.out; rw [hg_]; omega⟩; clear B4 N4; have B4 := m4_; clear m4_; have D7_5 : Aside0 (g7 ≠ g5) := ⟨by have h_ := N5.out; rw [hg_]; omega⟩; clear B5 N5; have B5 := m5_; clear m5_; have D7_6 : Aside0 (g7 ≠ g6) := ⟨by have h_ := N6.out; rw [hg_]; omega⟩; clear B6 N6; have B6 := m6_; clear m6_; clear HB; have HB := n0_; clear n0_ hb hbox hg_) | ((with_reducible refine gate_op (.store 47 (.tmp 7) (.tmp 17)) rfl ?_); refine wpList_store_row rfl 47 (.tmp 7) (.tmp 17) rfl g7 (by rfl) 47 (u32s (List.replicate 8 0)) (u32s S) (by rfl) B7.out (by rw [u32s_size, HS.out]; exact I47.out) (by rw [u32s_size, u32s_size, HS.out]; rfl) (u32s_one _) ?_; have n0_ := Aside0.mk (below_row HB.out G7.out (u32s S)); have z_ := Aside0.mk (setRow_heap _ _ _ (u32s S) _ _ B7.out); have m2_ := Aside0.mk ((setRow_other _ g7 g2 (u32s S) (by first | exact D7_2.out.symm | exact D2_7.out)).trans B2.out); have m4_ := Aside0.mk ((setRow_other _ g7 g4 (u32s S) (by first | exact D7_4.out.symm | exact D4_7.out)).trans B4.out); have m5_ := Aside0.mk ((setRow_other _ g7 g5 (u32s S) (by first | exact D7_5.out.symm | exact D5_7.out)).trans B5.out); have m6_ := Aside0.mk ((setRow_other _ g7 g6 (u32s S) (by first | exact D7_6.out.symm | exact D6_7.out)).trans B6.out); clear HB B7; have HB := n0_; have B7 := z_; clear B2; have B2 := m2_; clear m2_; clear B4; have B4 := m4_; clear m4_; clear B5; have B5 := m5_; clear m5_; clear B6; have B6 := m6_; clear m6_; clear n0_ z_; (generalize hW_ : World.setRow _ g7 _ = wS7 at HB B7 B2 B4 B5 B6 ⊢); clear hW_))
  obtain ⟨W, hW⟩ : ∃ W, W = schedT l 64 := ⟨_, rfl⟩
  have hWl : W.length = 64 := by rw [hW, schedT_len]
  rw [← hW] at B5 ⊢
  have HW := Aside0.mk hW
  have HWL := Aside0.mk hWl
  clear hW hWl
  go_loopw [18] (fun i wr => ∃ n : Nat, n ≤ 64 ∧ i = .int .i64 n ∧ Aside0 (wr.heap[g7]? = some (.cells (u32s (roundsF W S n)) 47 (0, 0))) ∧ Aside0 (wr.heap[g2]? = some (.cells (u32s S) 47 (0, 0))) ∧ Aside0 (wr.heap[g4]? = some (.cells (u32s (List.replicate 8 0)) 47 (0, 0))) ∧ Aside0 (wr.heap[g5]? = some (.cells (u32s W) 55 (0, 0))) ∧ Aside0 (wr.heap[g6]? = some (.cells (u32s KS) 55 (0, 0))) ∧ Aside0 (Below w.heap.size w wr)) (fun i _ => 64 - (intOf i).toNat)
  case atStart => exact ⟨0, by omega, rfl, B7, B2, B4, B5, B6, HB⟩
  case round =>
    clear HB B2 B4 B5 B6 B7
    obtain ⟨n, hn, rfl, B7, B2, B4, B5, B6, HB⟩ := hrel
    by_cases hlt : n < 64
    · obtain ⟨V, hV⟩ : ∃ V, V = roundsF W S n := ⟨_, rfl⟩
      have hVl : V.length = 8 := by rw [hV, roundsF_len _ _ HS.out]
      have hVn : roundsF W S (n + 1) = roundF V (rd KS (n : Int)) (rd W (n : Int)) := by rw [hV]; rfl
      rw [← hV] at B7
      have hc0 : wr.cell? ⟨g7, 0, none⟩ = some (.int .u32 (rd V 0)) := (blk_cell B7.out 0).trans (u32s_get V 0 (by omega))
      have hc1 : wr.cell? ⟨g7, 1, none⟩ = some (.int .u32 (rd V 1)) := (blk_cell B7.out 1).trans (u32s_get V 1 (by omega))
      have hc2 : wr.cell? ⟨g7, 2, none⟩ = some (.int .u32 (rd V 2)) := (blk_cell B7.out 2).trans (u32s_get V 2 (by omega))
      have hc3 : wr.cell? ⟨g7, 3, none⟩ = some (.int .u32 (rd V 3)) := (blk_cell B7.out 3).trans (u32s_get V 3 (by omega))
      have hc4 : wr.cell? ⟨g7, 4, none⟩ = some (.int .u32 (rd V 4)) := (blk_cell B7.out 4).trans (u32s_get V 4 (by omega))
      have hc5 : wr.cell? ⟨g7, 5, none⟩ = some (.int .u32 (rd V 5)) := (blk_cell B7.out 5).trans (u32s_get V 5 (by omega))
      have hc6 : wr.cell? ⟨g7, 6, none⟩ = some (.int .u32 (rd V 6)) := (blk_cell B7.out 6).trans (u32s_get V 6 (by omega))
      have hc7 : wr.cell? ⟨g7, 7, none⟩ = some (.int .u32 (rd V 7)) := (blk_cell B7.out 7).trans (u32s_get V 7 (by omega))
      have hck : wr.cell? ⟨g6, n, none⟩ = some (.int .u32 (rd KS (n : Int))) := (blk_cell B6.out n).trans (u32s_get KS n (by rw [ks_len]; omega))
      have hcw : wr.cell? ⟨g5, n, none⟩ = some (.int .u32 (rd W (n : Int))) := (blk_cell B5.out n).trans (u32s_get W n (by rw [HWL.out]; omega))
      obtain ⟨kn, hkn⟩ : ∃ k, k = rd KS (n : Int) := ⟨_, rfl⟩
      obtain ⟨xn, hxn⟩ : ∃ k, k = rd W (n : Int) := ⟨_, rfl⟩
      rw [← hkn, ← hxn] at hVn
      rw [← hkn] at hck
      rw [← hxn] at hcw
      have n64 : (n : Int) < 64 := by omega
      have HV := Aside0.mk hV
      have HVL := Aside0.mk hVl
      have HVN := Aside0.mk hVn
      have HKN := Aside0.mk hkn
      have HXN := Aside0.mk hxn
      clear hV hVl hVn hkn hxn
      go_wp2
      go_quiet (fail)
      go_wp2
      go_quiet ((go_at_call 30; refine (digest_turn.calls _ _ (rot _ _) _ (rot_is _ _ (by decide) (by decide))).mono ?_; rintro e w' ⟨rfl, ⟨⟨nd, rfl⟩⟩⟩; first | exact ⟨rfl, _, World.drewN_drewN _ _ _⟩ | exact ⟨rfl, _, Eq.trans (World.drewN_drewN _ _ _) (congrArg (World.drewN _) (Nat.add_assoc _ _ _))⟩))
      go_wp2
      go_quiet ((go_at_call 30; refine (digest_turn.calls _ _ (rot _ _) _ (rot_is _ _ (by decide) (by decide))).mono ?_; rintro e w' ⟨rfl, ⟨⟨nd, rfl⟩⟩⟩; first | exact ⟨rfl, _, World.drewN_drewN _ _ _⟩ | exact ⟨rfl, _, Eq.trans (World.drewN_drewN _ _ _) (congrArg (World.drewN _) (Nat.add_assoc _ _ _))⟩))
      go_upto_region 9 with (fail)
      clear hc0 hc1 hc2 hc3 hc4 hc5 hc6 hc7 hck hcw
      generalize hwq_ : World.drewN (World.drewN wr _) _ = wq
      have m7_ : Aside0 (wq.heap[g7]? = some (.cells (u32s V) 47 (0, 0))) := ⟨by rw [← hwq_]; exact B7.out⟩
      have m2_ : Aside0 (wq.heap[g2]? = some (.cells (u32s S) 47 (0, 0))) := ⟨by rw [← hwq_]; exact B2.out⟩
      have m4_ : Aside0 (wq.heap[g4]? = some (.cells (u32s (List.replicate 8 0)) 47 (0, 0))) := ⟨by rw [← hwq_]; exact B4.out⟩
      have m5_ : Aside0 (wq.heap[g5]? = some (.cells (u32s W) 55 (0, 0))) := ⟨by rw [← hwq_]; exact B5.out⟩
      have m6_ : Aside0 (wq.heap[g6]? = some (.cells (u32s KS) 55 (0, 0))) := ⟨by rw [← hwq_]; exact B6.out⟩
      have m_ : Aside0 (Below w.heap.size w wq) := ⟨by rw [← hwq_]; exact pw_below_drewN (pw_below_drewN HB.out _) _⟩
      clear hwq_ B7 B2 B4 B5 B6 HB
      have B7 := m7_
      have B2 := m2_
      have B4 := m4_
      have B5 := m5_
      have B6 := m6_
      have HB := m_
      clear m7_ m2_ m4_ m5_ m6_ m_
      have hd1 : wq.cell? ⟨g7, 1, none⟩ = some (.int .u32 (rd V 1)) := (blk_cell B7.out 1).trans (u32s_get V 1 (by rw [HVL.out]; decide))
      have hd2 : wq.cell? ⟨g7, 2, none⟩ = some (.int .u32 (rd V 2)) := (blk_cell B7.out 2).trans (u32s_get V 2 (by rw [HVL.out]; decide))
      have hd3 : wq.cell? ⟨g7, 3, none⟩ = some (.int .u32 (rd V 3)) := (blk_cell B7.out 3).trans (u32s_get V 3 (by rw [HVL.out]; decide))
      have hd5 : wq.cell? ⟨g7, 5, none⟩ = some (.int .u32 (rd V 5)) := (blk_cell B7.out 5).trans (u32s_get V 5 (by rw [HVL.out]; decide))
      have hd6 : wq.cell? ⟨g7, 6, none⟩ = some (.int .u32 (rd V 6)) := (blk_cell B7.out 6).trans (u32s_get V 6 (by rw [HVL.out]; decide))
      go_wp2_with (((with_reducible refine gate_op (.store 47 (.tmp 7) (.tmp 96)) rfl ?_); refine wpList_store_row rfl 47 (.tmp 7) (.tmp 96) rfl g7 (by rfl) 47 (u32s V) (u32s (roundF V kn xn)) (by rfl) B7.out (by rw [u32s_size]; exact I47.out) (by rw [u32s_size, u32s_size, HVL.out]; rfl) (u32s_one _) ?_))
      go_roundw
      case rel =>
        refine ⟨n + 1, by omega, by go_num, ⟨?_⟩, ⟨(setRow_other _ _ _ _ D7_2.out.symm).trans B2.out⟩, ⟨(setRow_other _ _ _ _ D7_4.out.symm).trans B4.out⟩, ⟨(setRow_other _ _ _ _ D7_5.out.symm).trans B5.out⟩, ⟨(setRow_other _ _ _ _ D7_6.out.symm).trans B6.out⟩, ⟨below_row HB.out G7.out _⟩⟩
        rw [HVN.out]
        exact setRow_heap _ _ _ _ _ _ B7.out
      case measure => simp [intOf]; omega
    · have hn64 : n = 64 := by omega
      subst hn64
      clear hlt hn
      rw [show ((64 : Nat) : Int) = (64 : Int) from rfl]
      obtain ⟨V, hV⟩ : ∃ V, V = roundsF W S 64 := ⟨_, rfl⟩
      have hVl : V.length = 8 := by rw [hV, roundsF_len _ _ HS.out]
      rw [← hV] at B7
      have HV := Aside0.mk hV
      have HVL := Aside0.mk hVl
      clear hV hVl
      go_wp2
      go_loopw [98] (fun i wr => ∃ n : Nat, n ≤ 8 ∧ i = .int .i64 n ∧ Aside0 (wr.heap[g7]? = some (.cells (u32s (addF V S n)) 47 (0, 0))) ∧ Aside0 (wr.heap[g2]? = some (.cells (u32s S) 47 (0, 0))) ∧ Aside0 (wr.heap[g4]? = some (.cells (u32s (List.replicate 8 0)) 47 (0, 0))) ∧ Aside0 (Below w.heap.size w wr)) (fun i _ => 8 - (intOf i).toNat)
      case atStart => exact ⟨0, by omega, rfl, B7, B2, B4, HB⟩
      case round =>
        clear HB B2 B4 B5 B6 B7
        obtain ⟨n, hn, rfl, B7, B2, B4, HB⟩ := hrel
        by_cases hlt : n < 8
        · obtain ⟨Y, hY⟩ : ∃ Y, Y = addF V S n := ⟨_, rfl⟩
          have hYl : Y.length = 8 := by rw [hY, addF_len _ _ HVL.out]
          have hYn : addF V S (n + 1) = Y.set n ((rd Y (n : Int) + rd S (n : Int)) % 4294967296) := by rw [hY]; rfl
          rw [← hY] at B7
          have hc7 := (blk_cell B7.out n).trans (u32s_get Y n (by omega))
          have hc2 := (blk_cell B2.out n).trans (u32s_get S n (by rw [HS.out]; omega))
          have hf7 := blk_frozen B7.out n
          have n8 : (n : Int) < 8 := by omega
          have HYN := Aside0.mk hYn
          clear hY hYl hYn
          go_wp2
          refine start_ (n := 9) (S := fun w_ => w_.cell? ⟨g7, n, none⟩ = some (.int .u32 (rd Y (n : Int))) ∧ w_.cell? ⟨g2, n, none⟩ = some (.int .u32 (rd S (n : Int))) ∧ w_.frozen? ⟨g7, n, none⟩ = false) (ds := [8]) #[false, false, false, false, false, false, false, false, false] (by kernel_rfl) rfl rfl ⟨hc7, hc2, hf7⟩ (fun hHeld => ?_)
          refine pure_ (i := 0) (N := some 101) (v := ?_) (a' := ?_) #[true, false, false, false, false, false, false, false, false] rfl rfl (by kernel_rfl) (fun _ _ _ h => h) (Or.inl ⟨by rfl, ?_⟩) ?_ ?_
          rotate_left
          · intro w'
            go_simp
            with_reducible rfl
          rotate_left
          · simp only [Act.put, List.setIfInBounds_toArray, List.set_cons_zero, List.set_cons_succ, i64_w, i32_w]
            rfl
          refine pure_ (i := 1) (N := some 102) (v := ?_) (a' := ?_) #[true, true, false, false, false, false, false, false, false] rfl rfl (by kernel_rfl) (fun _ _ _ h => h) (Or.inl ⟨by rfl, ?_⟩) ?_ ?_
          rotate_left
          · intro w'
            go_simp
            with_reducible rfl
          rotate_left
          · simp only [Act.put, List.setIfInBounds_toArray, List.set_cons_zero, List.set_cons_succ, i64_w, i32_w]
            rfl
          refine take_ (i := 2) (N := some 103) (v := ?_) (a' := ?_) #[true, true, true, false, false, false, false, false, false] rfl rfl (by kernel_rfl) (fun _ _ _ h => h) (Or.inl ⟨by rfl, ?_⟩) hHeld ?_ ?_
          rotate_left
          · rintro w' ⟨hs0_, hs1_, hs2_⟩
            go_simp
            with_reducible rfl
          rotate_left
          · simp only [Act.put, List.setIfInBounds_toArray, List.set_cons_zero, List.set_cons_succ, i64_w, i32_w]
            rfl
          refine pure_ (i := 3) (N := some 104) (v := ?_) (a' := ?_) #[true, true, true, true, false, false, false, false, false] rfl rfl (by kernel_rfl) (fun _ _ _ h => h) (Or.inl ⟨by rfl, ?_⟩) ?_ ?_
          rotate_left
          · intro w'
            go_simp
            with_reducible rfl
          rotate_left
          · simp only [Act.put, List.setIfInBounds_toArray, List.set_cons_zero, List.set_cons_succ, i64_w, i32_w]
            rfl
          refine pure_ (i := 4) (N := some 105) (v := ?_) (a' := ?_) #[true, true, true, true, true, false, false, false, false] rfl rfl (by kernel_rfl) (fun _ _ _ h => h) (Or.inl ⟨by rfl, ?_⟩) ?_ ?_
          rotate_left
          · intro w'
            go_simp
            with_reducible rfl
          rotate_left
          · simp only [Act.put, List.setIfInBounds_toArray, List.set_cons_zero, List.set_cons_succ, i64_w, i32_w]
            rfl
          refine take_ (i := 5) (N := some 106) (v := ?_) (a' := ?_) #[true, true, true, true, true, true, false, false, false] rfl rfl (by kernel_rfl) (fun _ _ _ h => h) (Or.inl ⟨by rfl, ?_⟩) hHeld ?_ ?_
          rotate_left
          · rintro w' ⟨hs0_, hs1_, hs2_⟩
            go_simp
            with_reducible rfl
          rotate_left
          · simp only [Act.put, List.setIfInBounds_toArray, List.set_cons_zero, List.set_cons_succ, i64_w, i32_w]
            rfl
          refine pure_ (i := 6) (N := some 107) (v := ?_) (a' := ?_) #[true, true, true, true, true, true, true, false, false] rfl rfl (by kernel_rfl) (fun _ _ _ h => h) (Or.inl ⟨by rfl, ?_⟩) ?_ ?_
          rotate_left
          · intro w'
            go_simp
            with_reducible rfl
          rotate_left
          · simp only [Act.put, List.setIfInBounds_toArray, List.set_cons_zero, List.set_cons_succ, i64_w, i32_w]
            rfl
          refine pure_ (i := 7) (N := some 108) (v := ?_) (a' := ?_) #[true, true, true, true, true, true, true, true, false] rfl rfl (by kernel_rfl) (fun _ _ _ h => h) (Or.inl ⟨by rfl, ?_⟩) ?_ ?_
          rotate_left
          · intro w'
            go_simp
            with_reducible rfl
          rotate_left
          · simp only [Act.put, List.setIfInBounds_toArray, List.set_cons_zero, List.set_cons_succ, i64_w, i32_w]
            rfl
          refine last_ (i := 8) (N := none) #[true, true, true, true, true, true, true, true, true] rfl rfl (by kernel_rfl) (by decide) (fun K hK => ?_)
          rw [if_pos (by rfl)]
          go_simp
          refine hK.out _ _ ?_
          clear hK K
          refine done_ (by kernel_rfl) ?_
          go_wp2
          go_roundw
          case rel =>
            refine ⟨n + 1, by omega, by go_num, ⟨?_⟩, ⟨blk_far B2.out (p := ⟨g7, n, none⟩) D7_2.out.symm _⟩, ⟨blk_far B4.out (p := ⟨g7, n, none⟩) D7_4.out.symm _⟩, ⟨below_drew1 (below_set HB.out G7.out)⟩⟩
            rw [HYN.out, ← u32s_set]
            exact blk_set B7.out n _
          case measure => simp [intOf]; omega
        · have hn8 : n = 8 := by omega
          subst hn8
          clear hlt hn
          rw [show ((8 : Nat) : Int) = (8 : Int) from rfl]
          have HYL := Aside0.mk (addF_len V S HVL.out 8)
          go_wp2_with (first | ((with_reducible refine gate_op (.load 47 (.tmp 7)) rfl ?_); refine wpList_load_row rfl 47 (.tmp 7) rfl g7 (by rfl) 47 (u32s (addF V S 8)) (0, 0) _ B7.out Try.underlying47 rfl (by rw [u32s_size, HYL.out]; exact I47.out) ?_) | ((with_reducible refine gate_op (.store 47 (.tmp 4) (.tmp 110)) rfl ?_); refine wpList_store_row rfl 47 (.tmp 4) (.tmp 110) rfl g4 (by rfl) 47 (u32s (List.replicate 8 0)) (u32s (addF V S 8)) (by rfl) B4.out (by rw [u32s_size, HYL.out]; exact I47.out) (by rw [u32s_size, u32s_size, HYL.out]; rfl) (u32s_one _) ?_))
          refine bodyPost_ret (results_cell_row rfl _ _ g4 47 (u32s (addF V S 8)) (0, 0) _ rfl (setRow_heap _ _ _ _ _ _ B4.out) Try.underlying47 rfl (by rw [u32s_size, HYL.out]; exact I47.out)) rfl ⟨?_, below_row HB.out G4.out _⟩
          rw [HV.out, HW.out]
          rfl
end Go.Proofs.Ytijjopioamdahaa.D
