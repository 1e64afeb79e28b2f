/- The sum with all whole blocks of some bytes more: the walk. -/
import Derived.Test.YtijjopioamdahaaProg
import Derived.Below
import Derived.Deep.Draws
import Derived.Deep.AppendLies
import Derived.Maps.AppendAt
import Derived.OwnWalk
import Derived.Laws.BytesArg
import Derived.Laws.MakeOwn
import Derived.Laws.OwnMore
import Derived.Deep.OwnRows
import Derived.Tactics
import Derived.Lib.ConvBytes
import Derived.Laws.Slices
import Derived.WalkKit
import Derived.KernelRfl
import Derived.RowKit3
import Derived.Deep.LoopGhost
import Derived.Deep.QuietTactic
import Derived.BigQuiet
import Derived.WideLaws
import Derived.Deep.DeepCutAuto
import Derived.Deep.CutBlock
import Derived.Deep.RegionHeld3
import Derived.Laws.Rows
import Derived.Lib.AppendStr
import Derived.ArgAppend
import Derived.Laws.IdiomCopy
import Derived.OrdersHeld
import Derived.Laws.BitsLemmas
import Derived.RowKit
import Derived.Test.YtijjopioamdahaaWWords
import Derived.Test.YtijjopioamdahaaWLast
import Derived.Test.YtijjopioamdahaaWTab
import Derived.Test.YtijjopioamdahaaWQPut
import Derived.Test.YtijjopioamdahaaWApart
import Derived.Test.YtijjopioamdahaaWArr
import Derived.Test.YtijjopioamdahaaWZeros
import Derived.Test.YtijjopioamdahaaWFoot
import Derived.Test.YtijjopioamdahaaWKept
import Derived.Test.YtijjopioamdahaaWShare
import Derived.Test.YtijjopioamdahaaWN
import Derived.Test.YtijjopioamdahaaWEqStruct
import Derived.Test.YtijjopioamdahaaWGuard
import Derived.Test.YtijjopioamdahaaWNEv
import Derived.Test.YtijjopioamdahaaWMore
import Derived.Test.YtijjopioamdahaaX1
import Derived.Test.YtijjopioamdahaaDgA
import Derived.Test.YtijjopioamdahaaDgB
import Derived.Test.YtijjopioamdahaaDgC
namespace Go.Proofs.Ytijjopioamdahaa.D
open Go.RowKit Go.Proofs.Ytijjopioamdahaa.X Go.Proofs.YtijjopioamdahaaW.PrintWords Go.Proofs.YtijjopioamdahaaW.PrintLast Go.Proofs.YtijjopioamdahaaW.PrintMore
attribute [local go_sem] max2_int min2_int max_two min_two max_three min_three max_four min_four   -- for this text's walks alone
set_option linter.unusedVariables false
set_option linter.unusedSimpArgs false
theorem exec_load_row {P : Program} (ev : Operand → Value) (d : Option Tmp) (ty : TypeId) (x : Operand) (tp : TypeId) (ps : String) (af : Array Edge) (gd : Option (Nat × Bool)) (w : World) (g : Nat) (t : TypeId) (cs : Array Value) (fr : Nat × Nat) (ds : TypeDesc)
    (hx : ev x = .pointer (some ⟨g, 0, none⟩)) (hg : w.heap[g]? = some (.cells cs t fr)) (hu : P.underlying ty = some ds) (hd : (match ds with | .struct _ | .array _ _ => true | _ => false) = true) (hi : (P.info? ty).map (·.size) = some cs.size) :
    (execOp ev ⟨d, .load ty x, tp, ps, af, gd⟩).run P w = .ok (.value (.agg cs)) w := by
  unfold execOp
  simp only [hx, Instr.loadAt, Instr.sureAddr, Sem.run_bind, Sem.run_pure, Result.andThen_ok, run_loadVar_row w g t ty cs fr ds hg hu hd hi]
theorem rd_all {l : List Int} (h : ∀ x ∈ l, 0 ≤ x ∧ x ≤ 255) (i : Int) : 0 ≤ rd l i ∧ rd l i ≤ 255 := by
  unfold rd
  rw [List.getD_eq_getElem?_getD]
  rcases Nat.lt_or_ge i.toNat l.length with hi | hi
  · rw [List.getElem?_eq_getElem hi]; exact h _ (List.getElem_mem hi)
  · rw [List.getElem?_eq_none hi]; exact ⟨by decide, by decide⟩
/-- The sum with n blocks more. -/
def blkN (S l : List Int) : Nat → List Int
  | 0 => S
  | n + 1 => blockF (blkN S l n) ((l.drop (64 * n)).take 64)
theorem blkN_len (S l : List Int) (h : S.length = 8) (n : Nat) : (blkN S l n).length = 8 := by
  induction n with
  | zero => exact h
  | succ n ih => exact blockF_len _ _ ih
theorem cut64 (A : Option Addr) (n c : Nat) (h : 64 ≤ n) (hc : n ≤ c) (W : World) :
    (Instr.slice 22 (.slice A n c) none (some (.int .i64 64)) (some (.int .i64 64))).run Try.prog W = .ok (.slice A 64 64) W := by
  obtain ⟨i, hi, _, hs, _⟩ := info_parts info5
  have hel : Try.prog.elem 22 = 5 := by kernel_rfl
  rw [run_slice_hm W 22 A n c (by rw [hel]; exact Try.underlying22) .i64 .i64 64 64 (by omega) (Int.le_refl _) (by omega), hel]
  simp [sizeOf, typeInfo, hi, hs, sliced, go_sem]
set_option maxHeartbeats 4000000 in
set_option maxRecDepth 100000 in
theorem blocks_calls (S : List Int) (A : Option Addr) (c : Nat) (l : List Int) (w : World) (hS : S.length = 8) (hr : Kd.C (Kd.int .u8) w A l.length l) (hc : l.length ≤ c) (hl : l.length ≤ 1000000000000) (h8 : ∀ x ∈ l, 0 ≤ x ∧ x ≤ 255) :
    Calls Try.prog 25 #[.agg (u32s S), .slice A l.length c] w fun e w' => ∃ A' c', e = .returned (.tuple #[.agg (u32s (blkN S l (l.length / 64))), .slice A' (l.drop (64 * (l.length / 64))).length c']) ∧ Kd.C (Kd.int .u8) w' A' (l.drop (64 * (l.length / 64))).length (l.drop (64 * (l.length / 64))) ∧ (l.drop (64 * (l.length / 64))).length ≤ c' ∧ Below w.heap.size w w' := by
  have HR := Aside0.mk hr
  have HL := Aside0.mk hl
  have HC := Aside0.mk hc
  have H8 := Aside0.mk h8
  have HS := Aside0.mk hS
  have HB := Aside0.mk (Below.refl w.heap.size w)
  have I47 : Aside0 ((Try.prog.info? 47).map (·.size) = some 8) := ⟨by kernel_rfl⟩
  clear hr hl hc h8 hS
  go_enter Try.func25, Try.ntmps25
  go_wp2_with (first | ((with_reducible refine gate_dst (N := 2) rfl ?_); refine box_event ?hg (N := 2) ?hd (cs := u32s S) (t := 47) ?hr ?_; (case hd => rfl); (case hg => rfl); (case hr => first | (go_simp; done) | (go_simp; rfl)); intro g2 hg_ wa hbox hb; have n0_ := Aside0.mk (below_step HB.out hb); have G2 : Aside0 (w.heap.size ≤ g2) := ⟨by rw [hg_]; exact below_size HB.out⟩; have B2 := Aside0.mk hbox; clear HB; have HB := n0_; clear n0_ hb hbox hg_) | ((with_reducible refine gate_dst (N := 4) rfl ?_); refine box_event ?hg (N := 4) ?hd (cs := u32s (List.replicate 8 0)) (t := 47) ?hr ?_; (case hd => rfl); (case hg => rfl); (case hr => exact alloc47 _ _ _ _ _ _); intro g4 hg_ wb hbox hb; have n0_ := Aside0.mk (below_step HB.out hb); have G4 : Aside0 (w.heap.size ≤ g4) := ⟨by rw [hg_]; exact below_size HB.out⟩; have N2 := Aside0.mk (blk_lt B2.out); have m2_ := Aside0.mk (blk_below B2.out hb); have B4 := Aside0.mk hbox; have D4_2 : Aside0 (g4 ≠ g2) := ⟨by have h_ := N2.out; rw [hg_]; omega⟩; clear B2 N2; have B2 := m2_; clear m2_; clear HB; have HB := n0_; clear n0_ hb hbox hg_))
  go_loopw [1] (fun b wr => ∃ (n : Nat) (A' : Option Addr) (c' : Nat) (xs : List Int), 64 * n ≤ l.length ∧ xs = l.drop (64 * n) ∧ b = .slice A' xs.length c' ∧ xs.length ≤ c' ∧ Aside0 (Kd.C (Kd.int .u8) w A' xs.length xs) ∧ Aside0 (wr.heap[g2]? = some (.cells (u32s (blkN S l n)) 47 (0, 0))) ∧ Aside0 (wr.heap[g4]? = some (.cells (u32s (List.replicate 8 0)) 47 (0, 0))) ∧ Aside0 (Below w.heap.size w wr)) (fun b _ => match b with | .slice _ m _ => m | _ => 0)
  case atStart => exact ⟨0, A, c, l, by omega, rfl, rfl, HC.out, HR, B2, B4, HB⟩
  case round =>
    clear HB B2 B4
    obtain ⟨n, A', c', xs, hn, hxs, rfl, hxc, HX, B2, B4, HB⟩ := hrel
    have hxl : xs.length = l.length - 64 * n := by rw [hxs, List.length_drop]
    have HXS := Aside0.mk hxs
    have HXL := Aside0.mk hxl
    have hbd : (xs.length : Int) ≤ 1000000000000 := by have := HL.out; omega
    clear hxs hxl
    by_cases hlt : 64 ≤ xs.length
    · obtain ⟨Y, hY⟩ : ∃ Y, Y = blkN S l n := ⟨_, rfl⟩
      have hYl : Y.length = 8 := by rw [hY, blkN_len _ _ HS.out]
      rw [← hY] at B2
      obtain ⟨ys, hys⟩ : ∃ ys, ys = xs.take 64 := ⟨_, rfl⟩
      have hyl : ys.length = 64 := by rw [hys, List.length_take]; omega
      have HYC : Aside0 (Kd.C (Kd.int .u8) w A' ys.length ys) := ⟨by rw [hys]; exact Kd.C_take HX.out hlt⟩
      have hY2 : blkN S l (n + 1) = blockF Y ys := by rw [hY, hys, HXS.out]; rfl
      have hcut : ∀ W : World, (Instr.slice 22 (.slice A' xs.length c') none (some (.int .i64 64)) (some (.int .i64 64))).run Try.prog W = .ok (.slice A' ys.length 64) W := by
        intro W; rw [hyl]; exact cut64 A' xs.length c' hlt hxc W
      obtain ⟨zs, hzs⟩ : ∃ zs, zs = xs.drop 64 := ⟨_, rfl⟩
      have hzl : zs.length = xs.length - 64 := by rw [hzs, List.length_drop]
      obtain ⟨Az, hAz⟩ : ∃ Az, Az = (if c' = 64 then A' else A'.map (·.add (64 * (Kd.int .u8).sz))) := ⟨_, rfl⟩
      have hcut2 : ∀ W : World, (Instr.slice 22 (.slice A' xs.length c') (some (.int .i64 64)) none none).run Try.prog W = .ok (.slice Az zs.length (c' - 64)) W := by
        obtain ⟨i, hi, _, hs, _⟩ := info_parts info5
        intro W
        have h := cut_from (P := Try.prog) 22 5 .i64 Try.underlying22 hi 1 hs A' xs.length c' 64 (by omega) (by omega) W
        rw [h, hAz, hzl]
        rfl
      have HZC : Aside0 (Kd.C (Kd.int .u8) w Az zs.length zs) := ⟨by rw [hAz, hzs]; exact Kd.C_drop HX.out hlt hxc⟩
      have hy8 : ∀ i, 0 ≤ rd ys i ∧ rd ys i ≤ 255 := by
        intro i
        refine rd_all (fun x hx => ?_) i
        rw [hys, HXS.out] at hx
        exact H8.out x (List.mem_of_mem_drop (List.mem_of_mem_take hx))
      have hge : ((xs.length : Int) ≥ 64) := by omega
      have hge' : decide ((64 : Int) ≤ (xs.length : Int)) = true := by simp; omega
      have HY := Aside0.mk hY
      have HYL := Aside0.mk hYl
      have HYS := Aside0.mk hys
      have HYSL := Aside0.mk hyl
      have HY2 := Aside0.mk hY2
      have HZS := Aside0.mk hzs
      have HZL := Aside0.mk hzl
      have HY8 := Aside0.mk hy8
      have HXC := Aside0.mk hxc
      have HN := Aside0.mk hn
      clear hY hYl hys hyl hY2 hzs hzl hy8 hAz hxc hn
      go_wp2
      refine start_ (n := 5) (S := fun w_ => Aside0 (w_.heap[g2]? = some (.cells (u32s Y) 47 (0, 0))) ∧ Aside0 (w_.heap[g4]? = some (.cells (u32s (List.replicate 8 0)) 47 (0, 0))) ∧ Aside0 (Below w.heap.size w w_)) (ds := [4]) #[false, false, false, false, false] (by kernel_rfl) rfl rfl ⟨⟨blk_drew B2.out⟩, ⟨blk_drew B4.out⟩, ⟨below_drew1 HB.out⟩⟩ (fun hHeld => ?_)
      refine take_ (i := 0) (N := some 9) (v := .agg (u32s Y)) (a' := ?_) #[true, false, false, false, false] rfl rfl (by kernel_rfl) (fun _ _ _ h => h) (Or.inl ⟨by rfl, fun w' hS_ => exec_load_row _ _ 47 (.tmp 2) _ _ _ _ _ g2 47 (u32s Y) (0, 0) _ rfl hS_.1.out Try.underlying47 rfl (by rw [u32s_size, HYL.out]; exact I47.out)⟩) hHeld ?_ ?_
      rotate_left
      · simp only [Act.put, List.setIfInBounds_toArray, List.set_cons_zero, List.set_cons_succ, i64_w, i32_w]
        rfl
      refine pure_ (i := 1) (N := some 10) (v := ?_) (a' := ?_) #[true, true, false, false, false] rfl rfl (by kernel_rfl) (fun _ _ _ h => h) (Or.inl ⟨by rfl, ?_⟩) ?_ ?_
      rotate_left
      · intro w'
        go_simp
        with_reducible rfl
      rotate_left
      · simp only [Act.put, List.setIfInBounds_toArray, List.set_cons_zero, List.set_cons_succ, i64_w, i32_w]
        rfl
      refine pure_ (i := 2) (N := some 11) (v := ?_) (a' := ?_) #[true, true, true, false, false] rfl rfl (by kernel_rfl) (fun _ _ _ h => h) (Or.inl ⟨by rfl, ?_⟩) ?_ ?_
      rotate_left
      · intro w'
        go_simp
        with_reducible rfl
      rotate_left
      · simp only [Act.put, List.setIfInBounds_toArray, List.set_cons_zero, List.set_cons_succ, i64_w, i32_w]
        rfl
      refine one_ (i := 3) (N := some 12) #[true, true, true, true, false] rfl rfl (by kernel_rfl) (by decide) (fun K hK => ?_)
      refine goes_ Try.func27 (by kernel_rfl) rfl #[.agg (u32s Y), .slice A' ys.length 64] (by rfl) rfl rfl (by simp only [List.map_toArray, List.map_cons, List.map_nil]; rfl) ?_
      refine (block_calls Y A' 64 ys _ HYL.out (Kd.C_below HYC.out hHeld.2.2.out) HYSL.out (by rw [HYSL.out]; decide) HY8.out).mono ?_
      rintro e w1 ⟨rfl, hb⟩
      refine ⟨_, rfl, ?_⟩
      refine hK.out _ _ ⟨⟨blk_below hHeld.1.out hb⟩, ⟨blk_below hHeld.2.1.out hb⟩, ⟨below_step hHeld.2.2.out hb⟩⟩ (fun hHeld => ?_)
      clear hK K hb
      refine norm_ (a' := ?_) ?_ ?_
      rotate_left
      · show Act.put _ (some 12) _ = _
        simp only [Act.put, List.setIfInBounds_toArray, List.set_cons_zero, List.set_cons_succ, i64_w, i32_w]
        rfl
      have HBL := Aside0.mk (blockF_len Y ys HYL.out)
      refine last_ (i := 4) (N := none) #[true, true, true, true, true] rfl rfl (by kernel_rfl) (by decide) (fun K hK => ?_)
      rw [if_pos (by rfl)]
      refine wp_store_row 47 (.tmp 2) (.tmp 12) rfl g2 (by rfl) 47 (u32s Y) (u32s (blockF Y ys)) (by rfl) hHeld.1.out (by rw [u32s_size, HBL.out]; exact I47.out) (by rw [u32s_size, u32s_size, HBL.out, HYL.out]) (u32s_one _) ?_
      refine hK.out _ _ ?_
      clear hK K
      have m2 := Aside0.mk (setRow_heap _ _ _ (u32s (blockF Y ys)) _ _ hHeld.1.out)
      have m4 := Aside0.mk ((setRow_other _ g2 g4 (u32s (blockF Y ys)) D4_2.out).trans hHeld.2.1.out)
      have mB := Aside0.mk (below_row hHeld.2.2.out G2.out (u32s (blockF Y ys)))
      generalize World.setRow w1 g2 _ = wq at m2 m4 mB ⊢
      refine done_ (by kernel_rfl) ?_
      go_wp2
      go_roundw
      case rel =>
        have hzs := HZS.out
        refine ⟨n + 1, Az, c' - 64, zs, by have := HXL.out; have := HN.out; omega, ?_, rfl, by have := HZL.out; have := HXC.out; omega, HZC, ⟨by rw [HY2.out]; exact m2.out⟩, m4, mB⟩
        rw [hzs, HXS.out, List.drop_drop]
        exact congrArg (fun k => List.drop k l) (by omega)
      case measure => have := HZL.out; simp; omega
    · have hd : decide ((64 : Int) ≤ (xs.length : Int)) = false := by simp; omega
      have hn' : n = l.length / 64 := by have := HXL.out; omega
      have HN' := Aside0.mk hn'
      have HXC := Aside0.mk hxc
      clear hn' hxc
      have HYL := Aside0.mk (blkN_len S l HS.out n)
      go_wp2_with (first | ((with_reducible refine gate_op (.load 47 (.tmp 2)) rfl ?_); refine wpList_load_row rfl 47 (.tmp 2) rfl g2 (by rfl) 47 (u32s (blkN S l n)) (0, 0) _ B2.out Try.underlying47 rfl (by rw [u32s_size, HYL.out]; exact I47.out) ?_) | ((with_reducible refine gate_op (.store 47 (.tmp 4) (.tmp 15)) rfl ?_); refine wpList_store_row rfl 47 (.tmp 4) (.tmp 15) rfl g4 (by rfl) 47 (u32s (List.replicate 8 0)) (u32s (blkN S l n)) (by rfl) B4.out (by rw [u32s_size, HYL.out]; exact I47.out) (by rw [u32s_size, u32s_size, HYL.out]; rfl) (u32s_one _) ?_))
      refine bodyPost_ret (results_ct rfl _ _ g4 47 (u32s (blkN S l n)) (0, 0) _ rfl (setRow_heap _ _ _ _ _ _ B4.out) Try.underlying47 rfl (by rw [u32s_size, HYL.out]; exact I47.out)) rfl ?_
      have hn' := HN'.out
      have hxs := HXS.out
      subst hn'
      refine ⟨A', c', by rw [← hxs]; rfl, ?_, by rw [← hxs]; exact HXC.out, below_row HB.out G4.out _⟩
      rw [← hxs]
      exact Kd.C_below HX.out (below_row HB.out G4.out _)
end Go.Proofs.Ytijjopioamdahaa.D
