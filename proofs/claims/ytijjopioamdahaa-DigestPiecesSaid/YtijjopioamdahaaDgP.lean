/- blocks and Add again: where the slice that is left lies. -/
import Derived.Test.YtijjopioamdahaaProg
import Derived.Below
import Derived.Deep.Draws
import Derived.Deep.AppendLies
import Derived.Maps.AppendAt
import Derived.OwnWalk
import Derived.Laws.BytesArg
import Derived.Laws.MakeOwn
import Derived.Laws.OwnMore
import Derived.Deep.OwnRows
import Derived.Tactics
import Derived.Lib.ConvBytes
import Derived.Laws.Slices
import Derived.WalkKit
import Derived.KernelRfl
import Derived.RowKit3
import Derived.Deep.LoopGhost
import Derived.Deep.QuietTactic
import Derived.BigQuiet
import Derived.WideLaws
import Derived.Deep.DeepCutAuto
import Derived.Deep.CutBlock
import Derived.Deep.RegionHeld3
import Derived.Laws.Rows
import Derived.Lib.AppendStr
import Derived.ArgAppend
import Derived.Laws.IdiomCopy
import Derived.OrdersHeld
import Derived.Laws.BitsLemmas
import Derived.RowKit
import Derived.Test.YtijjopioamdahaaWWords
import Derived.Test.YtijjopioamdahaaWLast
import Derived.Test.YtijjopioamdahaaWTab
import Derived.Test.YtijjopioamdahaaWQPut
import Derived.Test.YtijjopioamdahaaWApart
import Derived.Test.YtijjopioamdahaaWArr
import Derived.Test.YtijjopioamdahaaWZeros
import Derived.Test.YtijjopioamdahaaWFoot
import Derived.Test.YtijjopioamdahaaWKept
import Derived.Test.YtijjopioamdahaaWShare
import Derived.Test.YtijjopioamdahaaWN
import Derived.Test.YtijjopioamdahaaWEqStruct
import Derived.Test.YtijjopioamdahaaWGuard
import Derived.Test.YtijjopioamdahaaWNEv
import Derived.Test.YtijjopioamdahaaWMore
import Derived.Test.YtijjopioamdahaaX1
import Derived.Test.YtijjopioamdahaaDgA
import Derived.Test.YtijjopioamdahaaDgB
import Derived.Test.YtijjopioamdahaaDgC
import Derived.Test.YtijjopioamdahaaDgD
import Derived.Test.YtijjopioamdahaaDgE
import Derived.Test.YtijjopioamdahaaDgF
import Derived.Test.YtijjopioamdahaaDgG
import Derived.Test.YtijjopioamdahaaDgH
import Derived.Test.YtijjopioamdahaaDgI
import Derived.Deep.RegionLawGrows
import Derived.Deep.Upon
import Derived.Deep.MidRow
namespace Go.Proofs.Ytijjopioamdahaa.D
open Go.RowKit Go.Proofs.Ytijjopioamdahaa.X Go.Proofs.YtijjopioamdahaaW.PrintWords Go.Proofs.YtijjopioamdahaaW.PrintLast Go.Proofs.YtijjopioamdahaaW.PrintMore
attribute [local go_sem] max2_int min2_int max_two min_two max_three min_three max_four min_four   -- for this text's walks alone
set_option linter.unusedVariables false
set_option linter.unusedSimpArgs false
/-- The second slice, where it isn't nil, lies in the first one's block. -/
def SameBlk (A A' : Option Addr) : Prop := ∀ a', A' = some a' → ∃ a, A = some a ∧ a'.block = a.block
theorem SameBlk.refl (A : Option Addr) : SameBlk A A := fun a h => ⟨a, h, rfl⟩
theorem add_blk (a : Addr) (n : Nat) : (a.add n).block = a.block := by cases n <;> rfl
theorem SameBlk.cut {A A' : Option Addr} (h : SameBlk A A') (b : Prop) [Decidable b] (n : Nat) : SameBlk A (if b then A' else A'.map (·.add n)) := by
  split
  · exact h
  · intro a' ha
    obtain ⟨x, hx, rfl⟩ := Option.map_eq_some_iff.1 ha
    obtain ⟨a, h1, h2⟩ := h x hx
    exact ⟨a, h1, by rw [add_blk]; exact h2⟩
set_option maxHeartbeats 4000000 in
set_option maxRecDepth 100000 in
theorem blocks_at (S : List Int) (A : Option Addr) (c : Nat) (l : List Int) (w : World) (hS : S.length = 8) (hr : Kd.C (Kd.int .u8) w A l.length l) (hc : l.length ≤ c) (hl : l.length ≤ 1000000000000) (h8 : ∀ x ∈ l, 0 ≤ x ∧ x ≤ 255) :
    Calls Try.prog 25 #[.agg (u32s S), .slice A l.length c] w fun e w' => ∃ A' c', e = .returned (.tuple #[.agg (u32s (blkN S l (l.length / 64))), .slice A' (l.drop (64 * (l.length / 64))).length c']) ∧ Kd.C (Kd.int .u8) w' A' (l.drop (64 * (l.length / 64))).length (l.drop (64 * (l.length / 64))) ∧ (l.drop (64 * (l.length / 64))).length ≤ c' ∧ SameBlk A A' ∧ Below w.heap.size w w' := by
  have HR := Aside0.mk hr
  have HL := Aside0.mk hl
  have HC := Aside0.mk hc
  have H8 := Aside0.mk h8
  have HS := Aside0.mk hS
  have HB := Aside0.mk (Below.refl w.heap.size w)
  have I47 : Aside0 ((Try.prog.info? 47).map (·.size) = some 8) := ⟨by kernel_rfl⟩
  clear hr hl hc h8 hS
  go_enter Try.func25, Try.ntmps25
  go_wp2_with (first | ((with_reducible refine gate_dst (N := 2) rfl ?_); refine box_event ?hg (N := 2) ?hd (cs := u32s S) (t := 47) ?hr ?_; (case hd => rfl); (case hg => rfl); (case hr => first | (go_simp; done) | (go_simp; rfl)); intro g2 hg_ wa hbox hb; have n0_ := Aside0.mk (below_step HB.out hb); have G2 : Aside0 (w.heap.size ≤ g2) := ⟨by rw [hg_]; exact below_size HB.out⟩; have B2 := Aside0.mk hbox; clear HB; have HB := n0_; clear n0_ hb hbox hg_) | ((with_reducible refine gate_dst (N := 4) rfl ?_); refine box_event ?hg (N := 4) ?hd (cs := u32s (List.replicate 8 0)) (t := 47) ?hr ?_; (case hd => rfl); (case hg => rfl); (case hr => exact alloc47 _ _ _ _ _ _); intro g4 hg_ wb hbox hb; have n0_ := Aside0.mk (below_step HB.out hb); have G4 : Aside0 (w.heap.size ≤ g4) := ⟨by rw [hg_]; exact below_size HB.out⟩; have N2 := Aside0.mk (blk_lt B2.out); have m2_ := Aside0.mk (blk_below B2.out hb); have B4 := Aside0.mk hbox; have D4_2 : Aside0 (g4 ≠ g2) := ⟨by have h_ := N2.out; rw [hg_]; omega⟩; clear B2 N2; have B2 := m2_; clear m2_; clear HB; have HB := n0_; clear n0_ hb hbox hg_))
  go_loopw [1] (fun b wr => ∃ (n : Nat) (A' : Option Addr) (c' : Nat) (xs : List Int), 64 * n ≤ l.length ∧ xs = l.drop (64 * n) ∧ b = .slice A' xs.length c' ∧ xs.length ≤ c' ∧ Aside0 (SameBlk A A') ∧ Aside0 (Kd.C (Kd.int .u8) w A' xs.length xs) ∧ Aside0 (wr.heap[g2]? = some (.cells (u32s (blkN S l n)) 47 (0, 0))) ∧ Aside0 (wr.heap[g4]? = some (.cells (u32s (List.replicate 8 0)) 47 (0, 0))) ∧ Aside0 (Below w.heap.size w wr)) (fun b _ => match b with | .slice _ m _ => m | _ => 0)
  case atStart => exact ⟨0, A, c, l, by omega, rfl, rfl, HC.out, ⟨SameBlk.refl A⟩, HR, B2, B4, HB⟩
  case round =>
    clear HB B2 B4
    obtain ⟨n, A', c', xs, hn, hxs, rfl, hxc, HSB, HX, B2, B4, HB⟩ := hrel
    have hxl : xs.length = l.length - 64 * n := by rw [hxs, List.length_drop]
    have HXS := Aside0.mk hxs
    have HXL := Aside0.mk hxl
    have hbd : (xs.length : Int) ≤ 1000000000000 := by have := HL.out; omega
    clear hxs hxl
    by_cases hlt : 64 ≤ xs.length
    · obtain ⟨Y, hY⟩ : ∃ Y, Y = blkN S l n := ⟨_, rfl⟩
      have hYl : Y.length = 8 := by rw [hY, blkN_len _ _ HS.out]
      rw [← hY] at B2
      obtain ⟨ys, hys⟩ : ∃ ys, ys = xs.take 64 := ⟨_, rfl⟩
      have hyl : ys.length = 64 := by rw [hys, List.length_take]; omega
      have HYC : Aside0 (Kd.C (Kd.int .u8) w A' ys.length ys) := ⟨by rw [hys]; exact Kd.C_take HX.out hlt⟩
      have hY2 : blkN S l (n + 1) = blockF Y ys := by rw [hY, hys, HXS.out]; rfl
      have hcut : ∀ W : World, (Instr.slice 22 (.slice A' xs.length c') none (some (.int .i64 64)) (some (.int .i64 64))).run Try.prog W = .ok (.slice A' ys.length 64) W := by
        intro W; rw [hyl]; exact cut64 A' xs.length c' hlt hxc W
      obtain ⟨zs, hzs⟩ : ∃ zs, zs = xs.drop 64 := ⟨_, rfl⟩
      have hzl : zs.length = xs.length - 64 := by rw [hzs, List.length_drop]
      obtain ⟨Az, hAz⟩ : ∃ Az, Az = (if c' = 64 then A' else A'.map (·.add (64 * (Kd.int .u8).sz))) := ⟨_, rfl⟩
      have hcut2 : ∀ W : World, (Instr.slice 22 (.slice A' xs.length c') (some (.int .i64 64)) none none).run Try.prog W = .ok (.slice Az zs.length (c' - 64)) W := by
        obtain ⟨i, hi, _, hs, _⟩ := info_parts info5
        intro W
        have h := cut_from (P := Try.prog) 22 5 .i64 Try.underlying22 hi 1 hs A' xs.length c' 64 (by omega) (by omega) W
        rw [h, hAz, hzl]
        rfl
      have HSB2 : Aside0 (SameBlk A Az) := ⟨by rw [hAz]; exact HSB.out.cut _ _⟩
      have HZC : Aside0 (Kd.C (Kd.int .u8) w Az zs.length zs) := ⟨by rw [hAz, hzs]; exact Kd.C_drop HX.out hlt hxc⟩
      have hy8 : ∀ i, 0 ≤ rd ys i ∧ rd ys i ≤ 255 := by
        intro i
        refine rd_all (fun x hx => ?_) i
        rw [hys, HXS.out] at hx
        exact H8.out x (List.mem_of_mem_drop (List.mem_of_mem_take hx))
      have hge : ((xs.length : Int) ≥ 64) := by omega
      have hge' : decide ((64 : Int) ≤ (xs.length : Int)) = true := by simp; omega
      have HY := Aside0.mk hY
      have HYL := Aside0.mk hYl
      have HYS := Aside0.mk hys
      have HYSL := Aside0.mk hyl
      have HY2 := Aside0.mk hY2
      have HZS := Aside0.mk hzs
      have HZL := Aside0.mk hzl
      have HY8 := Aside0.mk hy8
      have HXC := Aside0.mk hxc
      have HN := Aside0.mk hn
      clear hY hYl hys hyl hY2 hzs hzl hy8 hAz hxc hn
      go_wp2
      refine start_ (n := 5) (S := fun w_ => Aside0 (w_.heap[g2]? = some (.cells (u32s Y) 47 (0, 0))) ∧ Aside0 (w_.heap[g4]? = some (.cells (u32s (List.replicate 8 0)) 47 (0, 0))) ∧ Aside0 (Below w.heap.size w w_)) (ds := [4]) #[false, false, false, false, false] (by kernel_rfl) rfl rfl ⟨⟨blk_drew B2.out⟩, ⟨blk_drew B4.out⟩, ⟨below_drew1 HB.out⟩⟩ (fun hHeld => ?_)
      refine take_ (i := 0) (N := some 9) (v := .agg (u32s Y)) (a' := ?_) #[true, false, false, false, false] rfl rfl (by kernel_rfl) (fun _ _ _ h => h) (Or.inl ⟨by rfl, fun w' hS_ => exec_load_row _ _ 47 (.tmp 2) _ _ _ _ _ g2 47 (u32s Y) (0, 0) _ rfl hS_.1.out Try.underlying47 rfl (by rw [u32s_size, HYL.out]; exact I47.out)⟩) hHeld ?_ ?_
      rotate_left
      · simp only [Act.put, List.setIfInBounds_toArray, List.set_cons_zero, List.set_cons_succ, i64_w, i32_w]
        rfl
      refine pure_ (i := 1) (N := some 10) (v := ?_) (a' := ?_) #[true, true, false, false, false] rfl rfl (by kernel_rfl) (fun _ _ _ h => h) (Or.inl ⟨by rfl, ?_⟩) ?_ ?_
      rotate_left
      · intro w'
        go_simp
        with_reducible rfl
      rotate_left
      · simp only [Act.put, List.setIfInBounds_toArray, List.set_cons_zero, List.set_cons_succ, i64_w, i32_w]
        rfl
      refine pure_ (i := 2) (N := some 11) (v := ?_) (a' := ?_) #[true, true, true, false, false] rfl rfl (by kernel_rfl) (fun _ _ _ h => h) (Or.inl ⟨by rfl, ?_⟩) ?_ ?_
      rotate_left
      · intro w'
        go_simp
        with_reducible rfl
      rotate_left
      · simp only [Act.put, List.setIfInBounds_toArray, List.set_cons_zero, List.set_cons_succ, i64_w, i32_w]
        rfl
      refine one_ (i := 3) (N := some 12) #[true, true, true, true, false] rfl rfl (by kernel_rfl) (by decide) (fun K hK => ?_)
      refine goes_ Try.func27 (by kernel_rfl) rfl #[.agg (u32s Y), .slice A' ys.length 64] (by rfl) rfl rfl (by simp only [List.map_toArray, List.map_cons, List.map_nil]; rfl) ?_
      refine (block_calls Y A' 64 ys _ HYL.out (Kd.C_below HYC.out hHeld.2.2.out) HYSL.out (by rw [HYSL.out]; decide) HY8.out).mono ?_
      rintro e w1 ⟨rfl, hb⟩
      refine ⟨_, rfl, ?_⟩
      refine hK.out _ _ ⟨⟨blk_below hHeld.1.out hb⟩, ⟨blk_below hHeld.2.1.out hb⟩, ⟨below_step hHeld.2.2.out hb⟩⟩ (fun hHeld => ?_)
      clear hK K hb
      refine norm_ (a' := ?_) ?_ ?_
      rotate_left
      · show Act.put _ (some 12) _ = _
        simp only [Act.put, List.setIfInBounds_toArray, List.set_cons_zero, List.set_cons_succ, i64_w, i32_w]
        rfl
      have HBL := Aside0.mk (blockF_len Y ys HYL.out)
      refine last_ (i := 4) (N := none) #[true, true, true, true, true] rfl rfl (by kernel_rfl) (by decide) (fun K hK => ?_)
      rw [if_pos (by rfl)]
      refine wp_store_row 47 (.tmp 2) (.tmp 12) rfl g2 (by rfl) 47 (u32s Y) (u32s (blockF Y ys)) (by rfl) hHeld.1.out (by rw [u32s_size, HBL.out]; exact I47.out) (by rw [u32s_size, u32s_size, HBL.out, HYL.out]) (u32s_one _) ?_
      refine hK.out _ _ ?_
      clear hK K
      have m2 := Aside0.mk (setRow_heap _ _ _ (u32s (blockF Y ys)) _ _ hHeld.1.out)
      have m4 := Aside0.mk ((setRow_other _ g2 g4 (u32s (blockF Y ys)) D4_2.out).trans hHeld.2.1.out)
      have mB := Aside0.mk (below_row hHeld.2.2.out G2.out (u32s (blockF Y ys)))
      generalize World.setRow w1 g2 _ = wq at m2 m4 mB ⊢
      refine done_ (by kernel_rfl) ?_
      go_wp2
      go_roundw
      case rel =>
        have hzs := HZS.out
        refine ⟨n + 1, Az, c' - 64, zs, by have := HXL.out; have := HN.out; omega, ?_, rfl, by have := HZL.out; have := HXC.out; omega, HSB2, HZC, ⟨by rw [HY2.out]; exact m2.out⟩, m4, mB⟩
        rw [hzs, HXS.out, List.drop_drop]
        exact congrArg (fun k => List.drop k l) (by omega)
      case measure => have := HZL.out; simp; omega
    · have hd : decide ((64 : Int) ≤ (xs.length : Int)) = false := by simp; omega
      have hn' : n = l.length / 64 := by have := HXL.out; omega
      have HN' := Aside0.mk hn'
      have HXC := Aside0.mk hxc
      clear hn' hxc
      have HYL := Aside0.mk (blkN_len S l HS.out n)
      go_wp2_with (first | ((with_reducible refine gate_op (.load 47 (.tmp 2)) rfl ?_); refine wpList_load_row rfl 47 (.tmp 2) rfl g2 (by rfl) 47 (u32s (blkN S l n)) (0, 0) _ B2.out Try.underlying47 rfl (by rw [u32s_size, HYL.out]; exact I47.out) ?_) | ((with_reducible refine gate_op (.store 47 (.tmp 4) (.tmp 15)) rfl ?_); refine wpList_store_row rfl 47 (.tmp 4) (.tmp 15) rfl g4 (by rfl) 47 (u32s (List.replicate 8 0)) (u32s (blkN S l n)) (by rfl) B4.out (by rw [u32s_size, HYL.out]; exact I47.out) (by rw [u32s_size, u32s_size, HYL.out]; rfl) (u32s_one _) ?_))
      refine bodyPost_ret (results_ct rfl _ _ g4 47 (u32s (blkN S l n)) (0, 0) _ rfl (setRow_heap _ _ _ _ _ _ B4.out) Try.underlying47 rfl (by rw [u32s_size, HYL.out]; exact I47.out)) rfl ?_
      have hn' := HN'.out
      have hxs := HXS.out
      subst hn'
      refine ⟨A', c', by rw [← hxs]; rfl, ?_, by rw [← hxs]; exact HXC.out, HSB.out, below_row HB.out G4.out _⟩
      rw [← hxs]
      exact Kd.C_below HX.out (below_row HB.out G4.out _)
/-- A slice lies where an elder one lies, or in a block that is new. -/
def LeftBlk (w w' : World) (A0 A3 : Option Addr) : Prop := ∀ a3, A3 = some a3 → (∃ a0, A0 = some a0 ∧ a3.block = a0.block) ∨ (w.heap.size ≤ a3.block ∧ a3.block < w'.heap.size)
/-- What Add leaves, and where what is left lies: the Hash's new cells, what is left reads, nothing else has changed. -/
def AddPost2 (g : Nat) (A0 : Option Addr) (S ys : List Int) (m : Int) (w : World) (e : Ending) (w' : World) : Prop :=
  e = .returned (.tuple #[]) ∧ ∃ A3 c3, w'.heap[g]? = some (.cells (hcells (blkN S ys (ys.length / 64)) (.slice A3 (ys.drop (64 * (ys.length / 64))).length c3) m) 50 (0, 0)) ∧
    Kd.C (Kd.int .u8) w' A3 (ys.drop (64 * (ys.length / 64))).length (ys.drop (64 * (ys.length / 64))) ∧ (ys.drop (64 * (ys.length / 64))).length ≤ c3 ∧ w.grownBy w' (some g) ∧ LeftBlk w w' A0 A3
set_option maxHeartbeats 4000000 in
set_option maxRecDepth 100000 in
theorem add_at (g : Nat) (S : List Int) (A0 : Option Addr) (c0 : Nat) (xs : List Int) (n : Int) (A : Option Addr) (c : Nat) (l : List Int) (w : World) (hS : S.length = 8) (hg : w.heap[g]? = some (.cells (hcells S (.slice A0 xs.length c0) n) 50 (0, 0)))
    (hx : Kd.C (Kd.int .u8) w A0 xs.length xs) (hxc : xs.length ≤ c0) (hr : Kd.C (Kd.int .u8) w A l.length l) (hc : l.length ≤ c) (hl : l.length ≤ 100000000) (hxl : xs.length ≤ 100000000) (hn : 0 ≤ n ∧ n ≤ 100000000000)
    (hx8 : ∀ x ∈ xs, 0 ≤ x ∧ x ≤ 255) (h8 : ∀ x ∈ l, 0 ≤ x ∧ x ≤ 255) :
    Calls Try.prog 19 #[.pointer (some ⟨g, 0, none⟩), .slice A l.length c] w (AddPost2 g A0 S (xs ++ l) (n + (l.length : Int)) w) := by
  have HG := Aside0.mk hg
  have HS := Aside0.mk hS
  have HX := Aside0.mk hx
  have HXC := Aside0.mk hxc
  have HR := Aside0.mk hr
  have HC := Aside0.mk hc
  have HL := Aside0.mk hl
  have HXL := Aside0.mk hxl
  have HX8 := Aside0.mk hx8
  have H8 := Aside0.mk h8
  obtain ⟨hat, h8_, h9_, _⟩ := hcells_at S (.slice A0 xs.length c0) n hS
  have hc9 : w.cell? ⟨g, 9, none⟩ = some (.int .i64 n) := (blk_cell hg 9).trans h9_
  have hc8 : w.cell? ⟨g, 8, none⟩ = some (.slice A0 xs.length c0) := (blk_cell hg 8).trans h8_
  have hf9 := blk_frozen hg 9
  have hlb : (l.length : Int) ≤ 100000000 := by omega
  obtain ⟨n0, n1⟩ := hn
  clear hg hS hx hxc hr hc hl hxl hx8 h8 hat h8_ h9_
  go_enter Try.func19, Try.ntmps19
  go_wp2
  have hG1 : (w.setCell ⟨g, 9, none⟩ (.int .i64 (n + (l.length : Int)))).heap[g]? = some (.cells (hcells S (.slice A0 xs.length c0) (n + (l.length : Int))) 50 (0, 0)) := by
    have h := blk_set HG.out 9 (.int .i64 (n + (l.length : Int)))
    rw [hcells_set9 _ _ _ _ HS.out] at h
    exact h
  have hGR1 := gr_set w g 9 (.int .i64 (n + (l.length : Int)))
  have hX1 := C_keep hGR1 HG.out HX.out
  have hR1 := C_keep hGR1 HG.out HR.out
  generalize w.setCell ⟨g, 9, none⟩ (.int .i64 (n + (l.length : Int))) = W1 at hG1 hGR1 hX1 hR1 ⊢
  clear hc9 hf9 hc8
  have hc8 : W1.cell? ⟨g, 8, none⟩ = some (.slice A0 xs.length c0) := (blk_cell hG1 8).trans (hcells_at S _ _ HS.out).2.1
  have HG1 := Aside0.mk hG1
  have HGR1 := Aside0.mk hGR1
  have HX1 := Aside0.mk hX1
  have HR1 := Aside0.mk hR1
  clear hG1 hGR1 hX1 hR1
  have hcut : ∀ W : World, (Instr.slice 22 (.slice A0 xs.length c0) none (some (.int .i64 (xs.length : Int))) (some (.int .i64 (xs.length : Int)))).run Try.prog W = .ok (.slice A0 xs.length xs.length) W := fun W => cutFull A0 xs.length c0 HXC.out W
  refine start_ (n := 18) (S := fun w_ => w_.cell? ⟨g, 8, none⟩ = some (.slice A0 xs.length c0) ∧ Aside0 (Kd.C (Kd.int .u8) w_ A0 xs.length xs) ∧ Aside0 (Kd.C (Kd.int .u8) w_ A l.length l) ∧ Aside0 (w_.heap[g]? = some (.cells (hcells S (.slice A0 xs.length c0) (n + (l.length : Int))) 50 (0, 0))) ∧ Aside0 (w.grownBy w_ (some g))) (ds := []) #[false, false, false, false, false, false, false, false, false, false, false, false, false, false, false, false, false, false] (by kernel_rfl) rfl rfl ⟨hc8, ⟨Kd.C_drew HX1.out⟩, ⟨Kd.C_drew HR1.out⟩, ⟨blk_drew HG1.out⟩, ⟨gr_drew HGR1.out⟩⟩ (fun hHeld => ?_)
  refine pure_ (i := 0) (N := some 18) (v := ?_) (a' := ?_) #[true, false, false, false, false, false, false, false, false, false, false, false, false, false, false, false, false, false] rfl rfl (by kernel_rfl) (fun _ _ _ h => h) (Or.inl ⟨by rfl, ?_⟩) ?_ ?_
  rotate_left
  · intro w'
    go_simp
    with_reducible rfl
  rotate_left
  · simp only [Act.put, List.setIfInBounds_toArray, List.set_cons_zero, List.set_cons_succ, i64_w, i32_w]
    rfl
  refine pure_ (i := 1) (N := some 19) (v := ?_) (a' := ?_) #[true, true, false, false, false, false, false, false, false, false, false, false, false, false, false, false, false, false] rfl rfl (by kernel_rfl) (fun _ _ _ h => h) (Or.inl ⟨by rfl, ?_⟩) ?_ ?_
  rotate_left
  · intro w'
    go_simp
    with_reducible rfl
  rotate_left
  · simp only [Act.put, List.setIfInBounds_toArray, List.set_cons_zero, List.set_cons_succ, i64_w, i32_w]
    rfl
  refine pure_ (i := 2) (N := some 20) (v := ?_) (a' := ?_) #[true, true, true, false, false, false, false, false, false, false, false, false, false, false, false, false, false, false] rfl rfl (by kernel_rfl) (fun _ _ _ h => h) (Or.inl ⟨by rfl, ?_⟩) ?_ ?_
  rotate_left
  · intro w'
    go_simp
    with_reducible rfl
  rotate_left
  · simp only [Act.put, List.setIfInBounds_toArray, List.set_cons_zero, List.set_cons_succ, i64_w, i32_w]
    rfl
  refine take_ (i := 3) (N := some 21) (v := ?_) (a' := ?_) #[true, true, true, true, false, false, false, false, false, false, false, false, false, false, false, false, false, false] rfl rfl (by kernel_rfl) (fun _ _ _ h => h) (Or.inl ⟨by rfl, ?_⟩) hHeld ?_ ?_
  rotate_left
  · rintro w' ⟨hs0_, hs1_, hs2_, hs3_, hs4_⟩
    go_simp
    with_reducible rfl
  rotate_left
  · simp only [Act.put, List.setIfInBounds_toArray, List.set_cons_zero, List.set_cons_succ, i64_w, i32_w]
    rfl
  refine pure_ (i := 4) (N := some 22) (v := ?_) (a' := ?_) #[true, true, true, true, true, false, false, false, false, false, false, false, false, false, false, false, false, false] rfl rfl (by kernel_rfl) (fun _ _ _ h => h) (Or.inl ⟨by rfl, ?_⟩) ?_ ?_
  rotate_left
  · intro w'
    go_simp
    with_reducible rfl
  rotate_left
  · simp only [Act.put, List.setIfInBounds_toArray, List.set_cons_zero, List.set_cons_succ, i64_w, i32_w]
    rfl
  refine pure_ (i := 5) (N := some 23) (v := ?_) (a' := ?_) #[true, true, true, true, true, true, false, false, false, false, false, false, false, false, false, false, false, false] rfl rfl (by kernel_rfl) (fun _ _ _ h => h) (Or.inl ⟨by rfl, ?_⟩) ?_ ?_
  rotate_left
  · intro w'
    go_simp
    with_reducible rfl
  rotate_left
  · simp only [Act.put, List.setIfInBounds_toArray, List.set_cons_zero, List.set_cons_succ, i64_w, i32_w]
    rfl
  refine pure_ (i := 6) (N := some 24) (v := ?_) (a' := ?_) #[true, true, true, true, true, true, true, false, false, false, false, false, false, false, false, false, false, false] rfl rfl (by kernel_rfl) (fun _ _ _ h => h) (Or.inl ⟨by rfl, ?_⟩) ?_ ?_
  rotate_left
  · intro w'
    go_simp
    with_reducible rfl
  rotate_left
  · simp only [Act.put, List.setIfInBounds_toArray, List.set_cons_zero, List.set_cons_succ, i64_w, i32_w]
    rfl
  refine take_ (i := 7) (N := some 25) (v := ?_) (a' := ?_) #[true, true, true, true, true, true, true, true, false, false, false, false, false, false, false, false, false, false] rfl rfl (by kernel_rfl) (fun _ _ _ h => h) (Or.inl ⟨by rfl, ?_⟩) hHeld ?_ ?_
  rotate_left
  · rintro w' ⟨hs0_, hs1_, hs2_, hs3_, hs4_⟩
    go_simp
    with_reducible rfl
  rotate_left
  · simp only [Act.put, List.setIfInBounds_toArray, List.set_cons_zero, List.set_cons_succ, i64_w, i32_w]
    rfl
  refine pure_ (i := 8) (N := some 26) (v := ?_) (a' := ?_) #[true, true, true, true, true, true, true, true, true, false, false, false, false, false, false, false, false, false] rfl rfl (by kernel_rfl) (fun _ _ _ h => h) (Or.inl ⟨by rfl, ?_⟩) ?_ ?_
  rotate_left
  · intro w'
    go_simp
    with_reducible rfl
  rotate_left
  · simp only [Act.put, List.setIfInBounds_toArray, List.set_cons_zero, List.set_cons_succ, i64_w, i32_w]
    rfl
  refine pure_ (i := 9) (N := some 27) (v := ?_) (a' := ?_) #[true, true, true, true, true, true, true, true, true, true, false, false, false, false, false, false, false, false] rfl rfl (by kernel_rfl) (fun _ _ _ h => h) (Or.inl ⟨by rfl, ?_⟩) ?_ ?_
  rotate_left
  · intro w'
    go_simp
    with_reducible rfl
  rotate_left
  · simp only [Act.put, List.setIfInBounds_toArray, List.set_cons_zero, List.set_cons_succ, i64_w, i32_w]
    rfl
  refine pure_ (i := 10) (N := some 28) (v := ?_) (a' := ?_) #[true, true, true, true, true, true, true, true, true, true, true, false, false, false, false, false, false, false] rfl rfl (by kernel_rfl) (fun _ _ _ h => h) (Or.inl ⟨by rfl, ?_⟩) ?_ ?_
  rotate_left
  · intro w'
    go_simp
    with_reducible rfl
  rotate_left
  · simp only [Act.put, List.setIfInBounds_toArray, List.set_cons_zero, List.set_cons_succ, i64_w, i32_w]
    rfl
  refine pure_ (i := 11) (N := some 29) (v := ?_) (a' := ?_) #[true, true, true, true, true, true, true, true, true, true, true, true, false, false, false, false, false, false] rfl rfl (by kernel_rfl) (fun _ _ _ h => h) (Or.inl ⟨by rfl, ?_⟩) ?_ ?_
  rotate_left
  · intro w'
    go_simp
    with_reducible rfl
  rotate_left
  · simp only [Act.put, List.setIfInBounds_toArray, List.set_cons_zero, List.set_cons_succ, i64_w, i32_w]
    rfl
  refine take_ (i := 12) (N := some 30) (v := ?_) (a' := ?_) #[true, true, true, true, true, true, true, true, true, true, true, true, true, false, false, false, false, false] rfl rfl (by kernel_rfl) (fun _ _ _ h => h) (Or.inl ⟨by rfl, ?_⟩) hHeld ?_ ?_
  rotate_left
  · rintro w' ⟨hs0_, hs1_, hs2_, hs3_, hs4_⟩
    go_simp
    with_reducible rfl
  rotate_left
  · simp only [Act.put, List.setIfInBounds_toArray, List.set_cons_zero, List.set_cons_succ, i64_w, i32_w]
    rfl
  refine pure_ (i := 13) (N := some 31) (v := ?_) (a' := ?_) #[true, true, true, true, true, true, true, true, true, true, true, true, true, true, false, false, false, false] rfl rfl (by kernel_rfl) (fun _ _ _ h => h) (Or.inl ⟨by rfl, ?_⟩) ?_ ?_
  rotate_left
  · intro w'
    go_simp
    with_reducible rfl
  rotate_left
  · simp only [Act.put, List.setIfInBounds_toArray, List.set_cons_zero, List.set_cons_succ, i64_w, i32_w]
    rfl
  refine pure_ (i := 14) (N := some 32) (v := ?_) (a' := ?_) #[true, true, true, true, true, true, true, true, true, true, true, true, true, true, true, false, false, false] rfl rfl (by kernel_rfl) (fun _ _ _ h => h) (Or.inl ⟨by rfl, ?_⟩) ?_ ?_
  rotate_left
  · intro w'
    go_simp
    with_reducible rfl
  rotate_left
  · simp only [Act.put, List.setIfInBounds_toArray, List.set_cons_zero, List.set_cons_succ, i64_w, i32_w]
    rfl
  refine pure_ (i := 15) (N := some 33) (v := ?_) (a' := ?_) #[true, true, true, true, true, true, true, true, true, true, true, true, true, true, true, true, false, false] rfl rfl (by kernel_rfl) (fun _ _ _ h => h) (Or.inl ⟨by rfl, ?_⟩) ?_ ?_
  rotate_left
  · intro w'
    go_simp
    with_reducible rfl
  rotate_left
  · simp only [Act.put, List.setIfInBounds_toArray, List.set_cons_zero, List.set_cons_succ, i64_w, i32_w]
    rfl
  refine one_ (i := 16) (N := some 34) #[true, true, true, true, true, true, true, true, true, true, true, true, true, true, true, true, true, false] rfl rfl (by kernel_rfl) (by decide) (fun K hK => ?_)
  rcases Nat.eq_zero_or_pos l.length with h0 | h0
  · have hl0 : l = [] := List.eq_nil_of_length_eq_zero h0
    have hxl : xs ++ l = xs := by rw [hl0, List.append_nil]
    refine event_step (v := .slice A0 (xs ++ l).length xs.length) (w1 := W1.drew) (by rfl) ?_ ?_
    · rw [hxl]
      obtain ⟨i0, hi, hz, hs, hby⟩ := info_parts info5
      exact append_none _ _ _ _ _ W1.drew A0 xs.length A c i0 hi hs (by rfl) (by rw [← h0]; rfl)
    obtain ⟨A', c', w2, hw2, hA', hc', HX2, HXC2, HG2, HGR2⟩ : ∃ (A' : Option Addr) (c' : Nat) (w2 : World), w2 = W1.drew ∧ A' = A0 ∧ c' = xs.length ∧ Aside0 (Kd.C (Kd.int .u8) w2 A' (xs ++ l).length (xs ++ l)) ∧ Aside0 ((xs ++ l).length ≤ c') ∧ Aside0 (w2.heap[g]? = some (.cells (hcells S (.slice A0 xs.length c0) (n + (l.length : Int))) 50 (0, 0))) ∧ Aside0 (w.grownBy w2 (some g)) :=
      ⟨A0, xs.length, W1.drew, rfl, rfl, rfl, ⟨by rw [hxl]; exact hHeld.2.1.out⟩, ⟨by rw [hxl]; exact Nat.le_refl _⟩, hHeld.2.2.2.1, hHeld.2.2.2.2⟩
    rw [← hw2, ← hc']
    have hHeld2 := hHeld
    rw [← hw2] at hHeld2
    refine hK.out _ _ hHeld2 (fun hHeld => ?_)
    clear hK K hHeld2 hw2 hc' hl0 hxl h0
    subst hA'
    generalize hys : xs ++ l = ys at HX2 HXC2 ⊢
    have hyl : ys.length ≤ 1000000000 := by have := HL.out; have := HXL.out; rw [← hys, List.length_append]; omega
    have hxs8 : ∀ x ∈ ys, 0 ≤ x ∧ x ≤ 255 := fun x hx => by rw [← hys] at hx; exact (List.mem_append.1 hx).elim (HX8.out x) (H8.out x)
    have HXS8 := Aside0.mk hxs8
    have HYS := Aside0.mk hys
    have HYL := Aside0.mk hyl
    clear hxs8 hys hyl
    refine norm_ (a' := ?_) ?_ ?_
    rotate_left
    · show Act.put _ (some 34) _ = _
      simp only [Act.put, List.setIfInBounds_toArray, List.set_cons_zero, List.set_cons_succ, i64_w, i32_w]
      rfl
    refine pure_ (i := 17) (N := some 4) (v := ?_) (a' := ?_) #[true, true, true, true, true, true, true, true, true, true, true, true, true, true, true, true, true, true] rfl rfl (by kernel_rfl) (fun _ _ _ h => h) (Or.inl ⟨by rfl, ?_⟩) ?_ ?_
    rotate_left
    · intro w'
      go_simp
      with_reducible rfl
    rotate_left
    · simp only [Act.put, List.setIfInBounds_toArray, List.set_cons_zero, List.set_cons_succ, i64_w, i32_w]
      rfl
    refine done_ (by kernel_rfl) ?_
    have HG2 := hHeld.2.2.2.1
    have HGR2 := hHeld.2.2.2.2
    clear hHeld hc8
    have hd0 : w2.cell? ⟨g, 0, none⟩ = some (.int .u32 (rd S 0)) := (blk_cell HG2.out 0).trans ((hcells_at S _ _ HS.out).1 0 (by decide))
    have hd1 : w2.cell? ⟨g, 1, none⟩ = some (.int .u32 (rd S 1)) := (blk_cell HG2.out 1).trans ((hcells_at S _ _ HS.out).1 1 (by decide))
    have hd2 : w2.cell? ⟨g, 2, none⟩ = some (.int .u32 (rd S 2)) := (blk_cell HG2.out 2).trans ((hcells_at S _ _ HS.out).1 2 (by decide))
    have hd3 : w2.cell? ⟨g, 3, none⟩ = some (.int .u32 (rd S 3)) := (blk_cell HG2.out 3).trans ((hcells_at S _ _ HS.out).1 3 (by decide))
    have hd4 : w2.cell? ⟨g, 4, none⟩ = some (.int .u32 (rd S 4)) := (blk_cell HG2.out 4).trans ((hcells_at S _ _ HS.out).1 4 (by decide))
    have hd5 : w2.cell? ⟨g, 5, none⟩ = some (.int .u32 (rd S 5)) := (blk_cell HG2.out 5).trans ((hcells_at S _ _ HS.out).1 5 (by decide))
    have hd6 : w2.cell? ⟨g, 6, none⟩ = some (.int .u32 (rd S 6)) := (blk_cell HG2.out 6).trans ((hcells_at S _ _ HS.out).1 6 (by decide))
    have hd7 : w2.cell? ⟨g, 7, none⟩ = some (.int .u32 (rd S 7)) := (blk_cell HG2.out 7).trans ((hcells_at S _ _ HS.out).1 7 (by decide))
    have h8s := list8 S HS.out
    have H8S := Aside0.mk h8s
    clear h8s
    go_wp2_with fail
    rw [H8S.out]
    with_reducible refine (blocks_at S _ _ ys w2 HS.out HX2.out HXC2.out (by have := HYL.out; omega) HXS8.out).mono ?_
    rintro e w3 ⟨A3, c3, rfl, hC3, hc3, hsb3, hb3⟩; have HSB3 := Aside0.mk hsb3; clear hsb3
    generalize hNB : blkN S ys (ys.length / 64) = NB
    generalize hzs : ys.drop (64 * (ys.length / 64)) = zs at hC3 hc3 ⊢
    have hNl : NB.length = 8 := by rw [← hNB]; exact blkN_len _ _ HS.out _
    have HNB := Aside0.mk hNB
    have HZS := Aside0.mk hzs
    have HNL := Aside0.mk hNl
    have HC3 := Aside0.mk hC3
    have HCC3 := Aside0.mk hc3
    have HG3 := Aside0.mk (blk_below HG2.out hb3)
    have HGR3 := Aside0.mk (gr_trans HGR2.out (gr_below hb3))
    have HQ3 : Aside0 (w2.grownBy w3 (some g)) := ⟨gr_below hb3⟩
    have I47 : Aside0 ((Try.prog.info? 47).map (·.size) = some 8) := ⟨by kernel_rfl⟩
    have SZ : Aside0 ((u32s NB).size = 8) := ⟨by rw [u32s_size, hNl]⟩
    clear hNB hzs hNl hC3 hc3 hb3 hd0 hd1 hd2 hd3 hd4 hd5 hd6 hd7 HG2 HGR2
    go_wp2_with (first | ((with_reducible refine gate_dst (N := 5) rfl ?_); refine box_event ?hg (N := 5) ?hd (cs := u32s (List.replicate 8 0)) (t := 47) ?hr ?_; (case hd => rfl); (case hg => rfl); (case hr => exact alloc47 _ _ _ _ _ _); intro g5 hg5 w4 hbox hb4; have N5 := Aside0.mk (show g5 ≠ g from by have h_ := blk_lt HG3.out; omega); have B5 := Aside0.mk hbox; have HG4 := Aside0.mk (blk_below HG3.out hb4); have HGR4 := Aside0.mk (gr_trans HGR3.out (gr_below hb4)); have HQ4 := Aside0.mk (gr_trans HQ3.out (gr_below hb4)); have GQ5 := Aside0.mk (show w2.heap.size ≤ g5 from by have h_ := HQ3.out.size; omega); have G5 := Aside0.mk (show w.heap.size ≤ g5 from by have h_ := HGR3.out.size; omega); have HC4 := Aside0.mk (Kd.C_below HC3.out (below_row hb4 (Nat.le_of_eq hg5.symm) (u32s NB))); clear hbox hb4 hg5) | ((with_reducible refine gate_op (.store 47 (.tmp 5) (.tmp 42)) rfl ?_); refine wpList_store_row rfl 47 (.tmp 5) (.tmp 42) rfl g5 (by rfl) 47 (u32s (List.replicate 8 0)) (u32s NB) (by rfl) B5.out (by rw [SZ.out]; exact I47.out) (by rw [SZ.out]; rfl) (u32s_one _) ?_; have B6 := Aside0.mk (setRow_heap _ _ _ (u32s NB) _ _ B5.out); have HG5 := Aside0.mk ((setRow_other _ g5 g (u32s NB) N5.out.symm).trans HG4.out); have HGR5 := Aside0.mk (gr_row HGR4.out G5.out (u32s NB)); have HQ5 := Aside0.mk (gr_row HQ4.out GQ5.out (u32s NB)); (generalize hW_ : World.setRow _ g5 _ = w5 at HC4 B6 HG5 HGR5 HQ5 ⊢); clear hW_) | ((with_reducible refine gate_op (.load 47 (.tmp 5)) rfl ?_); refine wpList_load_row rfl 47 (.tmp 5) rfl g5 (by rfl) 47 (u32s NB) (0, 0) _ B6.out Try.underlying47 rfl (by rw [SZ.out]; exact I47.out) ?_) | ((with_reducible refine gate_op (.store 47 (.tmp 49) (.tmp 46)) rfl ?_); refine wpList_store_mid rfl 47 (.tmp 49) (.tmp 46) rfl g 0 (u32s NB) (by rfl) (by rfl) (by rw [SZ.out]; exact hash_there _ _ _ _ _ HS.out HG5.out) (by rw [SZ.out]; exact I47.out) (u32s_one _) ?_; have hsc := hash_setCells2 _ g S NB _ _ HS.out HNL.out HG5.out; have HG6 := Aside0.mk hsc.1; have HGR6 := Aside0.mk (gr_trans HGR5.out hsc.2); have HQ6 := Aside0.mk (gr_trans HQ5.out hsc.2); have HC6 := Aside0.mk (C_keep hsc.2 HG5.out HC4.out); (generalize hW_ : World.setCells _ g 0 _ = w6 at HG6 HGR6 HC6 HQ6 ⊢); clear hW_ hsc; have hx8_ := (blk_cell HG6.out 8).trans (hcells_at NB _ _ HNL.out).2.1; have hf8_ := blk_frozen HG6.out 8))
    go_end0
    refine ⟨rfl, ?_⟩
    rw [HYS.out, HZS.out, HNB.out]
    refine ⟨A3, c3, ?_, C_keep (gr_set _ g 8 _) HG6.out HC6.out, HCC3.out, gr_trans HGR6.out (gr_set _ g 8 _), fun a3 e3 => Or.inl (HSB3.out a3 e3)⟩
    have h := blk_set HG6.out 8 (.slice A3 zs.length c3)
    rw [hcells_set8 _ _ _ _ HNL.out] at h
    exact h
  · obtain ⟨ad, hA, _⟩ := Kd.at_int hHeld.2.2.1.out 0 (by decide) (by omega)
    subst hA
    obtain ⟨i0, hi, hz, hs, hby⟩ := info_parts info5
    have hcx := hHeld.2.1.out
    have hcl := hHeld.2.2.1.out
    refine step_append_grows rfl (.tmp 32) (.tmp 33) 22 rfl 5 i0 (.int .u8 0) 1 1 Try.underlying22 hi hz hs hby rfl (by decide) A0 xs.length xs.length (nums .u8 xs) rfl ?_ (by rw [nums_length, Nat.mul_one]) ?_ ad l.length c (nums .u8 l) rfl (by rw [nums_length, Nat.mul_one]) ?_ ?_ (by omega) ?_ ?_ ?_
    · intro hA
      rcases Nat.eq_zero_or_pos xs.length with hx0 | hx0
      · exact ⟨hx0, hx0⟩
      · obtain ⟨ad', h, _⟩ := Kd.at_int hcx 0 (by decide) (by omega)
        rw [hA] at h; cases h
    · intro b hb
      exact cells_of hcx hb
    · exact cells_of hcl rfl
    · intro u hu
      obtain ⟨x, _, rfl⟩ := List.mem_map.1 hu
      rfl
    · have := HL.out; have := HXL.out; unfold maxLen; omega
    · have := HL.out; have := HXL.out; omega
    · intro v1 w2 hown hgrow
      rw [← nums_append, show xs.length + l.length = (xs ++ l).length by rw [List.length_append]] at hown
      have hR : Kd.R (Kd.int .u8) 5 w2 W1.drew.heap.size (fun _ => True) v1 (xs ++ l) := Kd.R_of_own (enc := Value.int .u8) hown (fun _ _ => trivial)
      obtain ⟨A', c', rfl, hcc, hCC⟩ := Kd.R_reads hR
      have HAB : Aside0 (∀ a', A' = some a' → w.heap.size ≤ a'.block ∧ a'.block < w2.heap.size) := ⟨fun a' e' => by subst e'; have h1_ := own_base (Kd.own_of_R hR) a'.block rfl; have h2_ := HGR1.out.size; have h3_ : W1.drew.heap.size = W1.heap.size := rfl; have h4_ := own_lt (Kd.own_of_R hR) a'.block rfl; exact ⟨by omega, h4_⟩⟩
      have HX2 := Aside0.mk hCC
      have HXC2 := Aside0.mk hcc
      have hgr := gr_none (g := g) hgrow
      have hHeld2 : (fun w_ => w_.cell? ⟨g, 8, none⟩ = some (.slice A0 xs.length c0) ∧ Aside0 (Kd.C (Kd.int .u8) w_ A0 xs.length xs) ∧ Aside0 (Kd.C (Kd.int .u8) w_ (some ad) l.length l) ∧ Aside0 (w_.heap[g]? = some (.cells (hcells S (.slice A0 xs.length c0) (n + (l.length : Int))) 50 (0, 0))) ∧ Aside0 (w.grownBy w_ (some g))) w2 := by
        have hg2 := blk_grown hHeld.2.2.2.1.out hgrow (by simp)
        exact ⟨(blk_cell hg2 8).trans (hcells_at S _ _ HS.out).2.1, ⟨C_keep hgr hHeld.2.2.2.1.out hcx⟩, ⟨C_keep hgr hHeld.2.2.2.1.out hcl⟩, ⟨hg2⟩, ⟨gr_trans hHeld.2.2.2.2.out hgr⟩⟩
      refine hK.out _ _ hHeld2 (fun hHeld => ?_)
      clear hK K hHeld2
      generalize hys : xs ++ l = ys at HX2 HXC2 ⊢
      have hyl : ys.length ≤ 1000000000 := by have := HL.out; have := HXL.out; rw [← hys, List.length_append]; omega
      have hxs8 : ∀ x ∈ ys, 0 ≤ x ∧ x ≤ 255 := fun x hx => by rw [← hys] at hx; exact (List.mem_append.1 hx).elim (HX8.out x) (H8.out x)
      have HXS8 := Aside0.mk hxs8
      have HYS := Aside0.mk hys
      have HYL := Aside0.mk hyl
      clear hxs8 hys hyl
      refine norm_ (a' := ?_) ?_ ?_
      rotate_left
      · show Act.put _ (some 34) _ = _
        simp only [Act.put, List.setIfInBounds_toArray, List.set_cons_zero, List.set_cons_succ, i64_w, i32_w]
        rfl
      refine pure_ (i := 17) (N := some 4) (v := ?_) (a' := ?_) #[true, true, true, true, true, true, true, true, true, true, true, true, true, true, true, true, true, true] rfl rfl (by kernel_rfl) (fun _ _ _ h => h) (Or.inl ⟨by rfl, ?_⟩) ?_ ?_
      rotate_left
      · intro w'
        go_simp
        with_reducible rfl
      rotate_left
      · simp only [Act.put, List.setIfInBounds_toArray, List.set_cons_zero, List.set_cons_succ, i64_w, i32_w]
        rfl
      refine done_ (by kernel_rfl) ?_
      have HG2 := hHeld.2.2.2.1
      have HGR2 := hHeld.2.2.2.2
      clear hHeld hc8
      have hd0 : w2.cell? ⟨g, 0, none⟩ = some (.int .u32 (rd S 0)) := (blk_cell HG2.out 0).trans ((hcells_at S _ _ HS.out).1 0 (by decide))
      have hd1 : w2.cell? ⟨g, 1, none⟩ = some (.int .u32 (rd S 1)) := (blk_cell HG2.out 1).trans ((hcells_at S _ _ HS.out).1 1 (by decide))
      have hd2 : w2.cell? ⟨g, 2, none⟩ = some (.int .u32 (rd S 2)) := (blk_cell HG2.out 2).trans ((hcells_at S _ _ HS.out).1 2 (by decide))
      have hd3 : w2.cell? ⟨g, 3, none⟩ = some (.int .u32 (rd S 3)) := (blk_cell HG2.out 3).trans ((hcells_at S _ _ HS.out).1 3 (by decide))
      have hd4 : w2.cell? ⟨g, 4, none⟩ = some (.int .u32 (rd S 4)) := (blk_cell HG2.out 4).trans ((hcells_at S _ _ HS.out).1 4 (by decide))
      have hd5 : w2.cell? ⟨g, 5, none⟩ = some (.int .u32 (rd S 5)) := (blk_cell HG2.out 5).trans ((hcells_at S _ _ HS.out).1 5 (by decide))
      have hd6 : w2.cell? ⟨g, 6, none⟩ = some (.int .u32 (rd S 6)) := (blk_cell HG2.out 6).trans ((hcells_at S _ _ HS.out).1 6 (by decide))
      have hd7 : w2.cell? ⟨g, 7, none⟩ = some (.int .u32 (rd S 7)) := (blk_cell HG2.out 7).trans ((hcells_at S _ _ HS.out).1 7 (by decide))
      have h8s := list8 S HS.out
      have H8S := Aside0.mk h8s
      clear h8s
      go_wp2_with fail
      rw [H8S.out]
      with_reducible refine (blocks_at S _ _ ys w2 HS.out HX2.out HXC2.out (by have := HYL.out; omega) HXS8.out).mono ?_
      rintro e w3 ⟨A3, c3, rfl, hC3, hc3, hsb3, hb3⟩; have HSB3 := Aside0.mk hsb3; clear hsb3
      generalize hNB : blkN S ys (ys.length / 64) = NB
      generalize hzs : ys.drop (64 * (ys.length / 64)) = zs at hC3 hc3 ⊢
      have hNl : NB.length = 8 := by rw [← hNB]; exact blkN_len _ _ HS.out _
      have HNB := Aside0.mk hNB
      have HZS := Aside0.mk hzs
      have HNL := Aside0.mk hNl
      have HC3 := Aside0.mk hC3
      have HCC3 := Aside0.mk hc3
      have HG3 := Aside0.mk (blk_below HG2.out hb3)
      have HGR3 := Aside0.mk (gr_trans HGR2.out (gr_below hb3))
      have HQ3 : Aside0 (w2.grownBy w3 (some g)) := ⟨gr_below hb3⟩
      have I47 : Aside0 ((Try.prog.info? 47).map (·.size) = some 8) := ⟨by kernel_rfl⟩
      have SZ : Aside0 ((u32s NB).size = 8) := ⟨by rw [u32s_size, hNl]⟩
      clear hNB hzs hNl hC3 hc3 hb3 hd0 hd1 hd2 hd3 hd4 hd5 hd6 hd7 HG2 HGR2
      go_wp2_with (first | ((with_reducible refine gate_dst (N := 5) rfl ?_); refine box_event ?hg (N := 5) ?hd (cs := u32s (List.replicate 8 0)) (t := 47) ?hr ?_; (case hd => rfl); (case hg => rfl); (case hr => exact alloc47 _ _ _ _ _ _); intro g5 hg5 w4 hbox hb4; have N5 := Aside0.mk (show g5 ≠ g from by have h_ := blk_lt HG3.out; omega); have B5 := Aside0.mk hbox; have HG4 := Aside0.mk (blk_below HG3.out hb4); have HGR4 := Aside0.mk (gr_trans HGR3.out (gr_below hb4)); have HQ4 := Aside0.mk (gr_trans HQ3.out (gr_below hb4)); have GQ5 := Aside0.mk (show w2.heap.size ≤ g5 from by have h_ := HQ3.out.size; omega); have G5 := Aside0.mk (show w.heap.size ≤ g5 from by have h_ := HGR3.out.size; omega); have HC4 := Aside0.mk (Kd.C_below HC3.out (below_row hb4 (Nat.le_of_eq hg5.symm) (u32s NB))); clear hbox hb4 hg5) | ((with_reducible refine gate_op (.store 47 (.tmp 5) (.tmp 42)) rfl ?_); refine wpList_store_row rfl 47 (.tmp 5) (.tmp 42) rfl g5 (by rfl) 47 (u32s (List.replicate 8 0)) (u32s NB) (by rfl) B5.out (by rw [SZ.out]; exact I47.out) (by rw [SZ.out]; rfl) (u32s_one _) ?_; have B6 := Aside0.mk (setRow_heap _ _ _ (u32s NB) _ _ B5.out); have HG5 := Aside0.mk ((setRow_other _ g5 g (u32s NB) N5.out.symm).trans HG4.out); have HGR5 := Aside0.mk (gr_row HGR4.out G5.out (u32s NB)); have HQ5 := Aside0.mk (gr_row HQ4.out GQ5.out (u32s NB)); (generalize hW_ : World.setRow _ g5 _ = w5 at HC4 B6 HG5 HGR5 HQ5 ⊢); clear hW_) | ((with_reducible refine gate_op (.load 47 (.tmp 5)) rfl ?_); refine wpList_load_row rfl 47 (.tmp 5) rfl g5 (by rfl) 47 (u32s NB) (0, 0) _ B6.out Try.underlying47 rfl (by rw [SZ.out]; exact I47.out) ?_) | ((with_reducible refine gate_op (.store 47 (.tmp 49) (.tmp 46)) rfl ?_); refine wpList_store_mid rfl 47 (.tmp 49) (.tmp 46) rfl g 0 (u32s NB) (by rfl) (by rfl) (by rw [SZ.out]; exact hash_there _ _ _ _ _ HS.out HG5.out) (by rw [SZ.out]; exact I47.out) (u32s_one _) ?_; have hsc := hash_setCells2 _ g S NB _ _ HS.out HNL.out HG5.out; have HG6 := Aside0.mk hsc.1; have HGR6 := Aside0.mk (gr_trans HGR5.out hsc.2); have HQ6 := Aside0.mk (gr_trans HQ5.out hsc.2); have HC6 := Aside0.mk (C_keep hsc.2 HG5.out HC4.out); (generalize hW_ : World.setCells _ g 0 _ = w6 at HG6 HGR6 HC6 HQ6 ⊢); clear hW_ hsc; have hx8_ := (blk_cell HG6.out 8).trans (hcells_at NB _ _ HNL.out).2.1; have hf8_ := blk_frozen HG6.out 8))
      go_end0
      refine ⟨rfl, ?_⟩
      rw [HYS.out, HZS.out, HNB.out]
      refine ⟨A3, c3, ?_, C_keep (gr_set _ g 8 _) HG6.out HC6.out, HCC3.out, gr_trans HGR6.out (gr_set _ g 8 _), fun a3 e3 => by obtain ⟨a_, h1_, h2_⟩ := HSB3.out a3 e3; exact Or.inr (by have h5_ := HAB.out a_ h1_; have h6_ := (gr_trans HQ6.out (gr_set _ g 8 (.slice A3 zs.length c3))).size; rw [h2_]; exact ⟨h5_.1, Nat.lt_of_lt_of_le h5_.2 h6_⟩)⟩
      have h := blk_set HG6.out 8 (.slice A3 zs.length c3)
      rw [hcells_set8 _ _ _ _ HNL.out] at h
      exact h

end Go.Proofs.Ytijjopioamdahaa.D
