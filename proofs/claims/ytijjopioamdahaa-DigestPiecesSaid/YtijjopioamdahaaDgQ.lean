/- A nil Hash; how many bytes a Hash had; two sums compared. -/
import Derived.Test.YtijjopioamdahaaProg
import Derived.Below
import Derived.Deep.Draws
import Derived.Deep.AppendLies
import Derived.Maps.AppendAt
import Derived.OwnWalk
import Derived.Laws.BytesArg
import Derived.Laws.MakeOwn
import Derived.Laws.OwnMore
import Derived.Deep.OwnRows
import Derived.Tactics
import Derived.Lib.ConvBytes
import Derived.Laws.Slices
import Derived.WalkKit
import Derived.KernelRfl
import Derived.RowKit3
import Derived.Deep.LoopGhost
import Derived.Deep.QuietTactic
import Derived.BigQuiet
import Derived.WideLaws
import Derived.Deep.DeepCutAuto
import Derived.Deep.CutBlock
import Derived.Deep.RegionHeld3
import Derived.Laws.Rows
import Derived.Lib.AppendStr
import Derived.ArgAppend
import Derived.Laws.IdiomCopy
import Derived.OrdersHeld
import Derived.Laws.BitsLemmas
import Derived.RowKit
import Derived.Test.YtijjopioamdahaaWWords
import Derived.Test.YtijjopioamdahaaWLast
import Derived.Test.YtijjopioamdahaaWTab
import Derived.Test.YtijjopioamdahaaWQPut
import Derived.Test.YtijjopioamdahaaWApart
import Derived.Test.YtijjopioamdahaaWArr
import Derived.Test.YtijjopioamdahaaWZeros
import Derived.Test.YtijjopioamdahaaWFoot
import Derived.Test.YtijjopioamdahaaWKept
import Derived.Test.YtijjopioamdahaaWShare
import Derived.Test.YtijjopioamdahaaWN
import Derived.Test.YtijjopioamdahaaWEqStruct
import Derived.Test.YtijjopioamdahaaWGuard
import Derived.Test.YtijjopioamdahaaWNEv
import Derived.Test.YtijjopioamdahaaWMore
import Derived.Test.YtijjopioamdahaaX1
import Derived.Test.YtijjopioamdahaaDgA
import Derived.Test.YtijjopioamdahaaDgB
import Derived.Test.YtijjopioamdahaaDgC
import Derived.Test.YtijjopioamdahaaDgD
import Derived.Test.YtijjopioamdahaaDgE
import Derived.Test.YtijjopioamdahaaDgF
import Derived.Test.YtijjopioamdahaaDgG
import Derived.Test.YtijjopioamdahaaDgH
import Derived.Test.YtijjopioamdahaaDgI
import Derived.Deep.RegionLawGrows
import Derived.Deep.Upon
import Derived.Deep.MidRow
namespace Go.Proofs.Ytijjopioamdahaa.D
open Go.RowKit Go.Proofs.Ytijjopioamdahaa.X Go.Proofs.YtijjopioamdahaaW.PrintWords Go.Proofs.YtijjopioamdahaaW.PrintLast Go.Proofs.YtijjopioamdahaaW.PrintMore
attribute [local go_sem] max2_int min2_int max_two min_two max_three min_three max_four min_four   -- for this text's walks alone
set_option linter.unusedVariables false
set_option linter.unusedSimpArgs false
set_option maxHeartbeats 4000000 in
set_option maxRecDepth 100000 in
theorem sum_nil (w : World) : Calls Try.prog 20 #[.pointer none] w fun e w' => e = .returned (.agg (u8s (sumF START [] 0))) ∧ Below w.heap.size w w' := by
  obtain ⟨S, hS⟩ : ∃ S, S = START := ⟨_, rfl⟩
  obtain ⟨xs, hxs⟩ : ∃ xs : List Int, xs = [] := ⟨_, rfl⟩
  obtain ⟨n, hn⟩ : ∃ n : Int, n = 0 := ⟨_, rfl⟩
  obtain ⟨A0, hA0⟩ : ∃ A0 : Option Addr, A0 = none := ⟨_, rfl⟩
  obtain ⟨c0, hc0⟩ : ∃ c0 : Nat, c0 = 0 := ⟨_, rfl⟩
  have hnew : ∀ W : World, Calls Try.prog 18 #[] W fun e w' => ∃ g : Nat, e = .returned (.pointer (some ⟨g, 0, none⟩)) ∧ w'.heap[g]? = some (.cells (hcells S (.slice A0 xs.length c0) n) 50 (0, 0)) ∧ W.heap.size ≤ g ∧ Below W.heap.size W w' := fun W => by rw [hS, hxs, hn, hA0, hc0]; exact new_calls W
  rw [← hS, ← hxs, ← hn]
  have HS : Aside0 (S.length = 8) := ⟨by rw [hS]; rfl⟩
  have hX : ∀ W : World, Kd.C (Kd.int .u8) W A0 xs.length xs := fun W => by rw [hA0, hxs]; exact Kd.C_nil _ _
  have HXX := Aside0.mk hX
  have HXC : Aside0 (xs.length ≤ c0) := ⟨by rw [hxs]; exact Nat.zero_le _⟩
  have HXL : Aside0 (xs.length ≤ 100000000) := ⟨by rw [hxs]; exact Nat.zero_le _⟩
  have HX8 : Aside0 (∀ x ∈ xs, 0 ≤ x ∧ x ≤ 255) := ⟨by rw [hxs]; intro x hx; cases hx⟩
  have HNEW := Aside0.mk hnew
  have n0 : 0 ≤ n := by omega
  have n1 : n ≤ 100000000000 := by omega
  clear hS hxs hn hA0 hc0 hX hnew
  go_enter Try.func20, Try.ntmps20
  go_wp2_with (first | ((with_reducible refine gate_dst (N := 2) rfl ?_); refine box_event ?hg (N := 2) ?hd (cs := u8s (List.replicate 32 0)) (t := 28) ?hr ?_; (case hd => rfl); (case hg => rfl); (case hr => exact alloc28 _ _ _ _ _ _); intro g2 hg2 wz hbox hbz; have B2z := Aside0.mk hbox; have HBZ := Aside0.mk hbz; have G2 := Aside0.mk (show w.heap.size ≤ g2 from by omega); clear hg2 hbox hbz) | (go_at_call 18; refine (HNEW.out _).mono ?_; rintro e wa ⟨g, rfl, hg, hgw, hb⟩; have HGa := Aside0.mk hg; have B2 := Aside0.mk (blk_below B2z.out hb); have HBA := Aside0.mk (below_step HBZ.out hb); have NG2 := Aside0.mk (show g2 ≠ g from by have h_ := blk_lt B2z.out; omega); have HXa := Aside0.mk (HXX.out wa); clear hg hgw hb))
  have hc8 : wa.cell? ⟨g, 8, none⟩ = some (.slice A0 xs.length c0) := (blk_cell HGa.out 8).trans (hcells_at S _ _ HS.out).2.1
  have hcut : ∀ W : World, (Instr.slice 22 (.slice A0 xs.length c0) none (some (.int .i64 (xs.length : Int))) (some (.int .i64 (xs.length : Int)))).run Try.prog W = .ok (.slice A0 xs.length xs.length) W := fun W => cutFull A0 xs.length c0 HXC.out W
  refine start_ (n := 18) (S := fun w_ => w_.cell? ⟨g, 8, none⟩ = some (.slice A0 xs.length c0) ∧ Aside0 (Kd.C (Kd.int .u8) w_ A0 xs.length xs) ∧ Aside0 (w_.heap[g]? = some (.cells (hcells S (.slice A0 xs.length c0) n) 50 (0, 0))) ∧ Aside0 (Below wa.heap.size wa w_)) (ds := []) #[false, false, false, false, false, false, false, false, false, false, false, false, false, false, false, false, false, false] (by kernel_rfl) rfl rfl ⟨hc8, ⟨Kd.C_drew HXa.out⟩, ⟨blk_drew HGa.out⟩, ⟨below_drew1 (Below.refl _ _)⟩⟩ (fun hHeld => ?_)
  refine pure_ (i := 0) (N := some 13) (v := ?_) (a' := ?_) #[true, false, false, false, false, false, false, false, false, false, false, false, false, false, false, false, false, false] rfl rfl (by kernel_rfl) (fun _ _ _ h => h) (Or.inl ⟨by rfl, ?_⟩) ?_ ?_
  rotate_left
  · intro w'
    go_simp
    with_reducible rfl
  rotate_left
  · simp only [Act.put, List.setIfInBounds_toArray, List.set_cons_zero, List.set_cons_succ, i64_w, i32_w]
    rfl
  refine pure_ (i := 1) (N := some 14) (v := ?_) (a' := ?_) #[true, true, false, false, false, false, false, false, false, false, false, false, false, false, false, false, false, false] rfl rfl (by kernel_rfl) (fun _ _ _ h => h) (Or.inl ⟨by rfl, ?_⟩) ?_ ?_
  rotate_left
  · intro w'
    go_simp
    with_reducible rfl
  rotate_left
  · simp only [Act.put, List.setIfInBounds_toArray, List.set_cons_zero, List.set_cons_succ, i64_w, i32_w]
    rfl
  refine pure_ (i := 2) (N := some 15) (v := ?_) (a' := ?_) #[true, true, true, false, false, false, false, false, false, false, false, false, false, false, false, false, false, false] rfl rfl (by kernel_rfl) (fun _ _ _ h => h) (Or.inl ⟨by rfl, ?_⟩) ?_ ?_
  rotate_left
  · intro w'
    go_simp
    with_reducible rfl
  rotate_left
  · simp only [Act.put, List.setIfInBounds_toArray, List.set_cons_zero, List.set_cons_succ, i64_w, i32_w]
    rfl
  refine take_ (i := 3) (N := some 16) (v := ?_) (a' := ?_) #[true, true, true, true, false, false, false, false, false, false, false, false, false, false, false, false, false, false] rfl rfl (by kernel_rfl) (fun _ _ _ h => h) (Or.inl ⟨by rfl, ?_⟩) hHeld ?_ ?_
  rotate_left
  · rintro w' ⟨hs0_, hs1_, hs2_, hs3_⟩
    go_simp
    with_reducible rfl
  rotate_left
  · simp only [Act.put, List.setIfInBounds_toArray, List.set_cons_zero, List.set_cons_succ, i64_w, i32_w]
    rfl
  refine pure_ (i := 4) (N := some 17) (v := ?_) (a' := ?_) #[true, true, true, true, true, false, false, false, false, false, false, false, false, false, false, false, false, false] rfl rfl (by kernel_rfl) (fun _ _ _ h => h) (Or.inl ⟨by rfl, ?_⟩) ?_ ?_
  rotate_left
  · intro w'
    go_simp
    with_reducible rfl
  rotate_left
  · simp only [Act.put, List.setIfInBounds_toArray, List.set_cons_zero, List.set_cons_succ, i64_w, i32_w]
    rfl
  refine pure_ (i := 5) (N := some 18) (v := ?_) (a' := ?_) #[true, true, true, true, true, true, false, false, false, false, false, false, false, false, false, false, false, false] rfl rfl (by kernel_rfl) (fun _ _ _ h => h) (Or.inl ⟨by rfl, ?_⟩) ?_ ?_
  rotate_left
  · intro w'
    go_simp
    with_reducible rfl
  rotate_left
  · simp only [Act.put, List.setIfInBounds_toArray, List.set_cons_zero, List.set_cons_succ, i64_w, i32_w]
    rfl
  refine pure_ (i := 6) (N := some 19) (v := ?_) (a' := ?_) #[true, true, true, true, true, true, true, false, false, false, false, false, false, false, false, false, false, false] rfl rfl (by kernel_rfl) (fun _ _ _ h => h) (Or.inl ⟨by rfl, ?_⟩) ?_ ?_
  rotate_left
  · intro w'
    go_simp
    with_reducible rfl
  rotate_left
  · simp only [Act.put, List.setIfInBounds_toArray, List.set_cons_zero, List.set_cons_succ, i64_w, i32_w]
    rfl
  refine take_ (i := 7) (N := some 20) (v := ?_) (a' := ?_) #[true, true, true, true, true, true, true, true, false, false, false, false, false, false, false, false, false, false] rfl rfl (by kernel_rfl) (fun _ _ _ h => h) (Or.inl ⟨by rfl, ?_⟩) hHeld ?_ ?_
  rotate_left
  · rintro w' ⟨hs0_, hs1_, hs2_, hs3_⟩
    go_simp
    with_reducible rfl
  rotate_left
  · simp only [Act.put, List.setIfInBounds_toArray, List.set_cons_zero, List.set_cons_succ, i64_w, i32_w]
    rfl
  refine pure_ (i := 8) (N := some 21) (v := ?_) (a' := ?_) #[true, true, true, true, true, true, true, true, true, false, false, false, false, false, false, false, false, false] rfl rfl (by kernel_rfl) (fun _ _ _ h => h) (Or.inl ⟨by rfl, ?_⟩) ?_ ?_
  rotate_left
  · intro w'
    go_simp
    with_reducible rfl
  rotate_left
  · simp only [Act.put, List.setIfInBounds_toArray, List.set_cons_zero, List.set_cons_succ, i64_w, i32_w]
    rfl
  refine pure_ (i := 9) (N := some 22) (v := ?_) (a' := ?_) #[true, true, true, true, true, true, true, true, true, true, false, false, false, false, false, false, false, false] rfl rfl (by kernel_rfl) (fun _ _ _ h => h) (Or.inl ⟨by rfl, ?_⟩) ?_ ?_
  rotate_left
  · intro w'
    go_simp
    with_reducible rfl
  rotate_left
  · simp only [Act.put, List.setIfInBounds_toArray, List.set_cons_zero, List.set_cons_succ, i64_w, i32_w]
    rfl
  refine pure_ (i := 10) (N := some 23) (v := ?_) (a' := ?_) #[true, true, true, true, true, true, true, true, true, true, true, false, false, false, false, false, false, false] rfl rfl (by kernel_rfl) (fun _ _ _ h => h) (Or.inl ⟨by rfl, ?_⟩) ?_ ?_
  rotate_left
  · intro w'
    go_simp
    with_reducible rfl
  rotate_left
  · simp only [Act.put, List.setIfInBounds_toArray, List.set_cons_zero, List.set_cons_succ, i64_w, i32_w]
    rfl
  refine pure_ (i := 11) (N := some 24) (v := ?_) (a' := ?_) #[true, true, true, true, true, true, true, true, true, true, true, true, false, false, false, false, false, false] rfl rfl (by kernel_rfl) (fun _ _ _ h => h) (Or.inl ⟨by rfl, ?_⟩) ?_ ?_
  rotate_left
  · intro w'
    go_simp
    with_reducible rfl
  rotate_left
  · simp only [Act.put, List.setIfInBounds_toArray, List.set_cons_zero, List.set_cons_succ, i64_w, i32_w]
    rfl
  refine take_ (i := 12) (N := some 25) (v := ?_) (a' := ?_) #[true, true, true, true, true, true, true, true, true, true, true, true, true, false, false, false, false, false] rfl rfl (by kernel_rfl) (fun _ _ _ h => h) (Or.inl ⟨by rfl, ?_⟩) hHeld ?_ ?_
  rotate_left
  · rintro w' ⟨hs0_, hs1_, hs2_, hs3_⟩
    go_simp
    with_reducible rfl
  rotate_left
  · simp only [Act.put, List.setIfInBounds_toArray, List.set_cons_zero, List.set_cons_succ, i64_w, i32_w]
    rfl
  refine pure_ (i := 13) (N := some 26) (v := ?_) (a' := ?_) #[true, true, true, true, true, true, true, true, true, true, true, true, true, true, false, false, false, false] rfl rfl (by kernel_rfl) (fun _ _ _ h => h) (Or.inl ⟨by rfl, ?_⟩) ?_ ?_
  rotate_left
  · intro w'
    go_simp
    with_reducible rfl
  rotate_left
  · simp only [Act.put, List.setIfInBounds_toArray, List.set_cons_zero, List.set_cons_succ, i64_w, i32_w]
    rfl
  refine pure_ (i := 14) (N := some 27) (v := ?_) (a' := ?_) #[true, true, true, true, true, true, true, true, true, true, true, true, true, true, true, false, false, false] rfl rfl (by kernel_rfl) (fun _ _ _ h => h) (Or.inl ⟨by rfl, ?_⟩) ?_ ?_
  rotate_left
  · intro w'
    go_simp
    with_reducible rfl
  rotate_left
  · simp only [Act.put, List.setIfInBounds_toArray, List.set_cons_zero, List.set_cons_succ, i64_w, i32_w]
    rfl
  refine one_ (i := 15) (N := some 28) #[true, true, true, true, true, true, true, true, true, true, true, true, true, true, true, true, false, false] rfl rfl (by kernel_rfl) (by decide) (fun K hK => ?_)
  refine event_step (v := .slice (some ⟨wa.heap.size, 0, none⟩) 1 1) (w1 := wa.drew.alloc (.cells #[.int .u8 128] 5 (0, 0))) (by rfl) (build22 _ 128 _ _ _ _ _) ?_
  have hHeld2 : (fun w_ => w_.cell? ⟨g, 8, none⟩ = some (.slice A0 xs.length c0) ∧ Aside0 (Kd.C (Kd.int .u8) w_ A0 xs.length xs) ∧ Aside0 (w_.heap[g]? = some (.cells (hcells S (.slice A0 xs.length c0) n) 50 (0, 0))) ∧ Aside0 (Below wa.heap.size wa w_)) (wa.drew.alloc (.cells #[.int .u8 128] 5 (0, 0))) := by
    have hb : Below wa.drew.heap.size wa.drew (wa.drew.alloc (.cells #[.int .u8 128] 5 (0, 0))) := below_alloc (Below.refl _ _) _
    have hg2 := blk_below hHeld.2.2.1.out hb
    exact ⟨(blk_cell hg2 8).trans (hcells_at S _ _ HS.out).2.1, ⟨Kd.C_below hHeld.2.1.out hb⟩, ⟨hg2⟩, ⟨below_alloc hHeld.2.2.2.out _⟩⟩
  refine hK.out _ _ hHeld2 (fun hHeld => ?_)
  clear hK K hHeld2
  refine norm_ (a' := ?_) ?_ ?_
  rotate_left
  · show Act.put _ (some 28) _ = _
    simp only [Act.put, List.setIfInBounds_toArray, List.set_cons_zero, List.set_cons_succ, i64_w, i32_w]
    rfl
  refine one_ (i := 16) (N := some 29) #[true, true, true, true, true, true, true, true, true, true, true, true, true, true, true, true, true, false] rfl rfl (by kernel_rfl) (by decide) (fun K hK => ?_)
  obtain ⟨i0, hi, hz, hs, hby⟩ := info_parts info5
  have hcx := hHeld.2.1.out
  refine step_append_grows rfl (.tmp 27) (.tmp 28) 22 rfl 5 i0 (.int .u8 0) 1 1 Try.underlying22 hi hz hs hby rfl (by decide) A0 xs.length xs.length (nums .u8 xs) rfl ?_ (by rw [nums_length, Nat.mul_one]) ?_ ⟨wa.heap.size, 0, none⟩ 1 1 [.int .u8 128] rfl rfl (cell_one_new wa.drew _ _) ?_ (by omega) ?_ ?_ ?_
  · intro hA
    rcases Nat.eq_zero_or_pos xs.length with hx0 | hx0
    · exact ⟨hx0, hx0⟩
    · obtain ⟨ad', h, _⟩ := Kd.at_int hcx 0 (by decide) (by omega)
      rw [hA] at h; cases h
  · intro b hb
    exact cells_of hcx hb
  · intro u hu
    rw [List.mem_singleton.1 hu]
    rfl
  · have := HXL.out; unfold maxLen; omega
  · have := HXL.out; omega
  intro v1 w2 hown hgrow
  have HB2 := Aside0.mk (Below.grown hHeld.2.2.2.out hgrow hHeld.2.2.2.out.size (by simp))
  have HR2 : Aside0 (Kd.R (Kd.int .u8) 5 w2 wa.heap.size (fun _ => True) v1 (xs ++ [128] ++ List.replicate 0 0)) := ⟨Kd.R_lower (Kd.R_of_own (enc := Value.int .u8) (by
    rw [List.replicate_zero, List.append_nil, List.length_append, List.length_singleton]
    rw [show encs (Value.int .u8) (xs ++ [128]) = nums .u8 xs ++ [.int .u8 128] by simp [encs, nums]]
    exact hown) (fun _ _ => trivial)) hHeld.2.2.2.out.size⟩
  have hHeld2 : (fun w_ => w_.cell? ⟨g, 8, none⟩ = some (.slice A0 xs.length c0) ∧ Aside0 (Kd.C (Kd.int .u8) w_ A0 xs.length xs) ∧ Aside0 (w_.heap[g]? = some (.cells (hcells S (.slice A0 xs.length c0) n) 50 (0, 0))) ∧ Aside0 (Below wa.heap.size wa w_)) w2 := by
    have hg2 := blk_grown hHeld.2.2.1.out hgrow (by simp)
    exact ⟨(blk_cell hg2 8).trans (hcells_at S _ _ HS.out).2.1, ⟨Kd.C_below HXa.out HB2.out⟩, ⟨hg2⟩, HB2⟩
  refine hK.out _ _ hHeld2 (fun hHeld => ?_)
  clear hK K hHeld2 hcx hown hgrow hHeld
  refine norm_ (a' := ?_) ?_ ?_
  rotate_left
  · show Act.put _ (some 29) _ = _
    simp only [Act.put, List.setIfInBounds_toArray, List.set_cons_zero, List.set_cons_succ, i64_w, i32_w]
    rfl
  refine pure_ (i := 17) (N := some 3) (v := ?_) (a' := ?_) #[true, true, true, true, true, true, true, true, true, true, true, true, true, true, true, true, true, true] rfl rfl (by kernel_rfl) (fun _ _ _ h => h) (Or.inl ⟨by rfl, ?_⟩) ?_ ?_
  rotate_left
  · intro w'
    go_simp
    with_reducible rfl
  rotate_left
  · simp only [Act.put, List.setIfInBounds_toArray, List.set_cons_zero, List.set_cons_succ, i64_w, i32_w]
    rfl
  refine done_ (by kernel_rfl) ?_
  clear hc8 hcut
  go_wp2
  go_loopw [3] (fun v wr => ∃ k : Nat, k ≤ zerosN xs.length ∧ Aside0 (Kd.R (Kd.int .u8) 5 wr wa.heap.size (fun _ => True) v (xs ++ [128] ++ List.replicate k 0)) ∧ Aside0 (Below wa.heap.size wa wr)) (fun v _ => match v with | .slice _ m _ => xs.length + 65 - m | _ => 0)
  case atStart => exact ⟨0, Nat.zero_le _, HR2, HB2⟩
  case round =>
    clear HR2 HB2
    obtain ⟨k, hk, HR, HB⟩ := hrel
    obtain ⟨A1, c1, rfl, hc1, _⟩ := Kd.R_reads HR.out
    obtain ⟨ys, hys⟩ : ∃ ys, ys = xs ++ [128] ++ List.replicate k (0 : Int) := ⟨_, rfl⟩
    rw [← hys] at HR hc1 ⊢
    have hyl : ys.length = xs.length + 1 + k := by rw [hys, List.length_append, List.length_append, List.length_replicate, List.length_singleton]
    have hz : zerosN xs.length = (119 - xs.length % 64) % 64 := rfl
    have hb1 : (ys.length : Int) ≤ 1000000000 := by have := HXL.out; omega
    by_cases hlt : k < zerosN xs.length
    · have ht : (((ys.length : Int) % 64) != 56) = true := by
        have : (ys.length : Int) % 64 ≠ 56 := by omega
        simpa using this
      have HYL := Aside0.mk hyl
      have HYS := Aside0.mk hys
      have HK := Aside0.mk hk
      have HLT := Aside0.mk hlt
      clear hyl hys hk hlt hz
      go_wp2_with ((with_reducible refine gate_builtin (b := .append) (xs := #[.tmp 34, .tmp 35]) rfl ?_); at_builtin; refine Kd.R_append (Kd.int .u8) (w0 := wa) wa.heap.size rfl (.tmp 34) (.tmp 35) 22 5 (.int .u8 0) 1 rfl Try.underlying22 info5 rfl (by decide) (by omega) (.slice A1 ys.length c1) ys 0 [.int .u8 0] (fun _ => True) (fun _ => False) rfl rfl ?aP (fun _ hk => hk.elim) ?aF ?aO ?aB ?aS ?aL ?_; (case aP => exact rfl); (case aB => exact HB.out); (case aF => exact (fun _ _ => trivial)); (case aO => exact HR.out); (case aS => exact HB.out.size); (case aL => omega); intro v2 w3 ho hb hg hat; obtain ⟨A2, c2, rfl, hc2, hC2⟩ := Kd.R_reads ho; have HO := Aside0.mk ho; have HB3 := Aside0.mk hb; clear ho hb hg hat hc2 hC2)
      go_roundw
      case rel =>
        refine ⟨k + 1, HLT.out, ⟨?_⟩, HB3⟩
        have h := HO.out
        rw [show xs ++ [128] ++ List.replicate (k + 1) (0 : Int) = ys ++ [0] by rw [HYS.out, List.replicate_succ', ← List.append_assoc]]
        rw [List.length_append, List.length_singleton] at h
        exact h
      case measure => have := HYL.out; have := HLT.out; have h63 : zerosN xs.length ≤ 63 := by unfold zerosN; omega
                      simp; omega
    · have ht : (((ys.length : Int) % 64) != 56) = false := by
        have : (ys.length : Int) % 64 = 56 := by omega
        simpa using this
      have hkz : k = zerosN xs.length := by omega
      have HYS := Aside0.mk (hkz ▸ hys)
      have HYL := Aside0.mk hyl
      have HKZ := Aside0.mk hkz
      have HGr := Aside0.mk (blk_below HGa.out HB.out)
      have hc9 : wr.cell? ⟨g, 9, none⟩ = some (.int .i64 n) := (blk_cell HGr.out 9).trans (hcells_at S _ _ HS.out).2.2.1
      clear hyl hys hk hlt hz hkz
      go_wp2
      clear HGr hc9 ht
      obtain ⟨m, hm⟩ : ∃ m, m = 8 * n := ⟨_, rfl⟩
      obtain ⟨wc, rfl⟩ : ∃ wc : World, wc = wr := ⟨_, rfl⟩
      go_loopw [3, 43] (fun v i wr => ∃ k : Nat, k ≤ 8 ∧ i = .int .i64 k ∧ Aside0 (Kd.R (Kd.int .u8) 5 wr wa.heap.size (fun _ => True) v (ys ++ bitsB n k)) ∧ Aside0 (Below wa.heap.size wa wr)) (fun _ i _ => 8 - (intOf i).toNat)
      case atStart => exact ⟨0, Nat.zero_le _, rfl, ⟨by rw [bitsB, List.append_nil]; exact HR.out⟩, HB⟩
      case round =>
        clear HR HB hc1
        obtain ⟨k2, hk2, rfl, HR, HB⟩ := hrel
        obtain ⟨A2, c2, rfl, hc2, _⟩ := Kd.R_reads HR.out
        obtain ⟨zs, hzs⟩ : ∃ zs, zs = ys ++ bitsB n k2 := ⟨_, rfl⟩
        rw [← hzs] at HR hc2 ⊢
        have HZS := Aside0.mk hzs
        have HC2 := Aside0.mk hc2
        clear hzs hc2
        by_cases hlt : k2 < 8
        · have hzl : zs.length ≤ 1000000000 := by have := HXL.out; have h1 := HYL.out; have h2 := HKZ.out; have h63 : zerosN xs.length ≤ 63 := (by unfold zerosN; omega); rw [HZS.out, List.length_append, bitsB_len]; omega
          have HZL := Aside0.mk hzl
          have HLT := Aside0.mk hlt
          have ht2 : decide ((k2 : Int) < 8) = true := decide_eq_true (by omega)
          clear hzl
          go_wp2_with ((with_reducible refine gate_builtin (b := .append) (xs := #[.tmp 46, .tmp 53]) rfl ?_); at_builtin; refine Kd.R_append (Kd.int .u8) (w0 := wa) wa.heap.size rfl (.tmp 46) (.tmp 53) 22 5 (.int .u8 0) 1 rfl Try.underlying22 info5 rfl (by decide) (by omega) (.slice A2 zs.length c2) zs (8 * n / 2 ^ (56 - 8 * k2) % 256) [.int .u8 (8 * n / 2 ^ (56 - 8 * k2) % 256)] (fun _ => True) (fun _ => False) rfl rfl ?bP (fun _ hk => hk.elim) ?bF ?bO ?bB ?bS ?bL ?_; (case bP => exact rfl); (case bB => exact HB.out); (case bF => exact (fun _ _ => trivial)); (case bO => exact HR.out); (case bS => exact HB.out.size); (case bL => have := HZL.out; omega); intro v2 w3 ho hb hg hat; have HO := Aside0.mk ho; have HB3 := Aside0.mk hb; clear ho hb hg hat)
          go_roundw
          case rel =>
            refine ⟨k2 + 1, HLT.out, by go_num, ⟨?_⟩, HB3⟩
            rw [show ys ++ bitsB n (k2 + 1) = zs ++ [8 * n / 2 ^ (56 - 8 * k2) % 256] by rw [HZS.out, bitsB, List.append_assoc]]
            exact HO.out
          case measure => simp [intOf]; omega
        · have hk8 : k2 = 8 := by omega
          subst hk8
          clear hlt hk2
          have hes : zs = padF xs n := by rw [HZS.out, HYS.out]; rfl
          subst hes
          have HGr := Aside0.mk (blk_below HGa.out HB.out)
          have HB2 := Aside0.mk (blk_below B2.out HB.out)
          have HCC := Aside0.mk (Kd.R_reads' HR.out).2.2
          have HPL := Aside0.mk (padF_len xs n)
          have HP8 := Aside0.mk (padF_8 xs n HX8.out)
          have HBw := Aside0.mk (below_step HBA.out HB.out)
          obtain ⟨es, hes⟩ : ∃ es, es = padF xs n := ⟨_, rfl⟩
          rw [← hes] at HCC HPL HP8 HC2 ⊢
          have HES := Aside0.mk hes
          clear HR HZS hes HB B2
          have hd0 : wr.cell? ⟨g, 0, none⟩ = some (.int .u32 (rd S 0)) := (blk_cell HGr.out 0).trans ((hcells_at S _ _ HS.out).1 0 (by decide))
          have hd1 : wr.cell? ⟨g, 1, none⟩ = some (.int .u32 (rd S 1)) := (blk_cell HGr.out 1).trans ((hcells_at S _ _ HS.out).1 1 (by decide))
          have hd2 : wr.cell? ⟨g, 2, none⟩ = some (.int .u32 (rd S 2)) := (blk_cell HGr.out 2).trans ((hcells_at S _ _ HS.out).1 2 (by decide))
          have hd3 : wr.cell? ⟨g, 3, none⟩ = some (.int .u32 (rd S 3)) := (blk_cell HGr.out 3).trans ((hcells_at S _ _ HS.out).1 3 (by decide))
          have hd4 : wr.cell? ⟨g, 4, none⟩ = some (.int .u32 (rd S 4)) := (blk_cell HGr.out 4).trans ((hcells_at S _ _ HS.out).1 4 (by decide))
          have hd5 : wr.cell? ⟨g, 5, none⟩ = some (.int .u32 (rd S 5)) := (blk_cell HGr.out 5).trans ((hcells_at S _ _ HS.out).1 5 (by decide))
          have hd6 : wr.cell? ⟨g, 6, none⟩ = some (.int .u32 (rd S 6)) := (blk_cell HGr.out 6).trans ((hcells_at S _ _ HS.out).1 6 (by decide))
          have hd7 : wr.cell? ⟨g, 7, none⟩ = some (.int .u32 (rd S 7)) := (blk_cell HGr.out 7).trans ((hcells_at S _ _ HS.out).1 7 (by decide))
          have h8s := list8 S HS.out
          have H8S := Aside0.mk h8s
          clear h8s
          go_wp2_with fail
          rw [H8S.out]
          with_reducible refine (blocks_calls S _ _ es wr HS.out HCC.out HC2.out (by have := HPL.out; have := HXL.out; have h63 : zerosN xs.length ≤ 63 := (by unfold zerosN; omega); omega) HP8.out).mono ?_
          rintro e w3 ⟨A3, c3, rfl, hC3, hc3, hb3⟩
          generalize hNB : blkN S es (es.length / 64) = NB
          have hNl : NB.length = 8 := by rw [← hNB]; exact blkN_len _ _ HS.out _
          have HNB := Aside0.mk hNB
          have HNL := Aside0.mk hNl
          have HB23 := Aside0.mk (blk_below HB2.out hb3)
          have HBw3 := Aside0.mk (below_step HBw.out hb3)
          have I47 : Aside0 ((Try.prog.info? 47).map (·.size) = some 8) := ⟨by kernel_rfl⟩
          have SZ : Aside0 ((u32s NB).size = 8) := ⟨by rw [u32s_size, hNl]⟩
          clear hNB hNl hC3 hc3 hb3 hd0 hd1 hd2 hd3 hd4 hd5 hd6 hd7
          go_wp2_with (first | ((with_reducible refine gate_dst (N := 6) rfl ?_); refine box_event ?hg (N := 6) ?hd (cs := u32s (List.replicate 8 0)) (t := 47) ?hr ?_; (case hd => rfl); (case hg => rfl); (case hr => exact alloc47 _ _ _ _ _ _); intro g5 hg5 w4 hbox hb4; have N5 := Aside0.mk (show g5 ≠ g2 from by have h_ := blk_lt HB23.out; omega); have B5 := Aside0.mk hbox; have HB24 := Aside0.mk (blk_below HB23.out hb4); have HBw4 := Aside0.mk (below_step HBw3.out hb4); have G5 := Aside0.mk (show w.heap.size ≤ g5 from by have h_ := HBw3.out.size; omega); clear hbox hb4 hg5) | ((with_reducible refine gate_op (.store 47 (.tmp 6) (.tmp 63)) rfl ?_); refine wpList_store_row rfl 47 (.tmp 6) (.tmp 63) rfl g5 (by rfl) 47 (u32s (List.replicate 8 0)) (u32s NB) (by rfl) B5.out (by rw [SZ.out]; exact I47.out) (by rw [SZ.out]; rfl) (u32s_one _) ?_; have B6 := Aside0.mk (setRow_heap _ _ _ (u32s NB) _ _ B5.out); have HB25 := Aside0.mk ((setRow_other _ g5 g2 (u32s NB) N5.out.symm).trans HB24.out); have HBw5 := Aside0.mk (below_row HBw4.out G5.out (u32s NB)); (generalize hW_ : World.setRow _ g5 _ = w5 at B6 HB25 HBw5 ⊢); clear hW_) | ((with_reducible refine gate_op (.load 47 (.tmp 6)) rfl ?_); refine wpList_load_row rfl 47 (.tmp 6) rfl g5 (by rfl) 47 (u32s NB) (0, 0) _ B6.out Try.underlying47 rfl (by rw [SZ.out]; exact I47.out) ?_))
          go_loopw [66] (fun i wr => ∃ k : Nat, k ≤ 8 ∧ i = .int .i64 k ∧ Aside0 (wr.heap[g2]? = some (.cells (u8s (outF NB k)) 28 (0, 0))) ∧ Aside0 (Below w.heap.size w wr)) (fun i _ => 8 - (intOf i).toNat)
          case atStart => exact ⟨0, Nat.zero_le _, rfl, HB25, HBw5⟩
          case round =>
            clear HB25 HBw5 B6
            obtain ⟨k, hk, rfl, HB2, HBw⟩ := hrel
            by_cases hlt : k < 8
            · have hidx := index47 NB k HNL.out hlt
              have hx0 := (blk_cell HB2.out (4 * k)).trans (u8s_get (outF NB k) (4 * k) (by rw [outF_len]; omega))
              have hx1 := (blk_cell HB2.out (4 * k + 1)).trans (u8s_get (outF NB k) (4 * k + 1) (by rw [outF_len]; omega))
              have hx2 := (blk_cell HB2.out (4 * k + 2)).trans (u8s_get (outF NB k) (4 * k + 2) (by rw [outF_len]; omega))
              have hx3 := (blk_cell HB2.out (4 * k + 3)).trans (u8s_get (outF NB k) (4 * k + 3) (by rw [outF_len]; omega))
              have hf0 := blk_frozen HB2.out (4 * k)
              have hf1 := blk_frozen HB2.out (4 * k + 1)
              have hf2 := blk_frozen HB2.out (4 * k + 2)
              have hf3 := blk_frozen HB2.out (4 * k + 3)
              have ht : decide ((k : Int) < 8) = true := decide_eq_true (by omega)
              go_wp2
              go_roundw
              case rel =>
                refine ⟨k + 1, hlt, by go_num, ⟨?_⟩, ⟨below_set (below_set (below_set (below_set HBw.out G2.out) G2.out) G2.out) G2.out⟩⟩
                have h := blk_set (blk_set (blk_set (blk_set HB2.out (4 * k) (.int .u8 (rd NB (k : Int) / 16777216 % 256))) (4 * k + 1) (.int .u8 (rd NB (k : Int) / 65536 % 256))) (4 * k + 2) (.int .u8 (rd NB (k : Int) / 256 % 256))) (4 * k + 3) (.int .u8 (rd NB (k : Int) % 256))
                rw [u8s_set, u8s_set, u8s_set, u8s_set] at h
                exact h
              case measure => simp [intOf]; omega
            · have hk8 : k = 8 := by omega
              subst hk8
              clear hlt hk
              have I28 : Aside0 ((Try.prog.info? 28).map (·.size) = some 32) := ⟨by kernel_rfl⟩
              have SZ2 : Aside0 ((u8s (outF NB 8)).size = 32) := ⟨by rw [u8s_size, outF_len]⟩
              go_wp2_with (first | ((with_reducible refine gate_op (.load 28 (.tmp 2)) rfl ?_); refine wpList_load_row rfl 28 (.tmp 2) rfl g2 (by rfl) 28 (u8s (outF NB 8)) (0, 0) _ HB2.out Try.underlying28 rfl (by rw [SZ2.out]; exact I28.out) ?_) | ((with_reducible refine gate_op (.store 28 (.tmp 2) (.tmp 97)) rfl ?_); refine wpList_store_row rfl 28 (.tmp 2) (.tmp 97) rfl g2 (by rfl) 28 (u8s (outF NB 8)) (u8s (outF NB 8)) (by rfl) HB2.out (by rw [SZ2.out]; exact I28.out) rfl (u8s_one _) ?_))
              refine bodyPost_ret (results_cell_row rfl _ _ g2 28 (u8s (outF NB 8)) (0, 0) _ rfl (setRow_heap _ _ _ _ _ _ HB2.out) Try.underlying28 rfl (by rw [SZ2.out]; exact I28.out)) rfl ⟨?_, below_row HBw.out G2.out _⟩
              rw [← HNB.out, HES.out]
              rfl

theorem add_nil (A : Option Addr) (n c : Nat) (w : World) : Calls Try.prog 19 #[.pointer none, .slice A n c] w fun e w' => e = .returned (.tuple #[]) ∧ w = w' := by
  go_enter Try.func19, Try.ntmps19
  go_wp2
  exact bodyPost_ret (v := .tuple #[]) (by simp [results, Try.results19, go_sem]) rfl ⟨rfl, rfl⟩
theorem len_nil (w : World) : Calls Try.prog 21 #[.pointer none] w fun e w' => e = .returned (.int .i64 0) ∧ w = w' := by
  go_enter Try.func21, Try.ntmps21
  go_wp2
  go_ret
  exact ⟨rfl, rfl⟩
theorem len_calls (g : Nat) (S : List Int) (v : Value) (n : Int) (w : World) (hS : S.length = 8) (hg : w.heap[g]? = some (.cells (hcells S v n) 50 (0, 0))) : Calls Try.prog 21 #[.pointer (some ⟨g, 0, none⟩)] w fun e w' => e = .returned (.int .i64 n) ∧ w = w' := by
  have hc9 : w.cell? ⟨g, 9, none⟩ = some (.int .i64 n) := (blk_cell hg 9).trans (hcells_at S v n hS).2.2.1
  clear hg hS
  go_enter Try.func21, Try.ntmps21
  go_wp2
  go_ret
  exact ⟨rfl, rfl⟩
theorem eq28d (d : Nat) (l : List Int) (hl : l.length = 32) (w : World) : (Op.equalIn (d + 1 + 1) 28 (.agg (u8s l)) (.agg (u8s l))).run Try.prog w = .ok true w := by
  have h5 : (sizeOf 5).run Try.prog w = .ok 1 w := by
    obtain ⟨i, hi, _, hs, _⟩ := info_parts info5
    simp [sizeOf, typeInfo, hi, hs, go_sem]
  have h6 : (isAgg 5).run Try.prog w = .ok false w := by simp [isAgg, run_underlying Try.underlying5, go_sem]
  have hp : ∀ i : Nat, i < 32 → (part 5 (u8s l) (i * 1)).run Try.prog w = .ok (.int .u8 (rd l (i : Int))) w := fun i hi => by
    have h2 := u8s_get l i (by omega)
    rw [Nat.mul_one]
    simp [part, h6, h2, go_sem]
  rw [Op.equalIn]
  simp only [Sem.run_bind, run_underlying Try.underlying28, Result.andThen_ok, h5, Std.Legacy.Range.forIn_eq_forIn_range']
  have hf : ∀ is : List Nat, (∀ i ∈ is, i < 32) → Sem.run Try.prog
          (forIn is ((none : Option Bool), ()) fun i __s => do
            let __do_lift ← part 5 (u8s l) (i * 1)
            let __do_lift_1 ← part 5 (u8s l) (i * 1)
            let __do_lift ← Op.equalIn (d + 1) 5 __do_lift __do_lift_1
            if (!__do_lift) = true then pure (ForInStep.done (some false, ())) else pure (ForInStep.yield (none, ())))
          w = .ok (none, ()) w := by
    intro is
    induction is with
    | nil => intro _; simp [Sem.run_pure]
    | cons i is ih =>
      intro h
      have he := run_equalIn_int (P := Try.prog) w d 5 .u8 .u8 (rd l (i : Int)) (rd l (i : Int)) Try.underlying5
      simp only [List.forIn_cons, Sem.run_bind, hp i (h i (List.mem_cons_self ..)), Result.andThen_ok, he, beq_self_eq_true, Bool.not_true, Bool.false_eq_true, if_false, Sem.run_pure]
      exact ih (fun j hj => h j (List.mem_cons_of_mem _ hj))
  rw [hf _ (fun i hi => by have := List.mem_range'.1 hi; simp [Std.Legacy.Range.size] at this; omega)]
  simp [Sem.run_pure]
theorem eq28 (l : List Int) (hl : l.length = 32) (w : World) : (Op.equalIn 10000 28 (.agg (u8s l)) (.agg (u8s l))).run Try.prog w = .ok true w := eq28d 9998 l hl w
theorem guard28 : Try.prog.eqGuardType Try.prog.depth 28 = false := by kernel_rfl

end Go.Proofs.Ytijjopioamdahaa.D
