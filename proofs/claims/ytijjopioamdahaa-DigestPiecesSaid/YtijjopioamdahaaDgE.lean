/- The sum of nothing, a new Hash: the walks. -/
import Derived.Test.YtijjopioamdahaaProg
import Derived.Below
import Derived.Deep.Draws
import Derived.Deep.AppendLies
import Derived.Maps.AppendAt
import Derived.OwnWalk
import Derived.Laws.BytesArg
import Derived.Laws.MakeOwn
import Derived.Laws.OwnMore
import Derived.Deep.OwnRows
import Derived.Tactics
import Derived.Lib.ConvBytes
import Derived.Laws.Slices
import Derived.WalkKit
import Derived.KernelRfl
import Derived.RowKit3
import Derived.Deep.LoopGhost
import Derived.Deep.QuietTactic
import Derived.BigQuiet
import Derived.WideLaws
import Derived.Deep.DeepCutAuto
import Derived.Deep.CutBlock
import Derived.Deep.RegionHeld3
import Derived.Laws.Rows
import Derived.Lib.AppendStr
import Derived.ArgAppend
import Derived.Laws.IdiomCopy
import Derived.OrdersHeld
import Derived.Laws.BitsLemmas
import Derived.RowKit
import Derived.Test.YtijjopioamdahaaWWords
import Derived.Test.YtijjopioamdahaaWLast
import Derived.Test.YtijjopioamdahaaWTab
import Derived.Test.YtijjopioamdahaaWQPut
import Derived.Test.YtijjopioamdahaaWApart
import Derived.Test.YtijjopioamdahaaWArr
import Derived.Test.YtijjopioamdahaaWZeros
import Derived.Test.YtijjopioamdahaaWFoot
import Derived.Test.YtijjopioamdahaaWKept
import Derived.Test.YtijjopioamdahaaWShare
import Derived.Test.YtijjopioamdahaaWN
import Derived.Test.YtijjopioamdahaaWEqStruct
import Derived.Test.YtijjopioamdahaaWGuard
import Derived.Test.YtijjopioamdahaaWNEv
import Derived.Test.YtijjopioamdahaaWMore
import Derived.Test.YtijjopioamdahaaX1
import Derived.Test.YtijjopioamdahaaDgA
import Derived.Test.YtijjopioamdahaaDgB
import Derived.Test.YtijjopioamdahaaDgC
import Derived.Test.YtijjopioamdahaaDgD
namespace Go.Proofs.Ytijjopioamdahaa.D
open Go.RowKit Go.Proofs.Ytijjopioamdahaa.X Go.Proofs.YtijjopioamdahaaW.PrintWords Go.Proofs.YtijjopioamdahaaW.PrintLast Go.Proofs.YtijjopioamdahaaW.PrintMore
attribute [local go_sem] max2_int min2_int max_two min_two max_three min_three max_four min_four   -- for this text's walks alone
set_option linter.unusedVariables false
set_option linter.unusedSimpArgs false
def START : List Int := [1779033703, 3144134277, 1013904242, 2773480762, 1359893119, 2600822924, 528734635, 1541459225]
set_option maxHeartbeats 4000000 in
set_option maxRecDepth 100000 in
theorem start_calls (w : World) : Calls Try.prog 24 #[] w fun e w' => e = .returned (.agg (u32s START)) ∧ Below w.heap.size w w' := by
  have HZ : Aside0 ((w.alloc (.cells (u32s (List.replicate 8 0)) 47)).heap[w.heap.size]? = some (.cells (u32s (List.replicate 8 0)) 47 (0, 0))) := ⟨blk_new w _⟩
  have I47 : Aside0 ((Try.prog.info? 47).map (·.size) = some 8) := ⟨by kernel_rfl⟩
  go_enter Try.func24, Try.ntmps24
  go_wp2_with ((with_reducible refine gate_op (.store 47 (.tmp 0) (.tmp 1)) rfl ?_); refine wpList_store_row rfl 47 (.tmp 0) (.tmp 1) rfl w.heap.size rfl 47 (u32s (List.replicate 8 0)) (u32s START) (by kernel_rfl) HZ.out I47.out rfl (u32s_one _) ?_)
  refine bodyPost_ret (results_cell_row rfl _ _ w.heap.size 47 (u32s START) (0, 0) _ rfl (setRow_heap _ _ _ _ _ _ HZ.out) Try.underlying47 rfl I47.out) rfl ⟨rfl, ?_⟩
  exact below_row (below_alloc (Below.refl _ _) _) (Nat.le_refl _) _
/-- A Hash's cells: the sum of whole blocks, what is left, how many bytes there were. -/
def hcells (S : List Int) (v : Value) (n : Int) : Array Value := (nums .u32 S ++ [v, .int .i64 n]).toArray
theorem hcells_at (S : List Int) (v : Value) (n : Int) (h : S.length = 8) : (∀ j : Nat, j < 8 → (hcells S v n)[j]? = some (.int .u32 (rd S (j : Int)))) ∧ (hcells S v n)[8]? = some v ∧ (hcells S v n)[9]? = some (.int .i64 n) ∧ (hcells S v n).size = 10 := by
  have hn : (nums .u32 S).length = 8 := by rw [nums_length, h]
  refine ⟨fun j hj => ?_, ?_, ?_, ?_⟩
  · have := u32s_get S j (by omega)
    unfold u32s at this
    unfold hcells
    rw [List.getElem?_toArray] at this ⊢
    rw [List.getElem?_append_left (by omega)]
    exact this
  · unfold hcells
    rw [List.getElem?_toArray, List.getElem?_append_right (by omega), hn]; rfl
  · unfold hcells
    rw [List.getElem?_toArray, List.getElem?_append_right (by omega), hn]; rfl
  · unfold hcells
    simp [hn]
set_option maxHeartbeats 4000000 in
set_option maxRecDepth 100000 in
theorem new_calls (w : World) : Calls Try.prog 18 #[] w fun e w' => ∃ g : Nat, e = .returned (.pointer (some ⟨g, 0, none⟩)) ∧ w'.heap[g]? = some (.cells (hcells START (.slice none 0 0) 0) 50 (0, 0)) ∧ w.heap.size ≤ g ∧ Below w.heap.size w w' := by
  go_enter Try.func18, Try.ntmps18
  go_wp2_with (go_at_call 24; refine (start_calls _).mono ?_; rintro e w1 ⟨rfl, hb⟩)
  have h := blk_new w1 (.cells (hcells START (.slice none 0 0) 0) 50 (0, 0))
  refine bodyPost_ret (v := .pointer (some ⟨w1.heap.size, 0, none⟩)) (by simp [results, Try.results18, go_sem]) rfl ⟨w1.heap.size, rfl, h, hb.size, below_alloc hb _⟩
end Go.Proofs.Ytijjopioamdahaa.D
