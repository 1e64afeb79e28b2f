/- The constants of the rounds: the walk. -/
import Derived.Test.YtijjopioamdahaaProg
import Derived.Below
import Derived.Deep.Draws
import Derived.Deep.AppendLies
import Derived.Maps.AppendAt
import Derived.OwnWalk
import Derived.Laws.BytesArg
import Derived.Laws.MakeOwn
import Derived.Laws.OwnMore
import Derived.Deep.OwnRows
import Derived.Tactics
import Derived.Lib.ConvBytes
import Derived.Laws.Slices
import Derived.WalkKit
import Derived.KernelRfl
import Derived.RowKit3
import Derived.Deep.LoopGhost
import Derived.Deep.QuietTactic
import Derived.BigQuiet
import Derived.WideLaws
import Derived.Deep.DeepCutAuto
import Derived.Deep.CutBlock
import Derived.Deep.RegionHeld3
import Derived.Laws.Rows
import Derived.Lib.AppendStr
import Derived.ArgAppend
import Derived.Laws.IdiomCopy
import Derived.OrdersHeld
import Derived.Laws.BitsLemmas
import Derived.RowKit
import Derived.Test.YtijjopioamdahaaWWords
import Derived.Test.YtijjopioamdahaaWLast
import Derived.Test.YtijjopioamdahaaWTab
import Derived.Test.YtijjopioamdahaaWQPut
import Derived.Test.YtijjopioamdahaaWApart
import Derived.Test.YtijjopioamdahaaWArr
import Derived.Test.YtijjopioamdahaaWZeros
import Derived.Test.YtijjopioamdahaaWFoot
import Derived.Test.YtijjopioamdahaaWKept
import Derived.Test.YtijjopioamdahaaWShare
import Derived.Test.YtijjopioamdahaaWN
import Derived.Test.YtijjopioamdahaaWEqStruct
import Derived.Test.YtijjopioamdahaaWGuard
import Derived.Test.YtijjopioamdahaaWNEv
import Derived.Test.YtijjopioamdahaaWMore
import Derived.Test.YtijjopioamdahaaX1
import Derived.Test.YtijjopioamdahaaDgA
namespace Go.Proofs.Ytijjopioamdahaa.D
open Go.RowKit Go.Proofs.Ytijjopioamdahaa.X Go.Proofs.YtijjopioamdahaaW.PrintWords Go.Proofs.YtijjopioamdahaaW.PrintLast Go.Proofs.YtijjopioamdahaaW.PrintMore
attribute [local go_sem] max2_int min2_int max_two min_two max_three min_three max_four min_four   -- for this text's walks alone
set_option linter.unusedVariables false
set_option linter.unusedSimpArgs false
theorem below_row {B g : Nat} {w0 w : World} (hb : Below B w0 w) (hBg : B ≤ g) (cs : Array Value) : Below B w0 (w.setRow g cs) :=
  hb.trans ⟨rfl, rfl, rfl, by simp [World.setRow], fun k hk => setRow_other w g k cs (by omega)⟩
/-- The constants of the 64 rounds. -/
def KS : List Int := [1116352408, 1899447441, 3049323471, 3921009573, 961987163, 1508970993, 2453635748, 2870763221, 3624381080, 310598401, 607225278, 1426881987, 1925078388, 2162078206, 2614888103, 3248222580, 3835390401, 4022224774, 264347078, 604807628, 770255983, 1249150122, 1555081692, 1996064986, 2554220882, 2821834349, 2952996808, 3210313671, 3336571891, 3584528711, 113926993, 338241895, 666307205, 773529912, 1294757372, 1396182291, 1695183700, 1986661051, 2177026350, 2456956037, 2730485921, 2820302411, 3259730800, 3345764771, 3516065817, 3600352804, 4094571909, 275423344, 430227734, 506948616, 659060556, 883997877, 958139571, 1322822218, 1537002063, 1747873779, 1955562222, 2024104815, 2227730452, 2361852424, 2428436474, 2756734187, 3204031479, 3329325298]
set_option maxHeartbeats 4000000 in
set_option maxRecDepth 100000 in
theorem constants_calls (w : World) : Calls Try.prog 29 #[] w fun e w' => e = .returned (.agg (u32s KS)) ∧ Below w.heap.size w w' := by
  have hi55 : (Try.prog.info? 55).map (·.size) = some 64 := by kernel_rfl
  have HI := Aside0.mk hi55
  have hK : (u32s KS).size = 64 := by rw [u32s_size]; rfl
  have HK := Aside0.mk hK
  have hz : (w.alloc (.cells (u32s (List.replicate 64 0)) 55)).heap[w.heap.size]? = some (.cells (u32s (List.replicate 64 0)) 55 (0, 0)) := blk_new w _
  have HZ := Aside0.mk hz
  clear hi55 hK hz
  go_enter Try.func29, Try.ntmps29
  go_wp2_with (first | (refine wpList_store_row rfl 55 (.tmp 0) (.tmp 1) rfl w.heap.size rfl 55 (u32s (List.replicate 64 0)) (u32s KS) (by kernel_rfl) HZ.out (by rw [HK.out]; exact HI.out) (by rw [HK.out]; kernel_rfl) (u32s_one _) ?_))
  refine bodyPost_ret (results_cell_row rfl _ _ w.heap.size 55 (u32s KS) (0, 0) _ rfl (setRow_heap _ _ _ _ _ _ HZ.out) Try.underlying55 rfl (by rw [HK.out]; exact HI.out)) rfl ⟨rfl, ?_⟩
  exact below_row (below_alloc (Below.refl _ _) _) (Nat.le_refl _) _
end Go.Proofs.Ytijjopioamdahaa.D
