/- Texts of this seat that a claim bears, put together by this session's own program shake.py: TrZl. -/
import Derived.Test.YtabkinlpbefjgaaProg
import Derived.Below
import Derived.Deep.Draws
import Derived.Deep.AppendLies
import Derived.Maps.AppendAt
import Derived.OwnWalk
import Derived.Laws.BytesArg
import Derived.Laws.MakeOwn
import Derived.Laws.OwnMore
import Derived.Deep.OwnRows
import Derived.Tactics
import Derived.Lib.ConvBytes
import Derived.Laws.Slices
import Derived.WalkKit
import Derived.KernelRfl
import Derived.RowKit3
import Derived.Deep.LoopGhost
import Derived.Deep.QuietTactic
import Derived.BigQuiet
import Derived.WideLaws
import Derived.Deep.DeepCutAuto
import Derived.Deep.CutBlock
import Derived.Deep.RegionHeld3
import Derived.Laws.Rows
import Derived.Lib.AppendStr
import Derived.ArgAppend
import Derived.Laws.IdiomCopy
import Derived.OrdersHeld
import Derived.Laws.BitsLemmas
import Derived.RowKit
import Derived.Test.YtabkinlpbefjgaaKc0
import Derived.Test.YtabkinlpbefjgaaKc1
import Derived.Test.YtabkinlpbefjgaaKc5
import Derived.Test.YtabkinlpbefjgaaKc7
import Derived.Maps.Own
import Derived.Recover
import Derived.WalkSmall
import Derived.StillTailTactics
import Derived.Laws.Pointers
import Derived.Test.YtabkinlpbefjgaaKc14
import Derived.Test.YtabkinlpbefjgaaKc20
import Derived.DataShut
import Derived.Deep.RegionLawGrows
import Derived.Deep.Upon
import Derived.Deep.MidRow
import Derived.Test.YtabkinlpbefjgaaKc6
namespace Go.Proofs.Ytabkinlpbefjgaa.L
open Go.RowKit Go.Proofs.Ytabkinlpbefjgaa.X Go.Proofs.YtabkinlpbefjgaaW.PrintWords Go.Proofs.YtabkinlpbefjgaaW.PrintLast Go.Proofs.YtabkinlpbefjgaaW.PrintMore
attribute [local go_sem] max2_int min2_int max_two min_two max_three min_three max_four min_four   -- for this text's walks alone
set_option linter.unusedVariables false
set_option linter.unusedSimpArgs false
open Go.Proofs.Ytabkinlpbefjgaa.Pure
theorem may_fL (A : Option Addr) (c : Nat) (w : World) (hF : Kd.C k47 w A [fL].length [fL]) (hc : 1 ≤ c) :
    Calls Try.prog 15 #[.agg #[.slice none 0 0, .slice A 1 c]] w fun e w' => e = .returned (.bool true) ∧ Below w.heap.size w w' := by
  refine may_yes [fL] A c w hF hc (by decide) (by rw [fnAt_fL]; decide) (by rw [fnAt_fL]; rfl) (fun k hk => ?_)
  obtain rfl : k = 0 := by simpa using hk
  refine ⟨fun A3 c3 w h3 hc3 => ?_, fnAt_fL, fun b hb x hx => ?_⟩
  · refine mayfn_yes fL A3 c3 w h3 hc3 isname_main (by decide) (by decide) (by decide) (by decide) (by decide) (fun b hb => ?_)
    obtain rfl : b = bL := by simpa [fL] using hb
    refine ⟨fun x hx => ?_, .inl ⟨rfl, rfl, rfl⟩, by decide⟩
    have hx2 : x = x8 ∨ x = x9 := by simpa [bL] using hx
    rcases hx2 with rfl | rfl
    · exact fun A7 c7 w _ _ => yes_x8 A7 c7 w
    · exact fun A7 c7 w _ _ => yes_x9 A7 c7 w
  · have hb2 : b = bL := by
      have : b ∈ [bL] := hb
      simpa using this
    subst hb2
    have hx2 : x = x8 ∨ x = x9 := by simpa [bL] using hx
    rcases hx2 with rfl | rfl
    · exact ⟨by decide, by decide, fun h => absurd h (by decide)⟩
    · exact ⟨by decide, by decide, fun h => absurd h (by decide)⟩
theorem trace_fL (A B : Addr) (w : World) (hF : Kd.C k47 w (some A) [fL].length [fL]) (hI : (Kd.int .i32).C w (some B) 1 [5]) :
    Calls Try.prog 10 #[.agg #[.slice none 0 0, .slice (some A) 1 1], .slice (some B) 1 1, .int .i64 100] w fun e w' => ∃ D c, e = .returned (.agg #[.int .i64 1, .int .i32 5, .slice D 1 c, .int .i64 3, .int .i64 1]) ∧ (Kd.int .i32).C w' D 1 [5] ∧ Below w.heap.size w w' := by
  refine (trace_calls [fL] [] [5] 100 w A 1 none 0 (some B) 1 hF (Kd.C_nil k57 w) hI (by decide) (by decide) (by decide) ok_fL ?_ ?_ ?_ (by decide) (by decide)).mono ?_
  · intro v hv
    obtain rfl : v = 5 := by simpa using hv
    constructor <;> decide
  · intro f hf
    obtain rfl : f = fL := by simpa using hf
    decide
  · intro g hg
    cases hg
  · rintro e w' ⟨en, v, G, D, c, hr, he, _, hC, hB⟩
    obtain ⟨G2, h1, h2, h3, h4⟩ := lives_run
    rw [h1] at hr
    injection hr with r1 r2 r3
    subst r1 r2 r3
    rw [h2, h3, h4] at he
    have hC := hC.now
    rw [h2] at hC
    exact ⟨D, c, he, hC, hB⟩
@[reducible] def livesW (w : World) : World := ((((w.alloc (.cells #[.int .i64 8, .int .i64 0, .int .i64 0, .int .i64 (-1), .int .i64 (-1), .int .i32 0, .string ⟨#[]⟩, .slice none 0 0, .int .i64 9, .int .i64 0, .int .i64 (-1), .int .i64 0, .int .i64 (-1), .int .i32 0, .string ⟨#[]⟩, .slice none 0 0] 44)).alloc (.cells #[.slice (some ⟨w.heap.size, 0, none⟩) 2 2, .int .i64 3, .int .i64 0, .int .i64 0, .int .i64 0] 41)).alloc (.cells #[.string ⟨#[109, 97, 105, 110]⟩, .int .i64 0, .int .i64 1, .slice (some ⟨w.heap.size + 1, 0, none⟩) 1 1] 47)).alloc (.cells #[.slice none 0 0, .slice (some ⟨w.heap.size + 1 + 1, 0, none⟩) 1 1] 25)).alloc (.cells #[.int .i32 5] 21)
theorem livesW_facts (w : World) : Below w.heap.size w (livesW w) ∧ Kd.C k47 (livesW w) (some ⟨w.heap.size + 1 + 1, 0, none⟩) [fL].length [fL] ∧ (Kd.int .i32).C (livesW w) (some ⟨w.heap.size + 1 + 1 + 1 + 1, 0, none⟩) 1 [5] ∧ (livesW w).heap[w.heap.size + 1 + 1 + 1]? = some (.cells #[.slice none 0 0, .slice (some ⟨w.heap.size + 1 + 1, 0, none⟩) 1 1] 25 (0, 0)) := by
  have h1 := blk_new w (.cells #[.int .i64 8, .int .i64 0, .int .i64 0, .int .i64 (-1), .int .i64 (-1), .int .i32 0, .string ⟨#[]⟩, .slice none 0 0, .int .i64 9, .int .i64 0, .int .i64 (-1), .int .i64 0, .int .i64 (-1), .int .i32 0, .string ⟨#[]⟩, .slice none 0 0] 44)
  have h2 : ((w.alloc (.cells #[.int .i64 8, .int .i64 0, .int .i64 0, .int .i64 (-1), .int .i64 (-1), .int .i32 0, .string ⟨#[]⟩, .slice none 0 0, .int .i64 9, .int .i64 0, .int .i64 (-1), .int .i64 0, .int .i64 (-1), .int .i32 0, .string ⟨#[]⟩, .slice none 0 0] 44)).alloc (.cells #[.slice (some ⟨w.heap.size, 0, none⟩) 2 2, .int .i64 3, .int .i64 0, .int .i64 0, .int .i64 0] 41)).heap[w.heap.size + 1]? = some (.cells #[.slice (some ⟨w.heap.size, 0, none⟩) 2 2, .int .i64 3, .int .i64 0, .int .i64 0, .int .i64 0] 41) := by have h_ := blk_new (w.alloc (.cells #[.int .i64 8, .int .i64 0, .int .i64 0, .int .i64 (-1), .int .i64 (-1), .int .i32 0, .string ⟨#[]⟩, .slice none 0 0, .int .i64 9, .int .i64 0, .int .i64 (-1), .int .i64 0, .int .i64 (-1), .int .i32 0, .string ⟨#[]⟩, .slice none 0 0] 44)) (.cells #[.slice (some ⟨w.heap.size, 0, none⟩) 2 2, .int .i64 3, .int .i64 0, .int .i64 0, .int .i64 0] 41); simpa using h_
  have h3 : (((w.alloc (.cells #[.int .i64 8, .int .i64 0, .int .i64 0, .int .i64 (-1), .int .i64 (-1), .int .i32 0, .string ⟨#[]⟩, .slice none 0 0, .int .i64 9, .int .i64 0, .int .i64 (-1), .int .i64 0, .int .i64 (-1), .int .i32 0, .string ⟨#[]⟩, .slice none 0 0] 44)).alloc (.cells #[.slice (some ⟨w.heap.size, 0, none⟩) 2 2, .int .i64 3, .int .i64 0, .int .i64 0, .int .i64 0] 41)).alloc (.cells #[.string ⟨#[109, 97, 105, 110]⟩, .int .i64 0, .int .i64 1, .slice (some ⟨w.heap.size + 1, 0, none⟩) 1 1] 47)).heap[w.heap.size + 1 + 1]? = some (.cells #[.string ⟨#[109, 97, 105, 110]⟩, .int .i64 0, .int .i64 1, .slice (some ⟨w.heap.size + 1, 0, none⟩) 1 1] 47) := by have h_ := blk_new ((w.alloc (.cells #[.int .i64 8, .int .i64 0, .int .i64 0, .int .i64 (-1), .int .i64 (-1), .int .i32 0, .string ⟨#[]⟩, .slice none 0 0, .int .i64 9, .int .i64 0, .int .i64 (-1), .int .i64 0, .int .i64 (-1), .int .i32 0, .string ⟨#[]⟩, .slice none 0 0] 44)).alloc (.cells #[.slice (some ⟨w.heap.size, 0, none⟩) 2 2, .int .i64 3, .int .i64 0, .int .i64 0, .int .i64 0] 41)) (.cells #[.string ⟨#[109, 97, 105, 110]⟩, .int .i64 0, .int .i64 1, .slice (some ⟨w.heap.size + 1, 0, none⟩) 1 1] 47); simpa using h_
  have h4 : ((((w.alloc (.cells #[.int .i64 8, .int .i64 0, .int .i64 0, .int .i64 (-1), .int .i64 (-1), .int .i32 0, .string ⟨#[]⟩, .slice none 0 0, .int .i64 9, .int .i64 0, .int .i64 (-1), .int .i64 0, .int .i64 (-1), .int .i32 0, .string ⟨#[]⟩, .slice none 0 0] 44)).alloc (.cells #[.slice (some ⟨w.heap.size, 0, none⟩) 2 2, .int .i64 3, .int .i64 0, .int .i64 0, .int .i64 0] 41)).alloc (.cells #[.string ⟨#[109, 97, 105, 110]⟩, .int .i64 0, .int .i64 1, .slice (some ⟨w.heap.size + 1, 0, none⟩) 1 1] 47)).alloc (.cells #[.slice none 0 0, .slice (some ⟨w.heap.size + 1 + 1, 0, none⟩) 1 1] 25)).heap[w.heap.size + 1 + 1 + 1]? = some (.cells #[.slice none 0 0, .slice (some ⟨w.heap.size + 1 + 1, 0, none⟩) 1 1] 25) := by have h_ := blk_new (((w.alloc (.cells #[.int .i64 8, .int .i64 0, .int .i64 0, .int .i64 (-1), .int .i64 (-1), .int .i32 0, .string ⟨#[]⟩, .slice none 0 0, .int .i64 9, .int .i64 0, .int .i64 (-1), .int .i64 0, .int .i64 (-1), .int .i32 0, .string ⟨#[]⟩, .slice none 0 0] 44)).alloc (.cells #[.slice (some ⟨w.heap.size, 0, none⟩) 2 2, .int .i64 3, .int .i64 0, .int .i64 0, .int .i64 0] 41)).alloc (.cells #[.string ⟨#[109, 97, 105, 110]⟩, .int .i64 0, .int .i64 1, .slice (some ⟨w.heap.size + 1, 0, none⟩) 1 1] 47)) (.cells #[.slice none 0 0, .slice (some ⟨w.heap.size + 1 + 1, 0, none⟩) 1 1] 25); simpa using h_
  have h5 : (livesW w).heap[w.heap.size + 1 + 1 + 1 + 1]? = some (.cells #[.int .i32 5] 21) := by have h_ := blk_new ((((w.alloc (.cells #[.int .i64 8, .int .i64 0, .int .i64 0, .int .i64 (-1), .int .i64 (-1), .int .i32 0, .string ⟨#[]⟩, .slice none 0 0, .int .i64 9, .int .i64 0, .int .i64 (-1), .int .i64 0, .int .i64 (-1), .int .i32 0, .string ⟨#[]⟩, .slice none 0 0] 44)).alloc (.cells #[.slice (some ⟨w.heap.size, 0, none⟩) 2 2, .int .i64 3, .int .i64 0, .int .i64 0, .int .i64 0] 41)).alloc (.cells #[.string ⟨#[109, 97, 105, 110]⟩, .int .i64 0, .int .i64 1, .slice (some ⟨w.heap.size + 1, 0, none⟩) 1 1] 47)).alloc (.cells #[.slice none 0 0, .slice (some ⟨w.heap.size + 1 + 1, 0, none⟩) 1 1] 25)) (.cells #[.int .i32 5] 21); unfold livesW; simpa using h_
  have b1 : (livesW w).heap[w.heap.size]? = some (.cells #[.int .i64 8, .int .i64 0, .int .i64 0, .int .i64 (-1), .int .i64 (-1), .int .i32 0, .string ⟨#[]⟩, .slice none 0 0, .int .i64 9, .int .i64 0, .int .i64 (-1), .int .i64 0, .int .i64 (-1), .int .i32 0, .string ⟨#[]⟩, .slice none 0 0] 44) := blk_alloc (blk_alloc (blk_alloc (blk_alloc h1 _) _) _) _
  have b2 : (livesW w).heap[w.heap.size + 1]? = some (.cells #[.slice (some ⟨w.heap.size, 0, none⟩) 2 2, .int .i64 3, .int .i64 0, .int .i64 0, .int .i64 0] 41) := blk_alloc (blk_alloc (blk_alloc h2 _) _) _
  have b3 : (livesW w).heap[w.heap.size + 1 + 1]? = some (.cells #[.string ⟨#[109, 97, 105, 110]⟩, .int .i64 0, .int .i64 1, .slice (some ⟨w.heap.size + 1, 0, none⟩) 1 1] 47) := blk_alloc (blk_alloc h3 _) _
  have b4 : (livesW w).heap[w.heap.size + 1 + 1 + 1]? = some (.cells #[.slice none 0 0, .slice (some ⟨w.heap.size + 1 + 1, 0, none⟩) 1 1] 25) := blk_alloc h4 _
  refine ⟨below_alloc (below_alloc (below_alloc (below_alloc (below_alloc (Below.refl _ _) _) _) _) _) _, lives_row _ _ _ _ b1 b2 b3, ?_, b4⟩
  exact C_block h5 [5] [[.int .i32 5]] (by decide) ⟨rfl, trivial⟩ rfl
set_option maxHeartbeats 4000000 in
set_option maxRecDepth 100000 in
theorem lives_calls (w : World) : Calls Try.prog 8 #[] w fun e w' => e = .returned (.bool true) ∧ Below w.heap.size w w' := by
  obtain ⟨hB, hF, hI, hm⟩ := livesW_facts w
  have HB := Aside0.mk hB
  have HF := Aside0.mk hF
  have HI := Aside0.mk hI
  have HM := Aside0.mk hm
  clear hB hF hI hm
  go_enter Try.func8, Try.ntmps8
  go_wp2_with (first
    | (go_at_call 10; (with_reducible refine (trace_fL ⟨w.heap.size + 1 + 1, 0, none⟩ ⟨w.heap.size + 1 + 1 + 1 + 1, 0, none⟩ (livesW w) HF.out HI.out).mono ?_)
       rintro e w5 ⟨D, c, rfl, hC, hB5⟩
       have HC5 := Aside0.mk hC
       have HB5 := Aside0.mk (below_step HB.out hB5)
       have HF5 := Aside0.mk (Kd.C_below HF.out hB5)
       have hm5 := blk_below HM.out hB5
       have HM5 := Aside0.mk hm5
       have m0 := (blk_cell hm5 0).trans rfl
       have m1 := (blk_cell hm5 1).trans rfl
       clear hC hB5 hm5)
    | ((with_reducible refine gate_dst (N := 2) rfl ?_)
       refine box_event rfl (N := 2) rfl (cs := #[.int .i64 0, .int .i32 0, .slice none 0 0, .int .i64 0, .int .i64 0]) (t := 32) ?hr ?_
       case hr => first | (go_simp; done) | (go_simp; rfl)
       intro gx hg w1x hbox hb; have hz0 : w1x.cell? ⟨gx, 0, none⟩ = some (.int .i64 0) := (blk_cell hbox 0).trans rfl; have hf0 := blk_frozen hbox 0; have hz1 : w1x.cell? ⟨gx, 1, none⟩ = some (.int .i32 0) := (blk_cell hbox 1).trans rfl; have hf1 := blk_frozen hbox 1; have hz2 : w1x.cell? ⟨gx, 2, none⟩ = some (.slice none 0 0) := (blk_cell hbox 2).trans rfl; have hf2 := blk_frozen hbox 2; have hz3 : w1x.cell? ⟨gx, 3, none⟩ = some (.int .i64 0) := (blk_cell hbox 3).trans rfl; have hf3 := blk_frozen hbox 3; have hz4 : w1x.cell? ⟨gx, 4, none⟩ = some (.int .i64 0) := (blk_cell hbox 4).trans rfl; have hf4 := blk_frozen hbox 4
       have HG := Aside0.mk (Nat.le_of_eq hg.symm)
       clear hg)
    | ((with_reducible refine gate_store (t := 32) (p := 2) rfl ?_)
       refine store_event (w1 := (((((w1x.setCell ⟨gx, 0, none⟩ (.int .i64 1)).setCell ⟨gx, 1, none⟩ (.int .i32 5)).setCell ⟨gx, 2, none⟩ (.slice D 1 c)).setCell ⟨gx, 3, none⟩ (.int .i64 3)).setCell ⟨gx, 4, none⟩ (.int .i64 1))) rfl (t := 32) (p := 2) rfl rfl ?hr ?_
       case hr => first | (go_simp; done) | (go_simp; rfl)
       intro wx hw
       have hcb := hw ▸ fill5 (g := gx) hbox
       have hbl := hw ▸ fillB5 (g := gx) hb HG.out
       have HBX := Aside0.mk (below_step HB5.out hbl)
       have HFX := Aside0.mk (Kd.C_below HF5.out hbl)
       have HCX := Aside0.mk (Kd.C_below HC5.out hbl)
       have hmx := blk_below HM5.out hbl
       have HOX := Aside0.mk hcb
       have m0 := (blk_cell hmx 0).trans rfl
       have m1 := (blk_cell hmx 1).trans rfl
       clear hmx hcb hbl hw hbox hb hz0 hf0 hz1 hf1 hz2 hf2 hz3 hf3 hz4 hf4)
    | (go_at_call 15; (with_reducible refine (may_fL (some ⟨w.heap.size + 1 + 1, 0, none⟩) 1 _ HFX.out (Nat.le_refl 1)).mono ?_)
       rintro e w7 ⟨rfl, hB7⟩
       have HB7 := Aside0.mk (below_step HBX.out hB7)
       have ho7 := blk_below HOX.out hB7
       have y0 := (blk_cell ho7 0).trans rfl
       have y1 := (blk_cell ho7 1).trans rfl
       have y2 := (blk_cell ho7 2).trans rfl
       have y3 := (blk_cell ho7 3).trans rfl
       have y4 := (blk_cell ho7 4).trans rfl
       obtain ⟨ad, hA, hcell⟩ := Kd.at_int (Kd.C_below HCX.out hB7) (0 : Int) (by decide) (by decide)
       rw [show rd [5] (0 : Int) = 5 from rfl, show ((0 : Int)).toNat = 0 from rfl] at hcell
       have hcell2 : w7.cell? ad = some (.int .i32 5) := hcell
       subst hA
       clear ho7 hB7)
    | fail)
  go_ret
  exact ⟨rfl, HB7.out⟩
end Go.Proofs.Ytabkinlpbefjgaa.L

