/- Texts of this seat that a claim bears, put together by this session's own program shake.py: TrZu, TrZv. -/
import Derived.Test.YtabkinlpbefjgaaProg
import Derived.Below
import Derived.Deep.Draws
import Derived.Deep.AppendLies
import Derived.Maps.AppendAt
import Derived.OwnWalk
import Derived.Laws.BytesArg
import Derived.Laws.MakeOwn
import Derived.Laws.OwnMore
import Derived.Deep.OwnRows
import Derived.Tactics
import Derived.Lib.ConvBytes
import Derived.Laws.Slices
import Derived.WalkKit
import Derived.KernelRfl
import Derived.RowKit3
import Derived.Deep.LoopGhost
import Derived.Deep.QuietTactic
import Derived.BigQuiet
import Derived.WideLaws
import Derived.Deep.DeepCutAuto
import Derived.Deep.CutBlock
import Derived.Deep.RegionHeld3
import Derived.Laws.Rows
import Derived.Lib.AppendStr
import Derived.ArgAppend
import Derived.Laws.IdiomCopy
import Derived.OrdersHeld
import Derived.Laws.BitsLemmas
import Derived.RowKit
import Derived.Test.YtabkinlpbefjgaaKb0
import Derived.Test.YtabkinlpbefjgaaKb1
import Derived.Test.YtabkinlpbefjgaaKb5
import Derived.Test.YtabkinlpbefjgaaKb7
import Derived.Maps.Own
import Derived.Recover
import Derived.WalkSmall
import Derived.StillTailTactics
import Derived.Laws.Pointers
import Derived.Test.YtabkinlpbefjgaaKb18
import Derived.Test.YtabkinlpbefjgaaKb19
import Derived.DataShut
import Derived.Deep.RegionLawGrows
import Derived.Deep.Upon
import Derived.Deep.MidRow
import Derived.Test.YtabkinlpbefjgaaKb6
import Derived.Test.YtabkinlpbefjgaaKb3
namespace Go.Proofs.Ytabkinlpbefjgaa.L
open Go.RowKit Go.Proofs.Ytabkinlpbefjgaa.X Go.Proofs.YtabkinlpbefjgaaW.PrintWords Go.Proofs.YtabkinlpbefjgaaW.PrintLast Go.Proofs.YtabkinlpbefjgaaW.PrintMore
attribute [local go_sem] max2_int min2_int max_two min_two max_three min_three max_four min_four   -- for this text's walks alone
set_option linter.unusedVariables false
set_option linter.unusedSimpArgs false
open Go.Proofs.Ytabkinlpbefjgaa.Pure
theorem deep_rows {w W : World} {a1 a2 a3 b1 b2 b3 g : Nat} (h1 : W.heap[a1]? = some (.cells #[.int .i64 0] 3)) (h2 : W.heap[a2]? = some (.cells #[.int .i64 1, .int .i64 0, .int .i64 1, .int .i64 (-1), .int .i64 (-1), .int .i32 1, .string ⟨#[]⟩, .slice none 0 0, .int .i64 4, .int .i64 2, .int .i64 0, .int .i64 0, .int .i64 1, .int .i32 0, .string ⟨#[]⟩, .slice none 0 0, .int .i64 7, .int .i64 0, .int .i64 2, .int .i64 (-1), .int .i64 (-1), .int .i32 0, .string ⟨#[102]⟩, .slice (some ⟨a1, 0, none⟩) 1 1, .int .i64 4, .int .i64 1, .int .i64 1, .int .i64 1, .int .i64 2, .int .i32 0, .string ⟨#[]⟩, .slice none 0 0] 44)) (h3 : W.heap[a3]? = some (.cells #[.slice none 0 0, .int .i64 2, .int .i64 0, .int .i64 1, .int .i64 2, .slice (some ⟨a2, 0, none⟩) 4 4, .int .i64 3, .int .i64 1, .int .i64 0, .int .i64 0, .slice none 0 0, .int .i64 3, .int .i64 0, .int .i64 0, .int .i64 0] 41)) (k1 : W.heap[b1]? = some (.cells #[.int .i64 0] 3)) (k2 : W.heap[b2]? = some (.cells #[.int .i64 8, .int .i64 0, .int .i64 0, .int .i64 (-1), .int .i64 (-1), .int .i32 0, .string ⟨#[]⟩, .slice none 0 0, .int .i64 7, .int .i64 0, .int .i64 0, .int .i64 (-1), .int .i64 (-1), .int .i32 0, .string ⟨#[102]⟩, .slice (some ⟨b1, 0, none⟩) 1 1] 44)) (k3 : W.heap[b3]? = some (.cells #[.slice (some ⟨b2, 0, none⟩) 2 2, .int .i64 3, .int .i64 0, .int .i64 0, .int .i64 0] 41)) (hg : W.heap[g]? = some (.cells #[.string ⟨#[102]⟩, .int .i64 1, .int .i64 3, .slice (some ⟨a3, 0, none⟩) 3 3, .string ⟨#[109, 97, 105, 110]⟩, .int .i64 0, .int .i64 1, .slice (some ⟨b3, 0, none⟩) 1 1] 47)) :
    Kd.C k47 W (some ⟨g, 0, none⟩) FD.length FD := by
  have r1 : (Kd.int .i64).C W (some ⟨a1, 0, none⟩) [(0 : Int)].length [0] := C_block h1 [0] [[.int .i64 0]] (by decide) ⟨rfl, trivial⟩ rfl
  have r2 : Kd.C k44 W (some ⟨a2, 0, none⟩) [xN, xS, xCf, xA].length [xN, xS, xCf, xA] := C_block h2 _ [[.int .i64 1, .int .i64 0, .int .i64 1, .int .i64 (-1), .int .i64 (-1), .int .i32 1, .string ⟨#[]⟩, .slice none 0 0], [.int .i64 4, .int .i64 2, .int .i64 0, .int .i64 0, .int .i64 1, .int .i32 0, .string ⟨#[]⟩, .slice none 0 0], [.int .i64 7, .int .i64 0, .int .i64 2, .int .i64 (-1), .int .i64 (-1), .int .i32 0, .string ⟨#[102]⟩, .slice (some ⟨a1, 0, none⟩) 1 1], [.int .i64 4, .int .i64 1, .int .i64 1, .int .i64 1, .int .i64 2, .int .i32 0, .string ⟨#[]⟩, .slice none 0 0]] (by decide) ⟨k44_mk W xN (Nat.le_refl 0) (Kd.C_nil _ W), k44_mk W xS (Nat.le_refl 0) (Kd.C_nil _ W), k44_mk W xCf (Nat.le_refl 1) r1, k44_mk W xA (Nat.le_refl 0) (Kd.C_nil _ W), trivial⟩ rfl
  have r3 : Kd.C k41 W (some ⟨a3, 0, none⟩) [bD0, bD1, bD2].length [bD0, bD1, bD2] := C_block h3 _ [[.slice none 0 0, .int .i64 2, .int .i64 0, .int .i64 1, .int .i64 2], [.slice (some ⟨a2, 0, none⟩) 4 4, .int .i64 3, .int .i64 1, .int .i64 0, .int .i64 0], [.slice none 0 0, .int .i64 3, .int .i64 0, .int .i64 0, .int .i64 0]] (by decide) ⟨k41_mk W bD0 (Nat.le_refl 0) (Kd.C_nil _ W), k41_mk W bD1 (Nat.le_refl 4) r2, k41_mk W bD2 (Nat.le_refl 0) (Kd.C_nil _ W), trivial⟩ rfl
  have s1 : (Kd.int .i64).C W (some ⟨b1, 0, none⟩) [(0 : Int)].length [0] := C_block k1 [0] [[.int .i64 0]] (by decide) ⟨rfl, trivial⟩ rfl
  have s2 : Kd.C k44 W (some ⟨b2, 0, none⟩) [x8, xM].length [x8, xM] := C_block k2 _ [[.int .i64 8, .int .i64 0, .int .i64 0, .int .i64 (-1), .int .i64 (-1), .int .i32 0, .string ⟨#[]⟩, .slice none 0 0], [.int .i64 7, .int .i64 0, .int .i64 0, .int .i64 (-1), .int .i64 (-1), .int .i32 0, .string ⟨#[102]⟩, .slice (some ⟨b1, 0, none⟩) 1 1]] (by decide) ⟨k44_mk W x8 (Nat.le_refl 0) (Kd.C_nil _ W), k44_mk W xM (Nat.le_refl 1) s1, trivial⟩ rfl
  have s3 : Kd.C k41 W (some ⟨b3, 0, none⟩) [bDm].length [bDm] := C_block k3 _ [[.slice (some ⟨b2, 0, none⟩) 2 2, .int .i64 3, .int .i64 0, .int .i64 0, .int .i64 0]] (by decide) ⟨k41_mk W bDm (Nat.le_refl 2) s2, trivial⟩ rfl
  exact C_block hg FD [[.string ⟨#[102]⟩, .int .i64 1, .int .i64 3, .slice (some ⟨a3, 0, none⟩) 3 3], [.string ⟨#[109, 97, 105, 110]⟩, .int .i64 0, .int .i64 1, .slice (some ⟨b3, 0, none⟩) 1 1]] (by decide) ⟨k47_mk W fD (Nat.le_refl 3) r3, k47_mk W mD (Nat.le_refl 1) s3, trivial⟩ rfl
theorem may_FD (A : Option Addr) (c : Nat) (w : World) (hF : Kd.C k47 w A FD.length FD) (hc : 2 ≤ c) :
    Calls Try.prog 15 #[.agg #[.slice none 0 0, .slice A 2 c]] w fun e w' => e = .returned (.bool true) ∧ Below w.heap.size w w' := by
  refine may_yes FD A c w hF hc (by decide) (by unfold FD; rw [fnAt_m]; decide) (by unfold FD; rw [fnAt_m]; rfl) (fun k hk => ?_)
  have hk2 : k = 0 ∨ k = 1 := by
    have : k < 2 := hk
    omega
  rcases hk2 with rfl | rfl
  · refine ⟨fun A3 c3 w h3 hc3 => ?_, fnAt_f, fun b hb x hx => ?_⟩
    · refine mayfn_yes fD A3 c3 w h3 hc3 isname_f (by decide) (by decide) (by decide) (by decide) (by decide) (fun b hb => ?_)
      have hb2 : b = bD0 ∨ b = bD1 ∨ b = bD2 := by simpa [fD] using hb
      rcases hb2 with rfl | rfl | rfl
      · exact ⟨fun x hx => (by cases hx), .inr ⟨rfl, by decide, by decide⟩, by decide⟩
      · refine ⟨fun x hx => ?_, .inl ⟨rfl, rfl, rfl⟩, by decide⟩
        have hx2 : x = xN ∨ x = xS ∨ x = xCf ∨ x = xA := by simpa [bD1] using hx
        rcases hx2 with rfl | rfl | rfl | rfl
        · exact fun A7 c7 w _ _ => yes_num A7 c7 w
        · exact fun A7 c7 w _ _ => yes_sub A7 c7 w
        · exact fun A7 c7 w h7 hc7 => yes_callf A7 c7 w h7 hc7
        · exact fun A7 c7 w _ _ => yes_add A7 c7 w
      · exact ⟨fun x hx => (by cases hx), .inl ⟨rfl, rfl, rfl⟩, by decide⟩
    · have hb2 : b = bD0 ∨ b = bD1 ∨ b = bD2 := by
        have : b ∈ [bD0, bD1, bD2] := hb
        simpa using this
      rcases hb2 with rfl | rfl | rfl
      · cases hx
      · have hx2 : x = xN ∨ x = xS ∨ x = xCf ∨ x = xA := by simpa [bD1] using hx
        rcases hx2 with rfl | rfl | rfl | rfl
        · exact ⟨by decide, by decide, fun h => absurd h (by decide)⟩
        · exact ⟨by decide, by decide, fun h => absurd h (by decide)⟩
        · exact ⟨by decide, by decide, fun h => ⟨by unfold FD; rw [show xCf.f6 = ⟨#[102]⟩ from rfl, fnAt_f]; decide, by unfold FD; rw [show xCf.f6 = ⟨#[102]⟩ from rfl, fnAt_f]; rfl⟩⟩
        · exact ⟨by decide, by decide, fun h => absurd h (by decide)⟩
      · cases hx
  · refine ⟨fun A3 c3 w h3 hc3 => ?_, fnAt_m, fun b hb x hx => ?_⟩
    · refine mayfn_yes mD A3 c3 w h3 hc3 isname_main (by decide) (by decide) (by decide) (by decide) (by decide) (fun b hb => ?_)
      obtain rfl : b = bDm := by simpa [mD] using hb
      refine ⟨fun x hx => ?_, .inl ⟨rfl, rfl, rfl⟩, by decide⟩
      have hx2 : x = x8 ∨ x = xM := by simpa [bDm] using hx
      rcases hx2 with rfl | rfl
      · exact fun A7 c7 w _ _ => yes_x8 A7 c7 w
      · exact fun A7 c7 w h7 hc7 => yes_callm A7 c7 w h7 hc7
    · have hb2 : b = bDm := by
        have : b ∈ [bDm] := hb
        simpa using this
      subst hb2
      have hx2 : x = x8 ∨ x = xM := by simpa [bDm] using hx
      rcases hx2 with rfl | rfl
      · exact ⟨by decide, by decide, fun h => absurd h (by decide)⟩
      · exact ⟨by decide, by decide, fun h => ⟨by unfold FD; rw [show xM.f6 = ⟨#[102]⟩ from rfl, fnAt_f]; decide, by unfold FD; rw [show xM.f6 = ⟨#[102]⟩ from rfl, fnAt_f]; rfl⟩⟩
theorem trace_FD (A B : Addr) (k : Nat) (w : World) (hk : k ≤ 37) (hF : Kd.C k47 w (some A) FD.length FD) (hI : (Kd.int .i32).C w (some B) 1 [(k : Int)]) :
    Calls Try.prog 10 #[.agg #[.slice none 0 0, .slice (some A) 2 2], .slice (some B) 1 1, .int .i64 10000] w fun e w' => ∃ (en v : Int) (G : Gl) (A2 : Option Addr) (c2 : Nat), e = .returned (.agg #[.int .i64 en, .int .i32 v, .slice A2 G.tr.length c2, .int .i64 (G.st : Int), .int .i64 (G.rd : Int)]) ∧ ((32 < k + 2 → en = 4) ∧ (¬ 32 < k + 2 → en = 1 ∧ v = (k : Int))) ∧ Below w.heap.size w w' := by
  refine (trace_calls FD [] [(k : Int)] 10000 w A 2 none 0 (some B) 1 hF (Kd.C_nil k57 w) hI (by decide) (by decide) (Nat.le_refl 1) ok_D ?_ ?_ ?_ (by show 1 ≤ 1000000; decide) (by decide)).mono ?_
  · intro v hv
    obtain rfl : v = (k : Int) := by simpa using hv
    constructor <;> omega
  · intro f hf
    have hf2 : f = fD ∨ f = mD := by simpa [FD] using hf
    rcases hf2 with rfl | rfl <;> decide
  · intro g hg
    cases hg
  · rintro e w' ⟨en, v, G, A2, c2, hr, he, _, _, hB⟩
    obtain ⟨e1, v1, G1, h1, h2⟩ := deep_run k hk
    rw [h1] at hr
    injection hr with r1 r2 r3
    subst r1 r2 r3
    exact ⟨_, _, _, _, _, he, h2, hB⟩
set_option maxHeartbeats 4000000 in
set_option maxRecDepth 100000 in
theorem deep_calls (n : Int) (w : World) : Calls Try.prog 6 #[.int .i64 n] w fun e w' => e = .returned (.bool true) ∧ Below w.heap.size w w' := by
  obtain ⟨k, hk⟩ : ∃ k : Nat, max 0 (min n 37) = (k : Int) := ⟨(max 0 (min n 37)).toNat, by omega⟩
  have HK : Aside0 (k ≤ 37) := ⟨by omega⟩
  have hk3 : (if 0 < (if 37 < n then 37 else n) then (if 37 < n then 37 else n) else 0) = (k : Int) := by split <;> split at * <;> omega
  have HK3 := Aside0.mk hk3
  clear hk3
  have hk32 : wrap32 (k : Int) = (k : Int) := w32 (by omega) (by omega)
  have hki : IntKind.i32.wrap (k : Int) = (k : Int) := by rw [IntKind.wrap_i32]; omega
  have hk2 : wrap64 ((k : Int) + 2) = (k : Int) + 2 := w64 (by omega) (by omega)
  have e1 := blk_new w (.cells #[.int .i64 0] 3)
  have e2 : ((w.alloc (.cells #[.int .i64 0] 3)).alloc (.cells #[.int .i64 1, .int .i64 0, .int .i64 1, .int .i64 (-1), .int .i64 (-1), .int .i32 1, .string ⟨#[]⟩, .slice none 0 0, .int .i64 4, .int .i64 2, .int .i64 0, .int .i64 0, .int .i64 1, .int .i32 0, .string ⟨#[]⟩, .slice none 0 0, .int .i64 7, .int .i64 0, .int .i64 2, .int .i64 (-1), .int .i64 (-1), .int .i32 0, .string ⟨#[102]⟩, .slice (some ⟨w.heap.size, 0, none⟩) 1 1, .int .i64 4, .int .i64 1, .int .i64 1, .int .i64 1, .int .i64 2, .int .i32 0, .string ⟨#[]⟩, .slice none 0 0] 44)).heap[w.heap.size + 1]? = some (.cells #[.int .i64 1, .int .i64 0, .int .i64 1, .int .i64 (-1), .int .i64 (-1), .int .i32 1, .string ⟨#[]⟩, .slice none 0 0, .int .i64 4, .int .i64 2, .int .i64 0, .int .i64 0, .int .i64 1, .int .i32 0, .string ⟨#[]⟩, .slice none 0 0, .int .i64 7, .int .i64 0, .int .i64 2, .int .i64 (-1), .int .i64 (-1), .int .i32 0, .string ⟨#[102]⟩, .slice (some ⟨w.heap.size, 0, none⟩) 1 1, .int .i64 4, .int .i64 1, .int .i64 1, .int .i64 1, .int .i64 2, .int .i32 0, .string ⟨#[]⟩, .slice none 0 0] 44) := by have h_ := blk_new (w.alloc (.cells #[.int .i64 0] 3)) (.cells #[.int .i64 1, .int .i64 0, .int .i64 1, .int .i64 (-1), .int .i64 (-1), .int .i32 1, .string ⟨#[]⟩, .slice none 0 0, .int .i64 4, .int .i64 2, .int .i64 0, .int .i64 0, .int .i64 1, .int .i32 0, .string ⟨#[]⟩, .slice none 0 0, .int .i64 7, .int .i64 0, .int .i64 2, .int .i64 (-1), .int .i64 (-1), .int .i32 0, .string ⟨#[102]⟩, .slice (some ⟨w.heap.size, 0, none⟩) 1 1, .int .i64 4, .int .i64 1, .int .i64 1, .int .i64 1, .int .i64 2, .int .i32 0, .string ⟨#[]⟩, .slice none 0 0] 44); simpa using h_
  have e3 : (((w.alloc (.cells #[.int .i64 0] 3)).alloc (.cells #[.int .i64 1, .int .i64 0, .int .i64 1, .int .i64 (-1), .int .i64 (-1), .int .i32 1, .string ⟨#[]⟩, .slice none 0 0, .int .i64 4, .int .i64 2, .int .i64 0, .int .i64 0, .int .i64 1, .int .i32 0, .string ⟨#[]⟩, .slice none 0 0, .int .i64 7, .int .i64 0, .int .i64 2, .int .i64 (-1), .int .i64 (-1), .int .i32 0, .string ⟨#[102]⟩, .slice (some ⟨w.heap.size, 0, none⟩) 1 1, .int .i64 4, .int .i64 1, .int .i64 1, .int .i64 1, .int .i64 2, .int .i32 0, .string ⟨#[]⟩, .slice none 0 0] 44)).alloc (.cells #[.slice none 0 0, .int .i64 2, .int .i64 0, .int .i64 1, .int .i64 2, .slice (some ⟨w.heap.size + 1, 0, none⟩) 4 4, .int .i64 3, .int .i64 1, .int .i64 0, .int .i64 0, .slice none 0 0, .int .i64 3, .int .i64 0, .int .i64 0, .int .i64 0] 41)).heap[w.heap.size + 1 + 1]? = some (.cells #[.slice none 0 0, .int .i64 2, .int .i64 0, .int .i64 1, .int .i64 2, .slice (some ⟨w.heap.size + 1, 0, none⟩) 4 4, .int .i64 3, .int .i64 1, .int .i64 0, .int .i64 0, .slice none 0 0, .int .i64 3, .int .i64 0, .int .i64 0, .int .i64 0] 41) := by have h_ := blk_new ((w.alloc (.cells #[.int .i64 0] 3)).alloc (.cells #[.int .i64 1, .int .i64 0, .int .i64 1, .int .i64 (-1), .int .i64 (-1), .int .i32 1, .string ⟨#[]⟩, .slice none 0 0, .int .i64 4, .int .i64 2, .int .i64 0, .int .i64 0, .int .i64 1, .int .i32 0, .string ⟨#[]⟩, .slice none 0 0, .int .i64 7, .int .i64 0, .int .i64 2, .int .i64 (-1), .int .i64 (-1), .int .i32 0, .string ⟨#[102]⟩, .slice (some ⟨w.heap.size, 0, none⟩) 1 1, .int .i64 4, .int .i64 1, .int .i64 1, .int .i64 1, .int .i64 2, .int .i32 0, .string ⟨#[]⟩, .slice none 0 0] 44)) (.cells #[.slice none 0 0, .int .i64 2, .int .i64 0, .int .i64 1, .int .i64 2, .slice (some ⟨w.heap.size + 1, 0, none⟩) 4 4, .int .i64 3, .int .i64 1, .int .i64 0, .int .i64 0, .slice none 0 0, .int .i64 3, .int .i64 0, .int .i64 0, .int .i64 0] 41); simpa using h_
  have HE1 := Aside0.mk (blk_alloc (blk_alloc e1 (.cells #[.int .i64 1, .int .i64 0, .int .i64 1, .int .i64 (-1), .int .i64 (-1), .int .i32 1, .string ⟨#[]⟩, .slice none 0 0, .int .i64 4, .int .i64 2, .int .i64 0, .int .i64 0, .int .i64 1, .int .i32 0, .string ⟨#[]⟩, .slice none 0 0, .int .i64 7, .int .i64 0, .int .i64 2, .int .i64 (-1), .int .i64 (-1), .int .i32 0, .string ⟨#[102]⟩, .slice (some ⟨w.heap.size, 0, none⟩) 1 1, .int .i64 4, .int .i64 1, .int .i64 1, .int .i64 1, .int .i64 2, .int .i32 0, .string ⟨#[]⟩, .slice none 0 0] 44)) (.cells #[.slice none 0 0, .int .i64 2, .int .i64 0, .int .i64 1, .int .i64 2, .slice (some ⟨w.heap.size + 1, 0, none⟩) 4 4, .int .i64 3, .int .i64 1, .int .i64 0, .int .i64 0, .slice none 0 0, .int .i64 3, .int .i64 0, .int .i64 0, .int .i64 0] 41))
  have HE2 := Aside0.mk (blk_alloc e2 (.cells #[.slice none 0 0, .int .i64 2, .int .i64 0, .int .i64 1, .int .i64 2, .slice (some ⟨w.heap.size + 1, 0, none⟩) 4 4, .int .i64 3, .int .i64 1, .int .i64 0, .int .i64 0, .slice none 0 0, .int .i64 3, .int .i64 0, .int .i64 0, .int .i64 0] 41))
  have HE3 := Aside0.mk e3
  have HBW3 : Aside0 (Below w.heap.size w (((w.alloc (.cells #[.int .i64 0] 3)).alloc (.cells #[.int .i64 1, .int .i64 0, .int .i64 1, .int .i64 (-1), .int .i64 (-1), .int .i32 1, .string ⟨#[]⟩, .slice none 0 0, .int .i64 4, .int .i64 2, .int .i64 0, .int .i64 0, .int .i64 1, .int .i32 0, .string ⟨#[]⟩, .slice none 0 0, .int .i64 7, .int .i64 0, .int .i64 2, .int .i64 (-1), .int .i64 (-1), .int .i32 0, .string ⟨#[102]⟩, .slice (some ⟨w.heap.size, 0, none⟩) 1 1, .int .i64 4, .int .i64 1, .int .i64 1, .int .i64 1, .int .i64 2, .int .i32 0, .string ⟨#[]⟩, .slice none 0 0] 44)).alloc (.cells #[.slice none 0 0, .int .i64 2, .int .i64 0, .int .i64 1, .int .i64 2, .slice (some ⟨w.heap.size + 1, 0, none⟩) 4 4, .int .i64 3, .int .i64 1, .int .i64 0, .int .i64 0, .slice none 0 0, .int .i64 3, .int .i64 0, .int .i64 0, .int .i64 0] 41))) := ⟨below_alloc (below_alloc (below_alloc (Below.refl _ _) _) _) _⟩
  clear e1 e2 e3
  go_enter Try.func6, Try.ntmps6
  go_upto_region 1 with fail
  go_cut [0, 2] from 0 to 9 (fun v0 v2 wd => v0 = .int .i64 (k : Int) ∧ v2 = .bool false ∧ w = wd)
  case first =>
    go_wp2_with fail
    all_goals (go_meet; refine ⟨congrArg (Value.int .i64) ?_, rfl, rfl⟩; have h3_ := HK3.out; first | omega | (split at h3_ <;> omega) | (split at h3_ <;> split at h3_ <;> omega))
  case rest =>
  obtain ⟨rfl, rfl, rfl⟩ := hcut
  by_cases hd : 32 < k + 2
  · have HD := Aside0.mk hd
    have hq1 : decide ((k : Int) + 2 > 32) = true := decide_eq_true (by omega)
    have hq2 : decide (32 < (k : Int) + 2) = true := decide_eq_true (by omega)
    clear hd
    go_wp2_with (first
      | ((with_reducible refine gate_dst (N := 3) rfl ?_)
         refine box_event rfl (N := 3) rfl (cs := #[.string (⟨#[]⟩ : ByteArray), .int .i64 0, .int .i64 0, .slice none 0 0]) (t := 47) ?hr ?_
         case hr => first | (go_simp; done) | (go_simp; rfl)
         intro g3 hg w3x hbox hb; have hz0 : w3x.cell? ⟨g3, 0, none⟩ = some (.string (⟨#[]⟩ : ByteArray)) := (blk_cell hbox 0).trans rfl; have hf0 := blk_frozen hbox 0; have hz1 : w3x.cell? ⟨g3, 1, none⟩ = some (.int .i64 0) := (blk_cell hbox 1).trans rfl; have hf1 := blk_frozen hbox 1; have hz2 : w3x.cell? ⟨g3, 2, none⟩ = some (.int .i64 0) := (blk_cell hbox 2).trans rfl; have hf2 := blk_frozen hbox 2; have hz3 : w3x.cell? ⟨g3, 3, none⟩ = some (.slice none 0 0) := (blk_cell hbox 3).trans rfl; have hf3 := blk_frozen hbox 3
         have HG := Aside0.mk (Nat.le_of_eq hg.symm)
         clear hg)
      | ((with_reducible refine gate_store (t := 47) (p := 3) rfl ?_)
         refine store_event (w1 := ((((w3x.setCell ⟨g3, 0, none⟩ (.string ⟨#[102]⟩)).setCell ⟨g3, 1, none⟩ (.int .i64 1)).setCell ⟨g3, 2, none⟩ (.int .i64 3)).setCell ⟨g3, 3, none⟩ (.slice (some ⟨w.heap.size + 1 + 1, 0, none⟩) 3 3))) rfl (t := 47) (p := 3) rfl rfl ?hr ?_
         case hr => first | (go_simp; done) | (go_simp; rfl)
         intro w3 hw
         have hcb := hw ▸ fill4 (g := g3) hbox
         have hbl := hw ▸ fillB4 (g := g3) hb HG.out
         have HBW3_ := Aside0.mk (below_step HBW3.out hbl)
         have HE1_ := Aside0.mk (blk_below HE1.out hbl)
         have HE2_ := Aside0.mk (blk_below HE2.out hbl)
         have HE3_ := Aside0.mk (blk_below HE3.out hbl)
         have HG3 := Aside0.mk hcb
         have u1 := blk_new w3 (.cells #[.int .i64 0] 3)
         have u2 : ((w3.alloc (.cells #[.int .i64 0] 3)).alloc (.cells #[.int .i64 8, .int .i64 0, .int .i64 0, .int .i64 (-1), .int .i64 (-1), .int .i32 0, .string ⟨#[]⟩, .slice none 0 0, .int .i64 7, .int .i64 0, .int .i64 0, .int .i64 (-1), .int .i64 (-1), .int .i32 0, .string ⟨#[102]⟩, .slice (some ⟨w3.heap.size, 0, none⟩) 1 1] 44)).heap[w3.heap.size + 1]? = some (.cells #[.int .i64 8, .int .i64 0, .int .i64 0, .int .i64 (-1), .int .i64 (-1), .int .i32 0, .string ⟨#[]⟩, .slice none 0 0, .int .i64 7, .int .i64 0, .int .i64 0, .int .i64 (-1), .int .i64 (-1), .int .i32 0, .string ⟨#[102]⟩, .slice (some ⟨w3.heap.size, 0, none⟩) 1 1] 44) := by have h_ := blk_new (w3.alloc (.cells #[.int .i64 0] 3)) (.cells #[.int .i64 8, .int .i64 0, .int .i64 0, .int .i64 (-1), .int .i64 (-1), .int .i32 0, .string ⟨#[]⟩, .slice none 0 0, .int .i64 7, .int .i64 0, .int .i64 0, .int .i64 (-1), .int .i64 (-1), .int .i32 0, .string ⟨#[102]⟩, .slice (some ⟨w3.heap.size, 0, none⟩) 1 1] 44); simpa using h_
         have u3 : (((w3.alloc (.cells #[.int .i64 0] 3)).alloc (.cells #[.int .i64 8, .int .i64 0, .int .i64 0, .int .i64 (-1), .int .i64 (-1), .int .i32 0, .string ⟨#[]⟩, .slice none 0 0, .int .i64 7, .int .i64 0, .int .i64 0, .int .i64 (-1), .int .i64 (-1), .int .i32 0, .string ⟨#[102]⟩, .slice (some ⟨w3.heap.size, 0, none⟩) 1 1] 44)).alloc (.cells #[.slice (some ⟨w3.heap.size + 1, 0, none⟩) 2 2, .int .i64 3, .int .i64 0, .int .i64 0, .int .i64 0] 41)).heap[w3.heap.size + 1 + 1]? = some (.cells #[.slice (some ⟨w3.heap.size + 1, 0, none⟩) 2 2, .int .i64 3, .int .i64 0, .int .i64 0, .int .i64 0] 41) := by have h_ := blk_new ((w3.alloc (.cells #[.int .i64 0] 3)).alloc (.cells #[.int .i64 8, .int .i64 0, .int .i64 0, .int .i64 (-1), .int .i64 (-1), .int .i32 0, .string ⟨#[]⟩, .slice none 0 0, .int .i64 7, .int .i64 0, .int .i64 0, .int .i64 (-1), .int .i64 (-1), .int .i32 0, .string ⟨#[102]⟩, .slice (some ⟨w3.heap.size, 0, none⟩) 1 1] 44)) (.cells #[.slice (some ⟨w3.heap.size + 1, 0, none⟩) 2 2, .int .i64 3, .int .i64 0, .int .i64 0, .int .i64 0] 41); simpa using h_
         have HU1 := Aside0.mk (blk_alloc (blk_alloc u1 (.cells #[.int .i64 8, .int .i64 0, .int .i64 0, .int .i64 (-1), .int .i64 (-1), .int .i32 0, .string ⟨#[]⟩, .slice none 0 0, .int .i64 7, .int .i64 0, .int .i64 0, .int .i64 (-1), .int .i64 (-1), .int .i32 0, .string ⟨#[102]⟩, .slice (some ⟨w3.heap.size, 0, none⟩) 1 1] 44)) (.cells #[.slice (some ⟨w3.heap.size + 1, 0, none⟩) 2 2, .int .i64 3, .int .i64 0, .int .i64 0, .int .i64 0] 41))
         have HU2 := Aside0.mk (blk_alloc u2 (.cells #[.slice (some ⟨w3.heap.size + 1, 0, none⟩) 2 2, .int .i64 3, .int .i64 0, .int .i64 0, .int .i64 0] 41))
         have HU3 := Aside0.mk u3
         have hb3_ : Below w3.heap.size w3 (((w3.alloc (.cells #[.int .i64 0] 3)).alloc (.cells #[.int .i64 8, .int .i64 0, .int .i64 0, .int .i64 (-1), .int .i64 (-1), .int .i32 0, .string ⟨#[]⟩, .slice none 0 0, .int .i64 7, .int .i64 0, .int .i64 0, .int .i64 (-1), .int .i64 (-1), .int .i32 0, .string ⟨#[102]⟩, .slice (some ⟨w3.heap.size, 0, none⟩) 1 1] 44)).alloc (.cells #[.slice (some ⟨w3.heap.size + 1, 0, none⟩) 2 2, .int .i64 3, .int .i64 0, .int .i64 0, .int .i64 0] 41)) := below_alloc (below_alloc (below_alloc (Below.refl _ _) _) _) _
         have HBW4 := Aside0.mk (below_step HBW3_.out hb3_)
         have HE14 := Aside0.mk (blk_below HE1_.out hb3_)
         have HE24 := Aside0.mk (blk_below HE2_.out hb3_)
         have HE34 := Aside0.mk (blk_below HE3_.out hb3_)
         have HG34 := Aside0.mk (blk_below HG3.out hb3_)
         clear u1 u2 u3 hb3_
         clear hcb hbl hw hbox hb hz0 hf0 hz1 hf1 hz2 hf2 hz3 hf3)
      | ((with_reducible refine gate_dst (N := 4) rfl ?_)
         refine box_event rfl (N := 4) rfl (cs := #[.string (⟨#[]⟩ : ByteArray), .int .i64 0, .int .i64 0, .slice none 0 0]) (t := 47) ?hr ?_
         case hr => first | (go_simp; done) | (go_simp; rfl)
         intro g4 hg w4x hbox hb; have hz0 : w4x.cell? ⟨g4, 0, none⟩ = some (.string (⟨#[]⟩ : ByteArray)) := (blk_cell hbox 0).trans rfl; have hf0 := blk_frozen hbox 0; have hz1 : w4x.cell? ⟨g4, 1, none⟩ = some (.int .i64 0) := (blk_cell hbox 1).trans rfl; have hf1 := blk_frozen hbox 1; have hz2 : w4x.cell? ⟨g4, 2, none⟩ = some (.int .i64 0) := (blk_cell hbox 2).trans rfl; have hf2 := blk_frozen hbox 2; have hz3 : w4x.cell? ⟨g4, 3, none⟩ = some (.slice none 0 0) := (blk_cell hbox 3).trans rfl; have hf3 := blk_frozen hbox 3
         have HG := Aside0.mk (Nat.le_of_eq hg.symm)
         clear hg)
      | ((with_reducible refine gate_store (t := 47) (p := 4) rfl ?_)
         refine store_event (w1 := ((((w4x.setCell ⟨g4, 0, none⟩ (.string ⟨#[109, 97, 105, 110]⟩)).setCell ⟨g4, 1, none⟩ (.int .i64 0)).setCell ⟨g4, 2, none⟩ (.int .i64 1)).setCell ⟨g4, 3, none⟩ (.slice (some ⟨w3.heap.size + 1 + 1, 0, none⟩) 1 1))) rfl (t := 47) (p := 4) rfl rfl ?hr ?_
         case hr => first | (go_simp; done) | (go_simp; rfl)
         intro w4 hw
         have hcb := hw ▸ fill4 (g := g4) hbox
         have hbl := hw ▸ fillB4 (g := g4) hb HG.out
         have HBW4_ := Aside0.mk (below_step HBW4.out hbl)
         have hg34 := blk_below HG34.out hbl
         have s0 : w4.cell? ⟨g3, 0, none⟩ = some (.string ⟨#[102]⟩) := (blk_cell hg34 0).trans rfl
         have s1 : w4.cell? ⟨g3, 1, none⟩ = some (.int .i64 1) := (blk_cell hg34 1).trans rfl
         have s2 : w4.cell? ⟨g3, 2, none⟩ = some (.int .i64 3) := (blk_cell hg34 2).trans rfl
         have s3 : w4.cell? ⟨g3, 3, none⟩ = some (.slice (some ⟨w.heap.size + 1 + 1, 0, none⟩) 3 3) := (blk_cell hg34 3).trans rfl
         have t0 : w4.cell? ⟨g4, 0, none⟩ = some (.string ⟨#[109, 97, 105, 110]⟩) := (blk_cell hcb 0).trans rfl
         have t1 : w4.cell? ⟨g4, 1, none⟩ = some (.int .i64 0) := (blk_cell hcb 1).trans rfl
         have t2 : w4.cell? ⟨g4, 2, none⟩ = some (.int .i64 1) := (blk_cell hcb 2).trans rfl
         have t3 : w4.cell? ⟨g4, 3, none⟩ = some (.slice (some ⟨w3.heap.size + 1 + 1, 0, none⟩) 1 1) := (blk_cell hcb 3).trans rfl
         have hb4_ : Below w4.heap.size w4 (w4.alloc (.cells #[.string ⟨#[102]⟩, .int .i64 1, .int .i64 3, .slice (some ⟨w.heap.size + 1 + 1, 0, none⟩) 3 3, .string ⟨#[109, 97, 105, 110]⟩, .int .i64 0, .int .i64 1, .slice (some ⟨w3.heap.size + 1 + 1, 0, none⟩) 1 1] 47)) := below_alloc (Below.refl _ _) _
         have HRW := Aside0.mk (deep_rows (w := w) (blk_below (blk_below HE14.out hbl) hb4_) (blk_below (blk_below HE24.out hbl) hb4_) (blk_below (blk_below HE34.out hbl) hb4_) (blk_below (blk_below HU1.out hbl) hb4_) (blk_below (blk_below HU2.out hbl) hb4_) (blk_below (blk_below HU3.out hbl) hb4_) (blk_new w4 (.cells #[.string ⟨#[102]⟩, .int .i64 1, .int .i64 3, .slice (some ⟨w.heap.size + 1 + 1, 0, none⟩) 3 3, .string ⟨#[109, 97, 105, 110]⟩, .int .i64 0, .int .i64 1, .slice (some ⟨w3.heap.size + 1 + 1, 0, none⟩) 1 1] 47)))
         have HBW5 := Aside0.mk (below_step HBW4_.out hb4_)
         clear hg34 hb4_
         clear hcb hbl hw hbox hb hz0 hf0 hz1 hf1 hz2 hf2 hz3 hf3)
      | ((with_reducible refine gate_dst (N := 5) rfl ?_)
         refine box_event rfl (N := 5) rfl (cs := #[.slice none 0 0, .slice none 0 0]) (t := 25) ?hr ?_
         case hr => first | (go_simp; done) | (go_simp; rfl)
         intro g5 hg w5x hbox hb; have hz0 : w5x.cell? ⟨g5, 0, none⟩ = some (.slice none 0 0) := (blk_cell hbox 0).trans rfl; have hf0 := blk_frozen hbox 0; have hz1 : w5x.cell? ⟨g5, 1, none⟩ = some (.slice none 0 0) := (blk_cell hbox 1).trans rfl; have hf1 := blk_frozen hbox 1
         have HG := Aside0.mk (Nat.le_of_eq hg.symm)
         clear hg)
      | ((with_reducible refine gate_store (t := 25) (p := 5) rfl ?_)
         refine store_event (w1 := ((w5x.setCell ⟨g5, 0, none⟩ (.slice none 0 0)).setCell ⟨g5, 1, none⟩ (.slice (some ⟨w4.heap.size, 0, none⟩) 2 2))) rfl (t := 25) (p := 5) rfl rfl ?hr ?_
         case hr => first | (go_simp; done) | (go_simp; rfl)
         intro w5 hw
         have hcb := hw ▸ fill2 (g := g5) hbox
         have hbl := hw ▸ fillB2 (g := g5) hb HG.out
         have HB5 := Aside0.mk (below_step HBW5.out hbl)
         have HF5 := Aside0.mk (Kd.C_below HRW.out hbl)
         have HM5 := Aside0.mk hcb
         have m0 : w5.cell? ⟨g5, 0, none⟩ = some (.slice none 0 0) := (blk_cell hcb 0).trans rfl
         have m1 : w5.cell? ⟨g5, 1, none⟩ = some (.slice (some ⟨w4.heap.size, 0, none⟩) 2 2) := (blk_cell hcb 1).trans rfl
         clear hcb hbl hw hbox hb hz0 hf0 hz1 hf1)
      | (go_at_call 15; (with_reducible refine (may_FD (some ⟨w4.heap.size, 0, none⟩) 2 w5 HF5.out (Nat.le_refl 2)).mono ?_)
         rintro e w6 ⟨rfl, hB6⟩
         have HB6 := Aside0.mk (below_step HB5.out hB6)
         have HF6 := Aside0.mk (Kd.C_below HF5.out hB6)
         have hm6 := blk_below HM5.out hB6
         have HM6 := Aside0.mk hm6
         have m0 : w6.cell? ⟨g5, 0, none⟩ = some (.slice none 0 0) := (blk_cell hm6 0).trans rfl
         have m1 : w6.cell? ⟨g5, 1, none⟩ = some (.slice (some ⟨w4.heap.size, 0, none⟩) 2 2) := (blk_cell hm6 1).trans rfl
         have HI6 : Aside0 ((Kd.int .i32).C (w6.alloc (.cells #[.int .i32 (k : Int)] 21)) (some ⟨w6.heap.size, 0, none⟩) 1 [(k : Int)]) := ⟨C_block (blk_new w6 _) [(k : Int)] [[.int .i32 (k : Int)]] (by show 1 ≤ 9223372036854775807; decide) ⟨rfl, trivial⟩ rfl⟩
         clear hB6 hm6)
      | (go_at_call 10; (with_reducible refine (trace_FD ⟨w4.heap.size, 0, none⟩ ⟨w6.heap.size, 0, none⟩ k (w6.alloc (.cells #[.int .i32 (k : Int)] 21)) HK.out (Kd.C_alloc HF6.out _) HI6.out).mono ?_)
         rintro e_ w7 ⟨e, v, G, A7, c7, rfl, hev, hB7⟩
         have HB7 := Aside0.mk (below_step (below_alloc HB6.out _) hB7)
         obtain rfl : e = 4 := hev.1 HD.out
         clear hB7 hev)
      | ((with_reducible refine gate_dst (N := 6) rfl ?_)
         refine box_event rfl (N := 6) rfl (cs := #[.int .i64 0, .int .i32 0, .slice none 0 0, .int .i64 0, .int .i64 0]) (t := 32) ?hr ?_
         case hr => first | (go_simp; done) | (go_simp; rfl)
         intro g6 hg w8x hbox hb; have hz0 : w8x.cell? ⟨g6, 0, none⟩ = some (.int .i64 0) := (blk_cell hbox 0).trans rfl; have hf0 := blk_frozen hbox 0; have hz1 : w8x.cell? ⟨g6, 1, none⟩ = some (.int .i32 0) := (blk_cell hbox 1).trans rfl; have hf1 := blk_frozen hbox 1; have hz2 : w8x.cell? ⟨g6, 2, none⟩ = some (.slice none 0 0) := (blk_cell hbox 2).trans rfl; have hf2 := blk_frozen hbox 2; have hz3 : w8x.cell? ⟨g6, 3, none⟩ = some (.int .i64 0) := (blk_cell hbox 3).trans rfl; have hf3 := blk_frozen hbox 3; have hz4 : w8x.cell? ⟨g6, 4, none⟩ = some (.int .i64 0) := (blk_cell hbox 4).trans rfl; have hf4 := blk_frozen hbox 4
         have HG := Aside0.mk (Nat.le_of_eq hg.symm)
         clear hg)
      | ((with_reducible refine gate_store (t := 32) (p := 6) rfl ?_)
         refine store_event (w1 := (((((w8x.setCell ⟨g6, 0, none⟩ (.int .i64 4)).setCell ⟨g6, 1, none⟩ (.int .i32 v)).setCell ⟨g6, 2, none⟩ (.slice A7 G.tr.length c7)).setCell ⟨g6, 3, none⟩ (.int .i64 (G.st : Int))).setCell ⟨g6, 4, none⟩ (.int .i64 (G.rd : Int)))) rfl (t := 32) (p := 6) rfl rfl ?hr ?_
         case hr => first | (go_simp; done) | (go_simp; rfl)
         intro w8 hw
         have hcb := hw ▸ fill5 (g := g6) hbox
         have hbl := hw ▸ fillB5 (g := g6) hb HG.out
         have HB8 := Aside0.mk (below_step HB7.out hbl)
         have r0 : w8.cell? ⟨g6, 0, none⟩ = some (.int .i64 4) := (blk_cell hcb 0).trans rfl
         have r1 : w8.cell? ⟨g6, 1, none⟩ = some (.int .i32 v) := (blk_cell hcb 1).trans rfl
         clear hcb hbl hw hbox hb hz0 hf0 hz1 hf1 hz2 hf2 hz3 hf3 hz4 hf4)
      | (go_at_call 8; (with_reducible refine (lives_calls _).mono ?_)
         rintro e_ w9 ⟨rfl, hB9⟩
         have HB9 := Aside0.mk (below_step HB8.out hB9)
         clear hB9)
      | fail)
    go_ret
    exact ⟨rfl, HB9.out⟩
  · have HD := Aside0.mk hd
    have hq1 : decide ((k : Int) + 2 > 32) = false := decide_eq_false (by omega)
    have hq2 : decide (32 < (k : Int) + 2) = false := decide_eq_false (by omega)
    clear hd
    go_wp2_with (first
      | ((with_reducible refine gate_dst (N := 3) rfl ?_)
         refine box_event rfl (N := 3) rfl (cs := #[.string (⟨#[]⟩ : ByteArray), .int .i64 0, .int .i64 0, .slice none 0 0]) (t := 47) ?hr ?_
         case hr => first | (go_simp; done) | (go_simp; rfl)
         intro g3 hg w3x hbox hb; have hz0 : w3x.cell? ⟨g3, 0, none⟩ = some (.string (⟨#[]⟩ : ByteArray)) := (blk_cell hbox 0).trans rfl; have hf0 := blk_frozen hbox 0; have hz1 : w3x.cell? ⟨g3, 1, none⟩ = some (.int .i64 0) := (blk_cell hbox 1).trans rfl; have hf1 := blk_frozen hbox 1; have hz2 : w3x.cell? ⟨g3, 2, none⟩ = some (.int .i64 0) := (blk_cell hbox 2).trans rfl; have hf2 := blk_frozen hbox 2; have hz3 : w3x.cell? ⟨g3, 3, none⟩ = some (.slice none 0 0) := (blk_cell hbox 3).trans rfl; have hf3 := blk_frozen hbox 3
         have HG := Aside0.mk (Nat.le_of_eq hg.symm)
         clear hg)
      | ((with_reducible refine gate_store (t := 47) (p := 3) rfl ?_)
         refine store_event (w1 := ((((w3x.setCell ⟨g3, 0, none⟩ (.string ⟨#[102]⟩)).setCell ⟨g3, 1, none⟩ (.int .i64 1)).setCell ⟨g3, 2, none⟩ (.int .i64 3)).setCell ⟨g3, 3, none⟩ (.slice (some ⟨w.heap.size + 1 + 1, 0, none⟩) 3 3))) rfl (t := 47) (p := 3) rfl rfl ?hr ?_
         case hr => first | (go_simp; done) | (go_simp; rfl)
         intro w3 hw
         have hcb := hw ▸ fill4 (g := g3) hbox
         have hbl := hw ▸ fillB4 (g := g3) hb HG.out
         have HBW3_ := Aside0.mk (below_step HBW3.out hbl)
         have HE1_ := Aside0.mk (blk_below HE1.out hbl)
         have HE2_ := Aside0.mk (blk_below HE2.out hbl)
         have HE3_ := Aside0.mk (blk_below HE3.out hbl)
         have HG3 := Aside0.mk hcb
         have u1 := blk_new w3 (.cells #[.int .i64 0] 3)
         have u2 : ((w3.alloc (.cells #[.int .i64 0] 3)).alloc (.cells #[.int .i64 8, .int .i64 0, .int .i64 0, .int .i64 (-1), .int .i64 (-1), .int .i32 0, .string ⟨#[]⟩, .slice none 0 0, .int .i64 7, .int .i64 0, .int .i64 0, .int .i64 (-1), .int .i64 (-1), .int .i32 0, .string ⟨#[102]⟩, .slice (some ⟨w3.heap.size, 0, none⟩) 1 1] 44)).heap[w3.heap.size + 1]? = some (.cells #[.int .i64 8, .int .i64 0, .int .i64 0, .int .i64 (-1), .int .i64 (-1), .int .i32 0, .string ⟨#[]⟩, .slice none 0 0, .int .i64 7, .int .i64 0, .int .i64 0, .int .i64 (-1), .int .i64 (-1), .int .i32 0, .string ⟨#[102]⟩, .slice (some ⟨w3.heap.size, 0, none⟩) 1 1] 44) := by have h_ := blk_new (w3.alloc (.cells #[.int .i64 0] 3)) (.cells #[.int .i64 8, .int .i64 0, .int .i64 0, .int .i64 (-1), .int .i64 (-1), .int .i32 0, .string ⟨#[]⟩, .slice none 0 0, .int .i64 7, .int .i64 0, .int .i64 0, .int .i64 (-1), .int .i64 (-1), .int .i32 0, .string ⟨#[102]⟩, .slice (some ⟨w3.heap.size, 0, none⟩) 1 1] 44); simpa using h_
         have u3 : (((w3.alloc (.cells #[.int .i64 0] 3)).alloc (.cells #[.int .i64 8, .int .i64 0, .int .i64 0, .int .i64 (-1), .int .i64 (-1), .int .i32 0, .string ⟨#[]⟩, .slice none 0 0, .int .i64 7, .int .i64 0, .int .i64 0, .int .i64 (-1), .int .i64 (-1), .int .i32 0, .string ⟨#[102]⟩, .slice (some ⟨w3.heap.size, 0, none⟩) 1 1] 44)).alloc (.cells #[.slice (some ⟨w3.heap.size + 1, 0, none⟩) 2 2, .int .i64 3, .int .i64 0, .int .i64 0, .int .i64 0] 41)).heap[w3.heap.size + 1 + 1]? = some (.cells #[.slice (some ⟨w3.heap.size + 1, 0, none⟩) 2 2, .int .i64 3, .int .i64 0, .int .i64 0, .int .i64 0] 41) := by have h_ := blk_new ((w3.alloc (.cells #[.int .i64 0] 3)).alloc (.cells #[.int .i64 8, .int .i64 0, .int .i64 0, .int .i64 (-1), .int .i64 (-1), .int .i32 0, .string ⟨#[]⟩, .slice none 0 0, .int .i64 7, .int .i64 0, .int .i64 0, .int .i64 (-1), .int .i64 (-1), .int .i32 0, .string ⟨#[102]⟩, .slice (some ⟨w3.heap.size, 0, none⟩) 1 1] 44)) (.cells #[.slice (some ⟨w3.heap.size + 1, 0, none⟩) 2 2, .int .i64 3, .int .i64 0, .int .i64 0, .int .i64 0] 41); simpa using h_
         have HU1 := Aside0.mk (blk_alloc (blk_alloc u1 (.cells #[.int .i64 8, .int .i64 0, .int .i64 0, .int .i64 (-1), .int .i64 (-1), .int .i32 0, .string ⟨#[]⟩, .slice none 0 0, .int .i64 7, .int .i64 0, .int .i64 0, .int .i64 (-1), .int .i64 (-1), .int .i32 0, .string ⟨#[102]⟩, .slice (some ⟨w3.heap.size, 0, none⟩) 1 1] 44)) (.cells #[.slice (some ⟨w3.heap.size + 1, 0, none⟩) 2 2, .int .i64 3, .int .i64 0, .int .i64 0, .int .i64 0] 41))
         have HU2 := Aside0.mk (blk_alloc u2 (.cells #[.slice (some ⟨w3.heap.size + 1, 0, none⟩) 2 2, .int .i64 3, .int .i64 0, .int .i64 0, .int .i64 0] 41))
         have HU3 := Aside0.mk u3
         have hb3_ : Below w3.heap.size w3 (((w3.alloc (.cells #[.int .i64 0] 3)).alloc (.cells #[.int .i64 8, .int .i64 0, .int .i64 0, .int .i64 (-1), .int .i64 (-1), .int .i32 0, .string ⟨#[]⟩, .slice none 0 0, .int .i64 7, .int .i64 0, .int .i64 0, .int .i64 (-1), .int .i64 (-1), .int .i32 0, .string ⟨#[102]⟩, .slice (some ⟨w3.heap.size, 0, none⟩) 1 1] 44)).alloc (.cells #[.slice (some ⟨w3.heap.size + 1, 0, none⟩) 2 2, .int .i64 3, .int .i64 0, .int .i64 0, .int .i64 0] 41)) := below_alloc (below_alloc (below_alloc (Below.refl _ _) _) _) _
         have HBW4 := Aside0.mk (below_step HBW3_.out hb3_)
         have HE14 := Aside0.mk (blk_below HE1_.out hb3_)
         have HE24 := Aside0.mk (blk_below HE2_.out hb3_)
         have HE34 := Aside0.mk (blk_below HE3_.out hb3_)
         have HG34 := Aside0.mk (blk_below HG3.out hb3_)
         clear u1 u2 u3 hb3_
         clear hcb hbl hw hbox hb hz0 hf0 hz1 hf1 hz2 hf2 hz3 hf3)
      | ((with_reducible refine gate_dst (N := 4) rfl ?_)
         refine box_event rfl (N := 4) rfl (cs := #[.string (⟨#[]⟩ : ByteArray), .int .i64 0, .int .i64 0, .slice none 0 0]) (t := 47) ?hr ?_
         case hr => first | (go_simp; done) | (go_simp; rfl)
         intro g4 hg w4x hbox hb; have hz0 : w4x.cell? ⟨g4, 0, none⟩ = some (.string (⟨#[]⟩ : ByteArray)) := (blk_cell hbox 0).trans rfl; have hf0 := blk_frozen hbox 0; have hz1 : w4x.cell? ⟨g4, 1, none⟩ = some (.int .i64 0) := (blk_cell hbox 1).trans rfl; have hf1 := blk_frozen hbox 1; have hz2 : w4x.cell? ⟨g4, 2, none⟩ = some (.int .i64 0) := (blk_cell hbox 2).trans rfl; have hf2 := blk_frozen hbox 2; have hz3 : w4x.cell? ⟨g4, 3, none⟩ = some (.slice none 0 0) := (blk_cell hbox 3).trans rfl; have hf3 := blk_frozen hbox 3
         have HG := Aside0.mk (Nat.le_of_eq hg.symm)
         clear hg)
      | ((with_reducible refine gate_store (t := 47) (p := 4) rfl ?_)
         refine store_event (w1 := ((((w4x.setCell ⟨g4, 0, none⟩ (.string ⟨#[109, 97, 105, 110]⟩)).setCell ⟨g4, 1, none⟩ (.int .i64 0)).setCell ⟨g4, 2, none⟩ (.int .i64 1)).setCell ⟨g4, 3, none⟩ (.slice (some ⟨w3.heap.size + 1 + 1, 0, none⟩) 1 1))) rfl (t := 47) (p := 4) rfl rfl ?hr ?_
         case hr => first | (go_simp; done) | (go_simp; rfl)
         intro w4 hw
         have hcb := hw ▸ fill4 (g := g4) hbox
         have hbl := hw ▸ fillB4 (g := g4) hb HG.out
         have HBW4_ := Aside0.mk (below_step HBW4.out hbl)
         have hg34 := blk_below HG34.out hbl
         have s0 : w4.cell? ⟨g3, 0, none⟩ = some (.string ⟨#[102]⟩) := (blk_cell hg34 0).trans rfl
         have s1 : w4.cell? ⟨g3, 1, none⟩ = some (.int .i64 1) := (blk_cell hg34 1).trans rfl
         have s2 : w4.cell? ⟨g3, 2, none⟩ = some (.int .i64 3) := (blk_cell hg34 2).trans rfl
         have s3 : w4.cell? ⟨g3, 3, none⟩ = some (.slice (some ⟨w.heap.size + 1 + 1, 0, none⟩) 3 3) := (blk_cell hg34 3).trans rfl
         have t0 : w4.cell? ⟨g4, 0, none⟩ = some (.string ⟨#[109, 97, 105, 110]⟩) := (blk_cell hcb 0).trans rfl
         have t1 : w4.cell? ⟨g4, 1, none⟩ = some (.int .i64 0) := (blk_cell hcb 1).trans rfl
         have t2 : w4.cell? ⟨g4, 2, none⟩ = some (.int .i64 1) := (blk_cell hcb 2).trans rfl
         have t3 : w4.cell? ⟨g4, 3, none⟩ = some (.slice (some ⟨w3.heap.size + 1 + 1, 0, none⟩) 1 1) := (blk_cell hcb 3).trans rfl
         have hb4_ : Below w4.heap.size w4 (w4.alloc (.cells #[.string ⟨#[102]⟩, .int .i64 1, .int .i64 3, .slice (some ⟨w.heap.size + 1 + 1, 0, none⟩) 3 3, .string ⟨#[109, 97, 105, 110]⟩, .int .i64 0, .int .i64 1, .slice (some ⟨w3.heap.size + 1 + 1, 0, none⟩) 1 1] 47)) := below_alloc (Below.refl _ _) _
         have HRW := Aside0.mk (deep_rows (w := w) (blk_below (blk_below HE14.out hbl) hb4_) (blk_below (blk_below HE24.out hbl) hb4_) (blk_below (blk_below HE34.out hbl) hb4_) (blk_below (blk_below HU1.out hbl) hb4_) (blk_below (blk_below HU2.out hbl) hb4_) (blk_below (blk_below HU3.out hbl) hb4_) (blk_new w4 (.cells #[.string ⟨#[102]⟩, .int .i64 1, .int .i64 3, .slice (some ⟨w.heap.size + 1 + 1, 0, none⟩) 3 3, .string ⟨#[109, 97, 105, 110]⟩, .int .i64 0, .int .i64 1, .slice (some ⟨w3.heap.size + 1 + 1, 0, none⟩) 1 1] 47)))
         have HBW5 := Aside0.mk (below_step HBW4_.out hb4_)
         clear hg34 hb4_
         clear hcb hbl hw hbox hb hz0 hf0 hz1 hf1 hz2 hf2 hz3 hf3)
      | ((with_reducible refine gate_dst (N := 5) rfl ?_)
         refine box_event rfl (N := 5) rfl (cs := #[.slice none 0 0, .slice none 0 0]) (t := 25) ?hr ?_
         case hr => first | (go_simp; done) | (go_simp; rfl)
         intro g5 hg w5x hbox hb; have hz0 : w5x.cell? ⟨g5, 0, none⟩ = some (.slice none 0 0) := (blk_cell hbox 0).trans rfl; have hf0 := blk_frozen hbox 0; have hz1 : w5x.cell? ⟨g5, 1, none⟩ = some (.slice none 0 0) := (blk_cell hbox 1).trans rfl; have hf1 := blk_frozen hbox 1
         have HG := Aside0.mk (Nat.le_of_eq hg.symm)
         clear hg)
      | ((with_reducible refine gate_store (t := 25) (p := 5) rfl ?_)
         refine store_event (w1 := ((w5x.setCell ⟨g5, 0, none⟩ (.slice none 0 0)).setCell ⟨g5, 1, none⟩ (.slice (some ⟨w4.heap.size, 0, none⟩) 2 2))) rfl (t := 25) (p := 5) rfl rfl ?hr ?_
         case hr => first | (go_simp; done) | (go_simp; rfl)
         intro w5 hw
         have hcb := hw ▸ fill2 (g := g5) hbox
         have hbl := hw ▸ fillB2 (g := g5) hb HG.out
         have HB5 := Aside0.mk (below_step HBW5.out hbl)
         have HF5 := Aside0.mk (Kd.C_below HRW.out hbl)
         have HM5 := Aside0.mk hcb
         have m0 : w5.cell? ⟨g5, 0, none⟩ = some (.slice none 0 0) := (blk_cell hcb 0).trans rfl
         have m1 : w5.cell? ⟨g5, 1, none⟩ = some (.slice (some ⟨w4.heap.size, 0, none⟩) 2 2) := (blk_cell hcb 1).trans rfl
         clear hcb hbl hw hbox hb hz0 hf0 hz1 hf1)
      | (go_at_call 15; (with_reducible refine (may_FD (some ⟨w4.heap.size, 0, none⟩) 2 w5 HF5.out (Nat.le_refl 2)).mono ?_)
         rintro e w6 ⟨rfl, hB6⟩
         have HB6 := Aside0.mk (below_step HB5.out hB6)
         have HF6 := Aside0.mk (Kd.C_below HF5.out hB6)
         have hm6 := blk_below HM5.out hB6
         have HM6 := Aside0.mk hm6
         have m0 : w6.cell? ⟨g5, 0, none⟩ = some (.slice none 0 0) := (blk_cell hm6 0).trans rfl
         have m1 : w6.cell? ⟨g5, 1, none⟩ = some (.slice (some ⟨w4.heap.size, 0, none⟩) 2 2) := (blk_cell hm6 1).trans rfl
         have HI6 : Aside0 ((Kd.int .i32).C (w6.alloc (.cells #[.int .i32 (k : Int)] 21)) (some ⟨w6.heap.size, 0, none⟩) 1 [(k : Int)]) := ⟨C_block (blk_new w6 _) [(k : Int)] [[.int .i32 (k : Int)]] (by show 1 ≤ 9223372036854775807; decide) ⟨rfl, trivial⟩ rfl⟩
         clear hB6 hm6)
      | (go_at_call 10; (with_reducible refine (trace_FD ⟨w4.heap.size, 0, none⟩ ⟨w6.heap.size, 0, none⟩ k (w6.alloc (.cells #[.int .i32 (k : Int)] 21)) HK.out (Kd.C_alloc HF6.out _) HI6.out).mono ?_)
         rintro e_ w7 ⟨e, v, G, A7, c7, rfl, hev, hB7⟩
         have HB7 := Aside0.mk (below_step (below_alloc HB6.out _) hB7)
         obtain ⟨rfl, rfl⟩ := hev.2 HD.out
         clear hB7 hev)
      | ((with_reducible refine gate_dst (N := 6) rfl ?_)
         refine box_event rfl (N := 6) rfl (cs := #[.int .i64 0, .int .i32 0, .slice none 0 0, .int .i64 0, .int .i64 0]) (t := 32) ?hr ?_
         case hr => first | (go_simp; done) | (go_simp; rfl)
         intro g6 hg w8x hbox hb; have hz0 : w8x.cell? ⟨g6, 0, none⟩ = some (.int .i64 0) := (blk_cell hbox 0).trans rfl; have hf0 := blk_frozen hbox 0; have hz1 : w8x.cell? ⟨g6, 1, none⟩ = some (.int .i32 0) := (blk_cell hbox 1).trans rfl; have hf1 := blk_frozen hbox 1; have hz2 : w8x.cell? ⟨g6, 2, none⟩ = some (.slice none 0 0) := (blk_cell hbox 2).trans rfl; have hf2 := blk_frozen hbox 2; have hz3 : w8x.cell? ⟨g6, 3, none⟩ = some (.int .i64 0) := (blk_cell hbox 3).trans rfl; have hf3 := blk_frozen hbox 3; have hz4 : w8x.cell? ⟨g6, 4, none⟩ = some (.int .i64 0) := (blk_cell hbox 4).trans rfl; have hf4 := blk_frozen hbox 4
         have HG := Aside0.mk (Nat.le_of_eq hg.symm)
         clear hg)
      | ((with_reducible refine gate_store (t := 32) (p := 6) rfl ?_)
         refine store_event (w1 := (((((w8x.setCell ⟨g6, 0, none⟩ (.int .i64 1)).setCell ⟨g6, 1, none⟩ (.int .i32 (k : Int))).setCell ⟨g6, 2, none⟩ (.slice A7 G.tr.length c7)).setCell ⟨g6, 3, none⟩ (.int .i64 (G.st : Int))).setCell ⟨g6, 4, none⟩ (.int .i64 (G.rd : Int)))) rfl (t := 32) (p := 6) rfl rfl ?hr ?_
         case hr => first | (go_simp; done) | (go_simp; rfl)
         intro w8 hw
         have hcb := hw ▸ fill5 (g := g6) hbox
         have hbl := hw ▸ fillB5 (g := g6) hb HG.out
         have HB8 := Aside0.mk (below_step HB7.out hbl)
         have r0 : w8.cell? ⟨g6, 0, none⟩ = some (.int .i64 1) := (blk_cell hcb 0).trans rfl
         have r1 : w8.cell? ⟨g6, 1, none⟩ = some (.int .i32 (k : Int)) := (blk_cell hcb 1).trans rfl
         clear hcb hbl hw hbox hb hz0 hf0 hz1 hf1 hz2 hf2 hz3 hf3 hz4 hf4)
      | (go_at_call 8; (with_reducible refine (lives_calls _).mono ?_)
         rintro e_ w9 ⟨rfl, hB9⟩
         have HB9 := Aside0.mk (below_step HB8.out hB9)
         clear hB9)
      | fail)
    go_ret
    exact ⟨rfl, HB9.out⟩
end Go.Proofs.Ytabkinlpbefjgaa.L

namespace Go.Proofs.Ytabkinlpbefjgaa.L
open Go.RowKit Go.Proofs.Ytabkinlpbefjgaa.X Go.Proofs.YtabkinlpbefjgaaW.PrintWords Go.Proofs.YtabkinlpbefjgaaW.PrintLast Go.Proofs.YtabkinlpbefjgaaW.PrintMore
attribute [local go_sem] max2_int min2_int max_two min_two max_three min_three max_four min_four   -- for this text's walks alone
set_option linter.unusedVariables false
set_option linter.unusedSimpArgs false
open Go.Proofs.Ytabkinlpbefjgaa.Pure
theorem deep_row (n : Int) (w : World) (_ : (Lit.int .i64 n).wf = true) : Calls Try.prog 6 #[.int .i64 n] w fun e w' => e = .returned (.bool true) ∧ Below w.heap.size w w' := deep_calls n w
end Go.Proofs.Ytabkinlpbefjgaa.L

