/- Texts of this seat that a claim bears, put together by this session's own program shake.py: TrZa, TrZb, TrZc, TrZd, TrZe, TrZf, TrZg, TrZt, TrZh, TrZi, TrZj. -/
import Derived.Test.YtabkinlpbefjgaaProg
import Derived.Below
import Derived.Deep.Draws
import Derived.Deep.AppendLies
import Derived.Maps.AppendAt
import Derived.OwnWalk
import Derived.Laws.BytesArg
import Derived.Laws.MakeOwn
import Derived.Laws.OwnMore
import Derived.Deep.OwnRows
import Derived.Tactics
import Derived.Lib.ConvBytes
import Derived.Laws.Slices
import Derived.WalkKit
import Derived.KernelRfl
import Derived.RowKit3
import Derived.Deep.LoopGhost
import Derived.Deep.QuietTactic
import Derived.BigQuiet
import Derived.WideLaws
import Derived.Deep.DeepCutAuto
import Derived.Deep.CutBlock
import Derived.Deep.RegionHeld3
import Derived.Laws.Rows
import Derived.Lib.AppendStr
import Derived.ArgAppend
import Derived.Laws.IdiomCopy
import Derived.OrdersHeld
import Derived.Laws.BitsLemmas
import Derived.RowKit
import Derived.Test.YtabkinlpbefjgaaKb0
import Derived.Test.YtabkinlpbefjgaaKb1
import Derived.Test.YtabkinlpbefjgaaKb5
import Derived.Test.YtabkinlpbefjgaaKb7
import Derived.Maps.Own
import Derived.Recover
import Derived.WalkSmall
import Derived.StillTailTactics
import Derived.Laws.Pointers
import Derived.Test.YtabkinlpbefjgaaKb11
import Derived.Test.YtabkinlpbefjgaaKb15
import Derived.Test.YtabkinlpbefjgaaKb16
import Derived.Test.YtabkinlpbefjgaaKb17
import Derived.Test.YtabkinlpbefjgaaKb8
import Derived.Laws.Strings
import Derived.DataShut
import Derived.Deep.RegionLawGrows
import Derived.Deep.Upon
import Derived.Deep.MidRow
import Derived.Test.YtabkinlpbefjgaaKb6
import Derived.Test.YtabkinlpbefjgaaKb14
namespace Go.Proofs.Ytabkinlpbefjgaa.L
open Go.RowKit Go.Proofs.Ytabkinlpbefjgaa.X Go.Proofs.YtabkinlpbefjgaaW.PrintWords Go.Proofs.YtabkinlpbefjgaaW.PrintLast Go.Proofs.YtabkinlpbefjgaaW.PrintMore
attribute [local go_sem] max2_int min2_int max_two min_two max_three min_three max_four min_four   -- for this text's walks alone
set_option linter.unusedVariables false
set_option linter.unusedSimpArgs false
open Go.Proofs.Ytabkinlpbefjgaa.Pure
def Tot (f : Nat → Option Bool) (P : Prop) : Prop := ∃ r, Ev f r ∧ (r = true → P)
theorem Tot.step {f : Nat → Option Bool} {P : Prop} (h : Tot (fun k => f (k + 1)) P) : Tot f P := by
  obtain ⟨r, h1, h2⟩ := h
  exact ⟨r, Ev.step (fun _ => rfl) h1, h2⟩
theorem Tot.bind {α : Type} {g : Nat → Option α} {f : α → Nat → Option Bool} {a : α} {P : Prop} (h : Ev g a) (k : Tot (f a) P) : Tot (fun n => (g n).bind fun t => f t n) P := by
  obtain ⟨r, h1, h2⟩ := k
  exact ⟨r, Ev.bind h h1, h2⟩
theorem Tot.no (P : Prop) : Tot (fun _ => some false) P := ⟨false, Ev.now _, fun h => by cases h⟩
theorem Tot.of {f : Nat → Option Bool} {P : Prop} {b : Bool} (h : ∀ k, f k = some b) (hp : b = true → P) : Tot f P := ⟨b, ⟨0, fun k _ => h k⟩, hp⟩
theorem wr1 (i : Nat) (h : i ≤ 9000000000000000000) : wrap64 ((i : Int) + 1) = ((i + 1 : Nat) : Int) := by rw [w64 (by omega) (by omega)]; omega
def posOf (n len : Nat) : Int := if n < len then (n : Int) else -1
theorem rd57 (GS : List S57) (i : Nat) : rd_T57 GS (i : Int) = GS.getD i z57 := by show GS.getD ((i : Int)).toNat z57 = _; rw [Int.toNat_natCast]
theorem rd47 (F : List S47) (i : Nat) : rd_T47 F (i : Int) = fnOf F i := by show F.getD ((i : Int)).toNat z47 = _; rw [Int.toNat_natCast]; rfl
theorem fnAt_l (F : List S47) (n : ByteArray) (hl : F.length ≤ 1000000) : ∀ (d i : Nat), i + d = F.length → (∀ j, j < i → ¬ (fnOf F j).f0.toList = n.toList) → Ev (fun k => brazierref12_FnAt.l0 k n F (F.length : Int) (i : Int)) (posOf (fnAt F n) F.length)
  | 0, i, h, hn => by
    refine Ev.step (f := fun _ => some (-1)) (fun k => ?_) ?_
    · simp only [brazierref12_FnAt.l0]; rw [if_neg (by omega)]
    · have e : fnAt F n = F.length := by
        unfold fnAt
        refine List.findIdx_eq_length.2 (fun f hf => ?_)
        obtain ⟨j, hj⟩ := List.getElem?_of_mem hf
        have hj2 := (List.getElem?_eq_some_iff.1 hj).1
        have h2 := hn j (by omega)
        unfold fnOf at h2
        rw [List.getD_eq_getElem?_getD, hj] at h2
        simpa using h2
      rw [e]; unfold posOf; rw [if_neg (by omega)]; exact Ev.now _
  | d + 1, i, h, hn => by
    have hi : i < F.length := by omega
    by_cases hm : (fnOf F i).f0.toList = n.toList
    · refine Ev.step (f := fun _ => some (i : Int)) (fun k => ?_) ?_
      · simp only [brazierref12_FnAt.l0]
        rw [if_pos (by omega), if_pos (by omega), if_pos (by omega), rd47, if_pos hm]
      · have e : fnAt F n = i := by
          unfold fnAt
          rw [List.findIdx_eq hi]
          refine ⟨?_, fun j hj => ?_⟩
          · unfold fnOf at hm
            rw [List.getD_eq_getElem?_getD, List.getElem?_eq_getElem hi] at hm
            simpa using hm
          · have h2 := hn j hj
            unfold fnOf at h2
            rw [List.getD_eq_getElem?_getD, List.getElem?_eq_getElem (by omega)] at h2
            simpa using h2
        rw [e]; unfold posOf; rw [if_pos hi]; exact Ev.now _
    · refine Ev.step (f := fun k => brazierref12_FnAt.l0 k n F (F.length : Int) ((i + 1 : Nat) : Int)) (fun k => ?_) (fnAt_l F n hl d (i + 1) (by omega) (fun j hj => ?_))
      · simp only [brazierref12_FnAt.l0]
        rw [if_pos (by omega), if_pos (by omega), if_pos (by omega), rd47, if_neg hm, wr1 i (by omega)]
      · by_cases e : j = i
        · rw [e]; exact hm
        · exact hn j (by omega)
theorem fnAt_ev (GS : List S57) (F : List S47) (n : ByteArray) (hl : F.length ≤ 1000000) : Ev (fun k => brazierref12_FnAt.f k GS F n) (posOf (fnAt F n) F.length) := fnAt_l F n hl F.length 0 (Nat.zero_add _) (fun j hj => absurd hj (by omega))
theorem glAt_l (F : List S57) (n : ByteArray) (hl : F.length ≤ 1000000) : ∀ (d i : Nat), i + d = F.length → (∀ j, j < i → ¬ (F.getD j z57).f0.toList = n.toList) → Ev (fun k => brazierref12_GlobalAt.l0 k n F (F.length : Int) (i : Int)) (posOf (glAt F n) F.length)
  | 0, i, h, hn => by
    refine Ev.step (f := fun _ => some (-1)) (fun k => ?_) ?_
    · simp only [brazierref12_GlobalAt.l0]; rw [if_neg (by omega)]
    · have e : glAt F n = F.length := by
        unfold glAt
        refine List.findIdx_eq_length.2 (fun f hf => ?_)
        obtain ⟨j, hj⟩ := List.getElem?_of_mem hf
        have hj2 := (List.getElem?_eq_some_iff.1 hj).1
        have h2 := hn j (by omega)
        rw [List.getD_eq_getElem?_getD, hj] at h2
        simpa using h2
      rw [e]; unfold posOf; rw [if_neg (by omega)]; exact Ev.now _
  | d + 1, i, h, hn => by
    have hi : i < F.length := by omega
    by_cases hm : (F.getD i z57).f0.toList = n.toList
    · refine Ev.step (f := fun _ => some (i : Int)) (fun k => ?_) ?_
      · simp only [brazierref12_GlobalAt.l0]
        rw [if_pos (by omega), if_pos (by omega), if_pos (by omega), rd57, if_pos hm]
      · have e : glAt F n = i := by
          unfold glAt
          rw [List.findIdx_eq hi]
          refine ⟨?_, fun j hj => ?_⟩
          · rw [List.getD_eq_getElem?_getD, List.getElem?_eq_getElem hi] at hm
            simpa using hm
          · have h2 := hn j hj
            rw [List.getD_eq_getElem?_getD, List.getElem?_eq_getElem (by omega)] at h2
            simpa using h2
        rw [e]; unfold posOf; rw [if_pos hi]; exact Ev.now _
    · refine Ev.step (f := fun k => brazierref12_GlobalAt.l0 k n F (F.length : Int) ((i + 1 : Nat) : Int)) (fun k => ?_) (glAt_l F n hl d (i + 1) (by omega) (fun j hj => ?_))
      · simp only [brazierref12_GlobalAt.l0]
        rw [if_pos (by omega), if_pos (by omega), if_pos (by omega), rd57, if_neg hm, wr1 i (by omega)]
      · by_cases e : j = i
        · rw [e]; exact hm
        · exact hn j (by omega)
theorem glAt_ev (GS : List S57) (F : List S47) (n : ByteArray) (hl : GS.length ≤ 1000000) : Ev (fun k => brazierref12_GlobalAt.f k GS F n) (posOf (glAt GS n) GS.length) := glAt_l GS n hl GS.length 0 (Nat.zero_add _) (fun j hj => absurd hj (by omega))
end Go.Proofs.Ytabkinlpbefjgaa.L

namespace Go.Proofs.Ytabkinlpbefjgaa.L
open Go.RowKit Go.Proofs.Ytabkinlpbefjgaa.X Go.Proofs.YtabkinlpbefjgaaW.PrintWords Go.Proofs.YtabkinlpbefjgaaW.PrintLast Go.Proofs.YtabkinlpbefjgaaW.PrintMore
attribute [local go_sem] max2_int min2_int max_two min_two max_three min_three max_four min_four   -- for this text's walks alone
set_option linter.unusedVariables false
set_option linter.unusedSimpArgs false
open Go.Proofs.Ytabkinlpbefjgaa.Pure
def regB (a n : Int) (b : Bool) : Bool := decide (0 ≤ a ∧ a < n ∨ b = true ∧ a = -1)
set_option maxHeartbeats 1000000 in
theorem reg_calls (a n : Int) (b : Bool) (w : World) : Calls Try.prog 34 #[.int .i64 a, .int .i64 n, .bool b] w fun e w' => e = .returned (.bool (regB a n b)) ∧ w = w' := by
  by_cases h1 : 0 ≤ a
  · by_cases h2 : a < n
    · have e : regB a n b = true := decide_eq_true (.inl ⟨h1, h2⟩)
      rw [e]
      clear e
      go_enter Try.func34, Try.ntmps34
      go_wp2
      go_ret
      exact ⟨rfl, rfl⟩
    · cases b
      · have e : regB a n false = false := decide_eq_false (by rintro (h | h); exact h2 h.2; exact absurd h.1 (by decide))
        rw [e]
        clear e
        go_enter Try.func34, Try.ntmps34
        go_wp2
        go_ret
        exact ⟨rfl, rfl⟩
      · have e : regB a n true = false := decide_eq_false (by rintro (h | h); exact h2 h.2; have := h.2; omega)
        rw [e]
        clear e
        have q : (a == -1) = false := by rw [beq_eq_false_iff_ne]; omega
        go_enter Try.func34, Try.ntmps34
        go_wp2
        go_ret
        exact ⟨rfl, rfl⟩
  · cases b
    · have e : regB a n false = false := decide_eq_false (by rintro (h | h); exact h1 h.1; exact absurd h.1 (by decide))
      rw [e]
      clear e
      go_enter Try.func34, Try.ntmps34
      go_wp2
      go_ret
      exact ⟨rfl, rfl⟩
    · by_cases h3 : a = -1
      · subst h3
        have e : regB (-1) n true = true := decide_eq_true (.inr ⟨rfl, rfl⟩)
        rw [e]
        clear e
        go_enter Try.func34, Try.ntmps34
        go_wp2
        go_ret
        exact ⟨rfl, rfl⟩
      · have e : regB a n true = false := decide_eq_false (by rintro (h | h); exact h1 h.1; exact h3 h.2)
        rw [e]
        clear e
        have q : (a == -1) = false := by rw [beq_eq_false_iff_ne]; exact h3
        go_enter Try.func34, Try.ntmps34
        go_wp2
        go_ret
        exact ⟨rfl, rfl⟩
def Says (P : Prop) (w : World) (e : Ending) (w' : World) : Prop := ∃ b : Bool, e = .returned (.bool b) ∧ (b = true → P) ∧ Below w.heap.size w w'
theorem Says.no {P : Prop} {w w' : World} (h : Below w.heap.size w w') : Says P w (.returned (.bool false)) w' := ⟨false, rfl, (fun h => by cases h), h⟩
theorem fnat_calls (AG : Option Addr) (cG : Nat) (GS : List S57) (AF : Option Addr) (cF : Nat) (F : List S47) (n : ByteArray) (w : World) (hG : Kd.C k57 w AG GS.length GS) (hcG : GS.length ≤ cG) (hF : Kd.C k47 w AF F.length F) (hcF : F.length ≤ cF) (hl : F.length ≤ 1000000) :
    Calls Try.prog 21 #[.agg #[.slice AG GS.length cG, .slice AF F.length cF], .string n] w fun e w' => e = .returned (.int .i64 (posOf (fnAt F n) F.length)) ∧ Below w.heap.size w w' := by
  obtain ⟨k, hk⟩ := (fnAt_ev GS F n hl).rounds
  exact brazierref12_FnAt.calls k AG cG GS AF cF F n _ w hG hcG hF hcF hk
theorem glat_calls (AG : Option Addr) (cG : Nat) (GS : List S57) (AF : Option Addr) (cF : Nat) (F : List S47) (n : ByteArray) (w : World) (hG : Kd.C k57 w AG GS.length GS) (hcG : GS.length ≤ cG) (hF : Kd.C k47 w AF F.length F) (hcF : F.length ≤ cF) (hl : GS.length ≤ 1000000) :
    Calls Try.prog 20 #[.agg #[.slice AG GS.length cG, .slice AF F.length cF], .string n] w fun e w' => e = .returned (.int .i64 (posOf (glAt GS n) GS.length)) ∧ Below w.heap.size w w' := by
  obtain ⟨k, hk⟩ := (glAt_ev GS F n hl).rounds
  exact brazierref12_GlobalAt.calls k AG cG GS AF cF F n _ w hG hcG hF hcF hk
end Go.Proofs.Ytabkinlpbefjgaa.L

namespace Go.Proofs.Ytabkinlpbefjgaa.L
open Go.RowKit Go.Proofs.Ytabkinlpbefjgaa.X Go.Proofs.YtabkinlpbefjgaaW.PrintWords Go.Proofs.YtabkinlpbefjgaaW.PrintLast Go.Proofs.YtabkinlpbefjgaaW.PrintMore
attribute [local go_sem] max2_int min2_int max_two min_two max_three min_three max_four min_four   -- for this text's walks alone
set_option linter.unusedVariables false
set_option linter.unusedSimpArgs false
open Go.Proofs.Ytabkinlpbefjgaa.Pure
theorem nxt {k n : Nat} (h : k < n) (hm : n ≤ 9223372036854775807) : Value.int .i64 (wrap64 ((k : Int) + 1)) = .int .i64 ((k + 1 : Nat) : Int) := by rw [w64 (by omega) (by omega)]; rfl
theorem fill5 {W : World} {g : Nat} {t : TypeId} {a0 a1 a2 a3 a4 u0 u1 u2 u3 u4 : Value} (h : W.heap[g]? = some (.cells #[a0, a1, a2, a3, a4] t (0, 0))) : (((((W.setCell ⟨g, 0, none⟩ u0).setCell ⟨g, 1, none⟩ u1).setCell ⟨g, 2, none⟩ u2).setCell ⟨g, 3, none⟩ u3).setCell ⟨g, 4, none⟩ u4).heap[g]? = some (.cells #[u0, u1, u2, u3, u4] t (0, 0)) := by
  have h0 : (W.setCell ⟨g, 0, none⟩ u0).heap[g]? = some (.cells #[u0, a1, a2, a3, a4] t (0, 0)) := blk_put h 0 u0 rfl
  have h1 : ((W.setCell ⟨g, 0, none⟩ u0).setCell ⟨g, 1, none⟩ u1).heap[g]? = some (.cells #[u0, u1, a2, a3, a4] t (0, 0)) := blk_put h0 1 u1 rfl
  have h2 : (((W.setCell ⟨g, 0, none⟩ u0).setCell ⟨g, 1, none⟩ u1).setCell ⟨g, 2, none⟩ u2).heap[g]? = some (.cells #[u0, u1, u2, a3, a4] t (0, 0)) := blk_put h1 2 u2 rfl
  have h3 : ((((W.setCell ⟨g, 0, none⟩ u0).setCell ⟨g, 1, none⟩ u1).setCell ⟨g, 2, none⟩ u2).setCell ⟨g, 3, none⟩ u3).heap[g]? = some (.cells #[u0, u1, u2, u3, a4] t (0, 0)) := blk_put h2 3 u3 rfl
  have h4 : (((((W.setCell ⟨g, 0, none⟩ u0).setCell ⟨g, 1, none⟩ u1).setCell ⟨g, 2, none⟩ u2).setCell ⟨g, 3, none⟩ u3).setCell ⟨g, 4, none⟩ u4).heap[g]? = some (.cells #[u0, u1, u2, u3, u4] t (0, 0)) := blk_put h3 4 u4 rfl
  exact h4
theorem fillB5 {B : Nat} {w0 W : World} {g : Nat} {u0 u1 u2 u3 u4 : Value} (hB : Below B w0 W) (hg : B ≤ g) : Below B w0 (((((W.setCell ⟨g, 0, none⟩ u0).setCell ⟨g, 1, none⟩ u1).setCell ⟨g, 2, none⟩ u2).setCell ⟨g, 3, none⟩ u3).setCell ⟨g, 4, none⟩ u4) := (Below.setCell (Below.setCell (Below.setCell (Below.setCell (Below.setCell hB (p := ⟨g, 0, none⟩) hg u0) (p := ⟨g, 1, none⟩) hg u1) (p := ⟨g, 2, none⟩) hg u2) (p := ⟨g, 3, none⟩) hg u3) (p := ⟨g, 4, none⟩) hg u4)
theorem fill8 {W : World} {g : Nat} {t : TypeId} {a0 a1 a2 a3 a4 a5 a6 a7 u0 u1 u2 u3 u4 u5 u6 u7 : Value} (h : W.heap[g]? = some (.cells #[a0, a1, a2, a3, a4, a5, a6, a7] t (0, 0))) : ((((((((W.setCell ⟨g, 0, none⟩ u0).setCell ⟨g, 1, none⟩ u1).setCell ⟨g, 2, none⟩ u2).setCell ⟨g, 3, none⟩ u3).setCell ⟨g, 4, none⟩ u4).setCell ⟨g, 5, none⟩ u5).setCell ⟨g, 6, none⟩ u6).setCell ⟨g, 7, none⟩ u7).heap[g]? = some (.cells #[u0, u1, u2, u3, u4, u5, u6, u7] t (0, 0)) := by
  have h0 : (W.setCell ⟨g, 0, none⟩ u0).heap[g]? = some (.cells #[u0, a1, a2, a3, a4, a5, a6, a7] t (0, 0)) := blk_put h 0 u0 rfl
  have h1 : ((W.setCell ⟨g, 0, none⟩ u0).setCell ⟨g, 1, none⟩ u1).heap[g]? = some (.cells #[u0, u1, a2, a3, a4, a5, a6, a7] t (0, 0)) := blk_put h0 1 u1 rfl
  have h2 : (((W.setCell ⟨g, 0, none⟩ u0).setCell ⟨g, 1, none⟩ u1).setCell ⟨g, 2, none⟩ u2).heap[g]? = some (.cells #[u0, u1, u2, a3, a4, a5, a6, a7] t (0, 0)) := blk_put h1 2 u2 rfl
  have h3 : ((((W.setCell ⟨g, 0, none⟩ u0).setCell ⟨g, 1, none⟩ u1).setCell ⟨g, 2, none⟩ u2).setCell ⟨g, 3, none⟩ u3).heap[g]? = some (.cells #[u0, u1, u2, u3, a4, a5, a6, a7] t (0, 0)) := blk_put h2 3 u3 rfl
  have h4 : (((((W.setCell ⟨g, 0, none⟩ u0).setCell ⟨g, 1, none⟩ u1).setCell ⟨g, 2, none⟩ u2).setCell ⟨g, 3, none⟩ u3).setCell ⟨g, 4, none⟩ u4).heap[g]? = some (.cells #[u0, u1, u2, u3, u4, a5, a6, a7] t (0, 0)) := blk_put h3 4 u4 rfl
  have h5 : ((((((W.setCell ⟨g, 0, none⟩ u0).setCell ⟨g, 1, none⟩ u1).setCell ⟨g, 2, none⟩ u2).setCell ⟨g, 3, none⟩ u3).setCell ⟨g, 4, none⟩ u4).setCell ⟨g, 5, none⟩ u5).heap[g]? = some (.cells #[u0, u1, u2, u3, u4, u5, a6, a7] t (0, 0)) := blk_put h4 5 u5 rfl
  have h6 : (((((((W.setCell ⟨g, 0, none⟩ u0).setCell ⟨g, 1, none⟩ u1).setCell ⟨g, 2, none⟩ u2).setCell ⟨g, 3, none⟩ u3).setCell ⟨g, 4, none⟩ u4).setCell ⟨g, 5, none⟩ u5).setCell ⟨g, 6, none⟩ u6).heap[g]? = some (.cells #[u0, u1, u2, u3, u4, u5, u6, a7] t (0, 0)) := blk_put h5 6 u6 rfl
  have h7 : ((((((((W.setCell ⟨g, 0, none⟩ u0).setCell ⟨g, 1, none⟩ u1).setCell ⟨g, 2, none⟩ u2).setCell ⟨g, 3, none⟩ u3).setCell ⟨g, 4, none⟩ u4).setCell ⟨g, 5, none⟩ u5).setCell ⟨g, 6, none⟩ u6).setCell ⟨g, 7, none⟩ u7).heap[g]? = some (.cells #[u0, u1, u2, u3, u4, u5, u6, u7] t (0, 0)) := blk_put h6 7 u7 rfl
  exact h7
theorem fillB8 {B : Nat} {w0 W : World} {g : Nat} {u0 u1 u2 u3 u4 u5 u6 u7 : Value} (hB : Below B w0 W) (hg : B ≤ g) : Below B w0 ((((((((W.setCell ⟨g, 0, none⟩ u0).setCell ⟨g, 1, none⟩ u1).setCell ⟨g, 2, none⟩ u2).setCell ⟨g, 3, none⟩ u3).setCell ⟨g, 4, none⟩ u4).setCell ⟨g, 5, none⟩ u5).setCell ⟨g, 6, none⟩ u6).setCell ⟨g, 7, none⟩ u7) := (Below.setCell (Below.setCell (Below.setCell (Below.setCell (Below.setCell (Below.setCell (Below.setCell (Below.setCell hB (p := ⟨g, 0, none⟩) hg u0) (p := ⟨g, 1, none⟩) hg u1) (p := ⟨g, 2, none⟩) hg u2) (p := ⟨g, 3, none⟩) hg u3) (p := ⟨g, 4, none⟩) hg u4) (p := ⟨g, 5, none⟩) hg u5) (p := ⟨g, 6, none⟩) hg u6) (p := ⟨g, 7, none⟩) hg u7)
end Go.Proofs.Ytabkinlpbefjgaa.L

namespace Go.Proofs.Ytabkinlpbefjgaa.L
open Go.RowKit Go.Proofs.Ytabkinlpbefjgaa.X Go.Proofs.YtabkinlpbefjgaaW.PrintWords Go.Proofs.YtabkinlpbefjgaaW.PrintLast Go.Proofs.YtabkinlpbefjgaaW.PrintMore
attribute [local go_sem] max2_int min2_int max_two min_two max_three min_three max_four min_four   -- for this text's walks alone
set_option linter.unusedVariables false
set_option linter.unusedSimpArgs false
open Go.Proofs.Ytabkinlpbefjgaa.Pure
theorem carry {w w1 : World} (h : Below w.heap.size w w1) {a : Addr} {v : Value} (hc : w.cell? a = some v) : w1.cell? a = some v := (h.cell (World.block_lt_of_cell? w _ hc)).trans hc
theorem posOf_lt {n len : Nat} (h : n < len) : posOf n len = (n : Int) := if_pos h
theorem posOf_ge {n len : Nat} (h : len ≤ n) : posOf n len = -1 := if_neg (by omega)
theorem fill2 {W : World} {g : Nat} {t : TypeId} {a0 a1 u0 u1 : Value} (h : W.heap[g]? = some (.cells #[a0, a1] t (0, 0))) : ((W.setCell ⟨g, 0, none⟩ u0).setCell ⟨g, 1, none⟩ u1).heap[g]? = some (.cells #[u0, u1] t (0, 0)) := by
  have h0 : (W.setCell ⟨g, 0, none⟩ u0).heap[g]? = some (.cells #[u0, a1] t (0, 0)) := blk_put h 0 u0 rfl
  have h1 : ((W.setCell ⟨g, 0, none⟩ u0).setCell ⟨g, 1, none⟩ u1).heap[g]? = some (.cells #[u0, u1] t (0, 0)) := blk_put h0 1 u1 rfl
  exact h1
theorem fillB2 {B : Nat} {w0 W : World} {g : Nat} {u0 u1 : Value} (hB : Below B w0 W) (hg : B ≤ g) : Below B w0 ((W.setCell ⟨g, 0, none⟩ u0).setCell ⟨g, 1, none⟩ u1) := (Below.setCell (Below.setCell hB (p := ⟨g, 0, none⟩) hg u0) (p := ⟨g, 1, none⟩) hg u1)
theorem fill4 {W : World} {g : Nat} {t : TypeId} {a0 a1 a2 a3 u0 u1 u2 u3 : Value} (h : W.heap[g]? = some (.cells #[a0, a1, a2, a3] t (0, 0))) : ((((W.setCell ⟨g, 0, none⟩ u0).setCell ⟨g, 1, none⟩ u1).setCell ⟨g, 2, none⟩ u2).setCell ⟨g, 3, none⟩ u3).heap[g]? = some (.cells #[u0, u1, u2, u3] t (0, 0)) := by
  have h0 : (W.setCell ⟨g, 0, none⟩ u0).heap[g]? = some (.cells #[u0, a1, a2, a3] t (0, 0)) := blk_put h 0 u0 rfl
  have h1 : ((W.setCell ⟨g, 0, none⟩ u0).setCell ⟨g, 1, none⟩ u1).heap[g]? = some (.cells #[u0, u1, a2, a3] t (0, 0)) := blk_put h0 1 u1 rfl
  have h2 : (((W.setCell ⟨g, 0, none⟩ u0).setCell ⟨g, 1, none⟩ u1).setCell ⟨g, 2, none⟩ u2).heap[g]? = some (.cells #[u0, u1, u2, a3] t (0, 0)) := blk_put h1 2 u2 rfl
  have h3 : ((((W.setCell ⟨g, 0, none⟩ u0).setCell ⟨g, 1, none⟩ u1).setCell ⟨g, 2, none⟩ u2).setCell ⟨g, 3, none⟩ u3).heap[g]? = some (.cells #[u0, u1, u2, u3] t (0, 0)) := blk_put h2 3 u3 rfl
  exact h3
theorem fillB4 {B : Nat} {w0 W : World} {g : Nat} {u0 u1 u2 u3 : Value} (hB : Below B w0 W) (hg : B ≤ g) : Below B w0 ((((W.setCell ⟨g, 0, none⟩ u0).setCell ⟨g, 1, none⟩ u1).setCell ⟨g, 2, none⟩ u2).setCell ⟨g, 3, none⟩ u3) := (Below.setCell (Below.setCell (Below.setCell (Below.setCell hB (p := ⟨g, 0, none⟩) hg u0) (p := ⟨g, 1, none⟩) hg u1) (p := ⟨g, 2, none⟩) hg u2) (p := ⟨g, 3, none⟩) hg u3)
end Go.Proofs.Ytabkinlpbefjgaa.L

namespace Go.Proofs.Ytabkinlpbefjgaa.L
open Go.RowKit Go.Proofs.Ytabkinlpbefjgaa.X Go.Proofs.YtabkinlpbefjgaaW.PrintWords Go.Proofs.YtabkinlpbefjgaaW.PrintLast Go.Proofs.YtabkinlpbefjgaaW.PrintMore
attribute [local go_sem] max2_int min2_int max_two min_two max_three min_three max_four min_four   -- for this text's walks alone
set_option linter.unusedVariables false
set_option linter.unusedSimpArgs false
open Go.Proofs.Ytabkinlpbefjgaa.Pure
end Go.Proofs.Ytabkinlpbefjgaa.L

namespace Go.Proofs.Ytabkinlpbefjgaa.L
open Go.RowKit Go.Proofs.Ytabkinlpbefjgaa.X Go.Proofs.YtabkinlpbefjgaaW.PrintWords Go.Proofs.YtabkinlpbefjgaaW.PrintLast Go.Proofs.YtabkinlpbefjgaaW.PrintMore
attribute [local go_sem] max2_int min2_int max_two min_two max_three min_three max_four min_four   -- for this text's walks alone
set_option linter.unusedVariables false
set_option linter.unusedSimpArgs false
open Go.Proofs.Ytabkinlpbefjgaa.Pure
end Go.Proofs.Ytabkinlpbefjgaa.L

namespace Go.Proofs.Ytabkinlpbefjgaa.L
open Go.RowKit Go.Proofs.Ytabkinlpbefjgaa.X Go.Proofs.YtabkinlpbefjgaaW.PrintWords Go.Proofs.YtabkinlpbefjgaaW.PrintLast Go.Proofs.YtabkinlpbefjgaaW.PrintMore
attribute [local go_sem] max2_int min2_int max_two min_two max_three min_three max_four min_four   -- for this text's walks alone
set_option linter.unusedVariables false
set_option linter.unusedSimpArgs false
open Go.Proofs.Ytabkinlpbefjgaa.Pure
def RowsK {α : Type} (d : Kd α) (w : World) : List α → List (List Value) → Prop
  | [], [] => True
  | x :: xs, c :: cs => d.K w x c ∧ RowsK d w xs cs
  | _, _ => False
theorem rows_at {α : Type} {d : Kd α} {w : World} {g : Nat} : ∀ (xs : List α) (css : List (List Value)) (o : Nat), RowsK d w xs css → (∀ i u, css.flatten[i]? = some u → w.cell? ⟨g, o + i, none⟩ = some u) →
    ∀ j x, xs[j]? = some x → ∃ c, c.length = d.sz ∧ d.K w x c ∧ ∀ i u, c[i]? = some u → w.cell? ⟨g, o + (j * d.sz + i), none⟩ = some u
  | [], _, _, _, _, j, x, h => by simp at h
  | y :: xs, [], _, h, _, _, _, _ => h.elim
  | y :: xs, c :: cs, o, h, hc, j, x, hj => by
    have hlen := d.K_len h.1
    cases j with
    | zero =>
      have e : y = x := by simpa using hj
      subst e
      refine ⟨c, hlen, h.1, fun i u hu => ?_⟩
      have hi := (List.getElem?_eq_some_iff.1 hu).1
      have h2 := hc i u (by rw [List.flatten_cons, List.getElem?_append_left hi]; exact hu)
      rw [Nat.zero_mul, Nat.zero_add]
      exact h2
    | succ j =>
      have ih := rows_at xs cs (o + d.sz) h.2 (fun i u hu => by
        have h2 := hc (d.sz + i) u (by rw [List.flatten_cons, List.getElem?_append_right (by omega)]; rw [hlen, Nat.add_sub_cancel_left]; exact hu)
        rw [Nat.add_assoc]; exact h2) j x (by simpa using hj)
      obtain ⟨c2, h1, h2, h3⟩ := ih
      refine ⟨c2, h1, h2, fun i u hu => ?_⟩
      have := h3 i u hu
      rw [show o + ((j + 1) * d.sz + i) = o + d.sz + (j * d.sz + i) by rw [Nat.succ_mul]; omega]
      exact this
theorem C_block {α : Type} {d : Kd α} {w : World} {g : Nat} {t : TypeId} {cs : Array Value} (hb : w.heap[g]? = some (.cells cs t (0, 0))) (xs : List α) (css : List (List Value)) (hn : xs.length ≤ 9223372036854775807) (hr : RowsK d w xs css) (hc : css.flatten = cs.toList) : d.C w (some ⟨g, 0, none⟩) xs.length xs := by
  refine ⟨rfl, hn, fun _ => ⟨_, rfl, fun j x hx => ?_⟩⟩
  obtain ⟨c, h1, h2, h3⟩ := rows_at (g := g) xs css 0 hr (fun i u hu => by
    rw [Nat.zero_add, blk_cell hb i, ← Array.getElem?_toList, ← hc]; exact hu) j x hx
  exact ⟨c, h1, h2, fun i u hu => by rw [add_plain]; have := h3 i u hu; rw [Nat.zero_add] at this; exact this⟩
def x8 : S44 := ⟨8, 0, 0, -1, -1, 0, ⟨#[]⟩, []⟩
def x9 : S44 := ⟨9, 0, -1, 0, -1, 0, ⟨#[]⟩, []⟩
def bL : S41 := ⟨[x8, x9], 3, 0, 0, 0⟩
def fL : S47 := ⟨mainB, 0, 1, [bL]⟩
theorem lives_row (w : World) (a b c : Nat) (ha : w.heap[a]? = some (.cells #[.int .i64 8, .int .i64 0, .int .i64 0, .int .i64 (-1), .int .i64 (-1), .int .i32 0, .string ⟨#[]⟩, .slice none 0 0, .int .i64 9, .int .i64 0, .int .i64 (-1), .int .i64 0, .int .i64 (-1), .int .i32 0, .string ⟨#[]⟩, .slice none 0 0] 44 (0, 0)))
    (hb : w.heap[b]? = some (.cells #[.slice (some ⟨a, 0, none⟩) 2 2, .int .i64 3, .int .i64 0, .int .i64 0, .int .i64 0] 41 (0, 0)))
    (hc : w.heap[c]? = some (.cells #[.string ⟨#[109, 97, 105, 110]⟩, .int .i64 0, .int .i64 1, .slice (some ⟨b, 0, none⟩) 1 1] 47 (0, 0))) : Kd.C k47 w (some ⟨c, 0, none⟩) [fL].length [fL] := by
  have r44 : Kd.C k44 w (some ⟨a, 0, none⟩) [x8, x9].length [x8, x9] := C_block ha [x8, x9] [[.int .i64 8, .int .i64 0, .int .i64 0, .int .i64 (-1), .int .i64 (-1), .int .i32 0, .string ⟨#[]⟩, .slice none 0 0], [.int .i64 9, .int .i64 0, .int .i64 (-1), .int .i64 0, .int .i64 (-1), .int .i32 0, .string ⟨#[]⟩, .slice none 0 0]] (by decide)
    ⟨k44_mk w x8 (Nat.le_refl 0) (Kd.C_nil _ w), k44_mk w x9 (Nat.le_refl 0) (Kd.C_nil _ w), trivial⟩ rfl
  have r41 : Kd.C k41 w (some ⟨b, 0, none⟩) [bL].length [bL] := C_block hb [bL] [[.slice (some ⟨a, 0, none⟩) 2 2, .int .i64 3, .int .i64 0, .int .i64 0, .int .i64 0]] (by decide) ⟨k41_mk w bL (Nat.le_refl 2) r44, trivial⟩ rfl
  exact C_block hc [fL] [[.string ⟨#[109, 97, 105, 110]⟩, .int .i64 0, .int .i64 1, .slice (some ⟨b, 0, none⟩) 1 1]] (by decide) ⟨k47_mk w fL (Nat.le_refl 1) r41, trivial⟩ rfl
theorem fnAt_fL : fnAt [fL] mainB = 0 := by
  unfold fnAt
  simp [List.findIdx_cons, fL]
theorem ok_fL : OkMid [fL] [] := by
  refine ⟨fun f hf => ?_, fun k hk => ?_, fun k hk => absurd hk (Nat.not_lt_zero _), (fun g hg => by cases hg), ?_, ?_, by decide⟩
  · obtain rfl : f = fL := by simpa using hf
    refine ⟨fun b hb => ?_, by decide, by decide, by decide, by decide⟩
    obtain rfl : b = bL := by simpa [fL] using hb
    refine ⟨fun x hx => ?_, by decide, by decide, by decide, by decide, by decide⟩
    have hx2 : x = x8 ∨ x = x9 := by simpa [bL] using hx
    rcases hx2 with rfl | rfl
    · exact ⟨by decide, by decide, by decide, by decide, fun h => absurd h (by decide), by decide, by constructor <;> decide, fun h => absurd h (by decide)⟩
    · exact ⟨by decide, by decide, by decide, by decide, fun h => absurd h (by decide), by decide, by constructor <;> decide, fun h => absurd h (by decide)⟩
  · obtain rfl : k = 0 := by simpa using hk
    exact fnAt_fL
  · rw [fnAt_fL]; decide
  · rw [fnAt_fL]; rfl
theorem lives_run : ∃ G, runT [fL] [] [5] 100 = .fin 1 5 G ∧ G.tr = [5] ∧ G.st = 3 ∧ G.rd = 1 := by
  unfold runT
  have h : newFr [fL] mainB [] (-1) = ⟨0, [0], 0, 0, -1⟩ := by
    unfold newFr
    rw [fnAt_fL]
    rfl
  rw [h]
  exact ⟨_, rfl, rfl, rfl, rfl⟩
end Go.Proofs.Ytabkinlpbefjgaa.L

namespace Go.Proofs.Ytabkinlpbefjgaa.L
open Go.RowKit Go.Proofs.Ytabkinlpbefjgaa.X Go.Proofs.YtabkinlpbefjgaaW.PrintWords Go.Proofs.YtabkinlpbefjgaaW.PrintLast Go.Proofs.YtabkinlpbefjgaaW.PrintMore
attribute [local go_sem] max2_int min2_int max_two min_two max_three min_three max_four min_four   -- for this text's walks alone
set_option linter.unusedVariables false
set_option linter.unusedSimpArgs false
open Go.Proofs.Ytabkinlpbefjgaa.Pure
def xN : S44 := ⟨1, 0, 1, -1, -1, 1, ⟨#[]⟩, []⟩
def xS : S44 := ⟨4, 2, 0, 0, 1, 0, ⟨#[]⟩, []⟩
def xCf : S44 := ⟨7, 0, 2, -1, -1, 0, ⟨#[102]⟩, [0]⟩
def xA : S44 := ⟨4, 1, 1, 1, 2, 0, ⟨#[]⟩, []⟩
def xM : S44 := ⟨7, 0, 0, -1, -1, 0, ⟨#[102]⟩, [0]⟩
def bD0 : S41 := ⟨[], 2, 0, 1, 2⟩
def bD1 : S41 := ⟨[xN, xS, xCf, xA], 3, 1, 0, 0⟩
def bD2 : S41 := ⟨[], 3, 0, 0, 0⟩
def bDm : S41 := ⟨[x8, xM], 3, 0, 0, 0⟩
def fD : S47 := ⟨⟨#[102]⟩, 1, 3, [bD0, bD1, bD2]⟩
def mD : S47 := ⟨mainB, 0, 1, [bDm]⟩
theorem fnAt_f : fnAt [fD, mD] ⟨#[102]⟩ = 0 := by
  unfold fnAt
  simp [List.findIdx_cons, fD]
theorem f_ne : (((⟨#[102]⟩ : ByteArray).toList == mainB.toList) = false) := by
  rw [ByteArray.toList_eq, ByteArray.toList_eq]
  rfl
theorem fnAt_m : fnAt [fD, mD] mainB = 1 := by
  unfold fnAt
  rw [List.findIdx_cons, show (fD.f0.toList == mainB.toList) = false from f_ne]
  simp [List.findIdx_cons, mD]
theorem ok_D : OkMid [fD, mD] [] := by
  refine ⟨fun f hf => ?_, fun k hk => ?_, fun k hk => absurd hk (Nat.not_lt_zero _), (fun g hg => by cases hg), ?_, ?_, by decide⟩
  · have hf2 : f = fD ∨ f = mD := by simpa using hf
    rcases hf2 with rfl | rfl
    · refine ⟨fun b hb => ?_, by decide, by decide, by decide, by decide⟩
      have hb2 : b = bD0 ∨ b = bD1 ∨ b = bD2 := by simpa [fD] using hb
      rcases hb2 with rfl | rfl | rfl
      · exact ⟨fun x hx => (by cases hx), by decide, by decide, by decide, by decide, by decide⟩
      · refine ⟨fun x hx => ?_, by decide, by decide, by decide, by decide, by decide⟩
        have hx2 : x = xN ∨ x = xS ∨ x = xCf ∨ x = xA := by simpa [bD1] using hx
        rcases hx2 with rfl | rfl | rfl | rfl
        · exact ⟨by decide, by decide, by decide, by decide, fun h => absurd h (by decide), by decide, by constructor <;> decide, fun h => absurd h (by decide)⟩
        · exact ⟨by decide, by decide, by decide, by decide, fun h => absurd h (by decide), by decide, by constructor <;> decide, fun h => absurd h (by decide)⟩
        · exact ⟨by decide, by decide, by decide, by decide, fun h => absurd h (by decide), by decide, by constructor <;> decide, fun h => ⟨by decide, by decide, by rw [show xCf.f6 = ⟨#[102]⟩ from rfl, fnAt_f]; decide, by rw [show xCf.f6 = ⟨#[102]⟩ from rfl, fnAt_f]; rfl⟩⟩
        · exact ⟨by decide, by decide, by decide, by decide, fun h => absurd h (by decide), by decide, by constructor <;> decide, fun h => absurd h (by decide)⟩
      · exact ⟨fun x hx => (by cases hx), by decide, by decide, by decide, by decide, by decide⟩
    · refine ⟨fun b hb => ?_, by decide, by decide, by decide, by decide⟩
      obtain rfl : b = bDm := by simpa [mD] using hb
      refine ⟨fun x hx => ?_, by decide, by decide, by decide, by decide, by decide⟩
      have hx2 : x = x8 ∨ x = xM := by simpa [bDm] using hx
      rcases hx2 with rfl | rfl
      · exact ⟨by decide, by decide, by decide, by decide, fun h => absurd h (by decide), by decide, by constructor <;> decide, fun h => absurd h (by decide)⟩
      · exact ⟨by decide, by decide, by decide, by decide, fun h => absurd h (by decide), by decide, by constructor <;> decide, fun h => ⟨by decide, by decide, by rw [show xM.f6 = ⟨#[102]⟩ from rfl, fnAt_f]; decide, by rw [show xM.f6 = ⟨#[102]⟩ from rfl, fnAt_f]; rfl⟩⟩
  · have hk2 : k = 0 ∨ k = 1 := by
      have : k < 2 := hk
      omega
    rcases hk2 with rfl | rfl
    · exact fnAt_f
    · exact fnAt_m
  · rw [fnAt_m]; decide
  · rw [fnAt_m]; rfl
def FD : List S47 := [fD, mD]
def frD (k d : Int) : Fr := ⟨0, [k, 0, 0], 0, 0, d⟩
def pnD (k d : Int) : Fr := ⟨0, [k, 1, 0], 1, 3, d⟩
def Gl.up (G : Gl) (n : Nat) : Gl := { G with st := G.st + n }
theorem new_f (k d : Int) : newFr FD ⟨#[102]⟩ [k] d = frD k d := by
  unfold newFr FD
  rw [fnAt_f]
  rfl
theorem nx_of {F : List S47} {GS : List S57} {inp : List Int} {fr : Fr} {q : List Fr} {G : Gl} : nxS F GS inp (fr :: q) G = match (blkOf F fr).f0[fr.ins]? with
  | some x => (match insF GS inp x fr.regs G.tick with
    | .go regs G2 => .go (fr.on regs :: q) G2
    | .stop e => .fin e 0 G.tick
    | .call args => if 31 ≤ q.length then .fin 4 0 G.tick else .go (newFr F x.f6 args x.f2 :: fr.on fr.regs :: q) G.tick)
  | none =>
    if (blkOf F fr).f1 = 1 then .go (fr.jump (blkOf F fr).f3 :: q) G.tick
    else if (blkOf F fr).f1 = 2 then .go (fr.jump (if get32 fr.regs (blkOf F fr).f2 = 0 then (blkOf F fr).f4 else (blkOf F fr).f3) :: q) G.tick
    else leaveS (get32 fr.regs (blkOf F fr).f2) fr.d G.tick q := by
  show stepC F GS inp ((G.st : Int) + 1) fr q G = _
  unfold stepC
  rw [if_neg (show ¬ (G.st : Int) + 1 ≤ (G.st : Int) by omega)]
  rfl
theorem d_branch (inp : List Int) (k d : Int) (q : List Fr) (G : Gl) : nxS FD [] inp (frD k d :: q) G = .go (⟨0, [k, 0, 0], if k = 0 then 2 else 1, 0, d⟩ :: q) (G.up 1) := by
  rw [nx_of]
  by_cases h : k = 0
  · subst h; rfl
  · have e : (if get32 (frD k d).regs (blkOf FD (frD k d)).f2 = 0 then (blkOf FD (frD k d)).f4 else (blkOf FD (frD k d)).f3) = 1 := if_neg h
    show SR.go ((frD k d).jump (if get32 (frD k d).regs (blkOf FD (frD k d)).f2 = 0 then (blkOf FD (frD k d)).f4 else (blkOf FD (frD k d)).f3) :: q) G.tick = _
    rw [e, if_neg h]
    rfl
theorem d_num (inp : List Int) (k d : Int) (q : List Fr) (G : Gl) : nxS FD [] inp (⟨0, [k, 0, 0], 1, 0, d⟩ :: q) G = .go (⟨0, [k, 1, 0], 1, 1, d⟩ :: q) (G.up 1) := by
  rw [nx_of]; rfl
theorem d_sub (inp : List Int) (k d : Int) (q : List Fr) (G : Gl) (h0 : -2147483647 ≤ k) (h1 : k ≤ 2147483647) : nxS FD [] inp (⟨0, [k, 1, 0], 1, 1, d⟩ :: q) G = .go (⟨0, [k - 1, 1, 0], 1, 2, d⟩ :: q) (G.up 1) := by
  rw [nx_of]
  have e : binV 2 k 1 = (k - 1, true) := by
    show (wrap32 (k - 1), true) = _
    rw [w32 (by omega) (by omega)]
  show (match (if (binV 2 k 1).2 = true then IR.go (put32 [k, 1, 0] 0 (binV 2 k 1).1) G.tick else .stop 2) with
    | .go regs G2 => SR.go ((⟨0, [k, 1, 0], 1, 1, d⟩ : Fr).on regs :: q) G2
    | .stop e => .fin e 0 G.tick
    | .call args => if 31 ≤ q.length then .fin 4 0 G.tick else .go (newFr FD xS.f6 args xS.f2 :: (⟨0, [k, 1, 0], 1, 1, d⟩ : Fr).on [k, 1, 0] :: q) G.tick) = _
  rw [e]
  rfl
theorem d_call (inp : List Int) (k d : Int) (q : List Fr) (G : Gl) : nxS FD [] inp (⟨0, [k, 1, 0], 1, 2, d⟩ :: q) G = if 31 ≤ q.length then .fin 4 0 (G.up 1) else .go (frD k 2 :: pnD k d :: q) (G.up 1) := by
  rw [nx_of]
  show (if 31 ≤ q.length then SR.fin 4 0 G.tick else .go (newFr FD ⟨#[102]⟩ [k] 2 :: pnD k d :: q) G.tick) = _
  rw [new_f]
  rfl
theorem d_add (inp : List Int) (k v d : Int) (q : List Fr) (G : Gl) (h0 : -2147483648 ≤ 1 + v) (h1 : 1 + v ≤ 2147483647) : nxS FD [] inp (⟨0, [k, 1, v], 1, 3, d⟩ :: q) G = .go (⟨0, [k, 1 + v, v], 1, 4, d⟩ :: q) (G.up 1) := by
  rw [nx_of]
  have e : binV 1 1 v = (1 + v, true) := by
    show (wrap32 (1 + v), true) = _
    rw [w32 (by omega) (by omega)]
  show (match (if (binV 1 1 v).2 = true then IR.go (put32 [k, 1, v] 1 (binV 1 1 v).1) G.tick else .stop 2) with
    | .go regs G2 => SR.go ((⟨0, [k, 1, v], 1, 3, d⟩ : Fr).on regs :: q) G2
    | .stop e => .fin e 0 G.tick
    | .call args => if 31 ≤ q.length then .fin 4 0 G.tick else .go (newFr FD xA.f6 args xA.f2 :: (⟨0, [k, 1, v], 1, 3, d⟩ : Fr).on [k, 1, v] :: q) G.tick) = _
  rw [e]
  rfl
theorem d_ret1 (inp : List Int) (k u v d : Int) (q : List Fr) (G : Gl) : nxS FD [] inp (⟨0, [k, u, v], 1, 4, d⟩ :: q) G = leaveS u d (G.up 1) q := by
  rw [nx_of]; rfl
theorem d_ret2 (inp : List Int) (k u v d : Int) (q : List Fr) (G : Gl) : nxS FD [] inp (⟨0, [k, u, v], 2, 0, d⟩ :: q) G = leaveS k d (G.up 1) q := by
  rw [nx_of]; rfl
theorem up_up (G : Gl) (a b : Nat) : (G.up a).up b = G.up (a + b) := by unfold Gl.up; simp [Nat.add_assoc]
theorem runK_0 (F : List S47) (GS : List S57) (inp : List Int) (s : SR) : runK F GS inp 0 s = s := by cases s <;> rfl
theorem d_down (inp : List Int) (k d : Int) (q : List Fr) (G : Gl) (h0 : 0 < k) (h1 : k ≤ 2147483647) : runK FD [] inp 4 (.go (frD k d :: q) G) = if 31 ≤ q.length then .fin 4 0 (G.up 4) else .go (frD (k - 1) 2 :: pnD (k - 1) d :: q) (G.up 4) := by
  show runK FD [] inp 3 (nxS FD [] inp (frD k d :: q) G) = _
  rw [d_branch, if_neg (by omega)]
  show runK FD [] inp 2 (nxS FD [] inp (_ :: q) _) = _
  rw [d_num]
  show runK FD [] inp 1 (nxS FD [] inp (_ :: q) _) = _
  rw [d_sub _ _ _ _ _ (by omega) h1]
  show runK FD [] inp 0 (nxS FD [] inp (_ :: q) _) = _
  rw [runK_0, d_call, up_up, up_up, up_up]
theorem d_through (inp : List Int) : ∀ (k : Nat) (d : Int) (q : List Fr) (G : Gl), k ≤ 1000 → q.length + k ≤ 31 → runK FD [] inp (6 * k + 2) (.go (frD (k : Int) d :: q) G) = leaveS (k : Int) d (G.up (6 * k + 2)) q
  | 0, d, q, G, _, _ => by
    show runK FD [] inp 1 (nxS FD [] inp (frD 0 d :: q) G) = _
    rw [d_branch]
    show runK FD [] inp 0 (nxS FD [] inp (_ :: q) _) = _
    rw [runK_0, if_pos rfl, d_ret2, up_up]
    rfl
  | k + 1, d, q, G, h, hq => by
    rw [show 6 * (k + 1) + 2 = 4 + ((6 * k + 2) + 2) by omega, runK_add, d_down _ _ _ _ _ (by omega) (by omega), if_neg (by omega), runK_add, show ((k + 1 : Nat) : Int) - 1 = (k : Int) by omega]
    rw [d_through inp k 2 (pnD (k : Int) d :: q) (G.up 4) (by omega) (by simp only [List.length_cons]; omega)]
    show runK FD [] inp 1 (nxS FD [] inp (⟨0, [(k : Int), 1, (k : Int)], 1, 3, d⟩ :: q) _) = _
    rw [d_add _ _ _ _ _ _ (by omega) (by omega)]
    show runK FD [] inp 0 (nxS FD [] inp (_ :: q) _) = _
    rw [runK_0, d_ret1, up_up, up_up, up_up, show 1 + (k : Int) = ((k + 1 : Nat) : Int) by omega]
theorem d_deep (inp : List Int) : ∀ (k : Nat) (d : Int) (q : List Fr) (G : Gl), k ≤ 1000 → 31 < q.length + k → q.length ≤ 31 → ∃ m G2, m ≤ 4 * k ∧ runK FD [] inp m (.go (frD (k : Int) d :: q) G) = .fin 4 0 G2
  | 0, d, q, G, _, h, h2 => absurd h (by omega)
  | k + 1, d, q, G, h0, h, h2 => by
    by_cases h31 : 31 ≤ q.length
    · exact ⟨4, G.up 4, by omega, by rw [d_down _ _ _ _ _ (by omega) (by omega), if_pos h31]⟩
    · obtain ⟨m, G2, hm, hr⟩ := d_deep inp k 2 (pnD (k : Int) d :: q) (G.up 4) (by omega) (by simp only [List.length_cons]; omega) (by simp only [List.length_cons]; omega)
      refine ⟨4 + m, G2, by omega, ?_⟩
      rw [runK_add, d_down _ _ _ _ _ (by omega) (by omega), if_neg h31, show ((k + 1 : Nat) : Int) - 1 = (k : Int) by omega]
      exact hr
theorem m_read (k : Int) (G : Gl) (h : G.rd = 0) : nxS FD [] [k] [⟨1, [0], 0, 0, -1⟩] G = .go [⟨1, [k], 0, 1, -1⟩] { G with st := G.st + 1, rd := 1 } := by
  obtain ⟨a, b, c, r⟩ := G
  subst h
  rw [nx_of]; rfl
theorem m_call (k : Int) (G : Gl) : nxS FD [] [k] [⟨1, [k], 0, 1, -1⟩] G = .go [frD k 0, ⟨1, [k], 0, 2, -1⟩] (G.up 1) := by
  rw [nx_of]
  show (if 31 ≤ 0 then SR.fin 4 0 G.tick else .go (newFr FD ⟨#[102]⟩ [k] 0 :: _) G.tick) = _
  rw [new_f, if_neg (by decide)]
  rfl
theorem m_ret (k v : Int) (G : Gl) : nxS FD [] [k] [⟨1, [v], 0, 2, -1⟩] G = .fin 1 v (G.up 1) := by
  rw [nx_of]; rfl
theorem deep_run (k : Nat) (hk : k ≤ 37) : ∃ e v G, runT FD [] [(k : Int)] 10000 = .fin e v G ∧ (32 < k + 2 → e = 4) ∧ (¬ 32 < k + 2 → e = 1 ∧ v = (k : Int)) := by
  rw [runT_eq]
  have h0 : newFr FD mainB [] (-1) = ⟨1, [0], 0, 0, -1⟩ := by
    unfold newFr FD
    rw [fnAt_m]
    rfl
  have h1 : ∀ m : Nat, runK FD [] [(k : Int)] (2 + m) (.go [newFr FD mainB [] (-1)] (Gl.start [])) = runK FD [] [(k : Int)] m (.go [frD (k : Int) 0, ⟨1, [(k : Int)], 0, 2, -1⟩] ⟨[], [], 2, 1⟩) := fun m => by
    rw [runK_add, h0]
    congr 1
    show runK FD [] [(k : Int)] 1 (nxS FD [] [(k : Int)] [⟨1, [0], 0, 0, -1⟩] (Gl.start [])) = _
    rw [m_read _ _ rfl]
    show runK FD [] [(k : Int)] 0 (nxS FD [] [(k : Int)] [⟨1, [(k : Int)], 0, 1, -1⟩] _) = _
    rw [runK_0, m_call]
    rfl
  show ∃ e v G, endS (runK FD [] [(k : Int)] 10000 (.go [newFr FD mainB [] (-1)] (Gl.start []))) = .fin e v G ∧ _
  by_cases hd : 32 < k + 2
  · obtain ⟨m, G2, hm, hr⟩ := d_deep [(k : Int)] k 0 [⟨1, [(k : Int)], 0, 2, -1⟩] ⟨[], [], 2, 1⟩ (by omega) (by simp only [List.length_cons, List.length_nil]; omega) (by simp)
    refine ⟨4, 0, G2, ?_, fun _ => rfl, fun h => absurd hd h⟩
    rw [show 10000 = 2 + (m + (9998 - m)) by omega, h1, runK_add, hr, runK_fin]
    rfl
  · refine ⟨1, (k : Int), ((⟨[], [], 2, 1⟩ : Gl).up (6 * k + 2)).up 1, ?_, fun h => absurd h hd, fun _ => ⟨rfl, rfl⟩⟩
    rw [show 10000 = 2 + ((6 * k + 2) + (1 + (9998 - (6 * k + 3)))) by omega, h1, runK_add, d_through _ k 0 _ _ (by omega) (by simp only [List.length_cons, List.length_nil]; omega), runK_add]
    show endS (runK FD [] [(k : Int)] _ (runK FD [] [(k : Int)] 0 (nxS FD [] [(k : Int)] [⟨1, [(k : Int)], 0, 2, -1⟩] _))) = _
    rw [m_ret, runK_0, runK_fin]
    rfl
end Go.Proofs.Ytabkinlpbefjgaa.L

namespace Go.Proofs.Ytabkinlpbefjgaa.L
open Go.RowKit Go.Proofs.Ytabkinlpbefjgaa.X Go.Proofs.YtabkinlpbefjgaaW.PrintWords Go.Proofs.YtabkinlpbefjgaaW.PrintLast Go.Proofs.YtabkinlpbefjgaaW.PrintMore
attribute [local go_sem] max2_int min2_int max_two min_two max_three min_three max_four min_four   -- for this text's walks alone
set_option linter.unusedVariables false
set_option linter.unusedSimpArgs false
open Go.Proofs.Ytabkinlpbefjgaa.Pure
theorem isword_l (a : ByteArray) (ws : List ByteArray) (hw : ws.length ≤ 1000) (hn : ∀ w ∈ ws, ¬ w.data.toList = a.data.toList) : ∀ (d i : Nat), i + d = ws.length → Ev (fun k => brazierref07_IsWord.l0 k a ws (ws.length : Int) (i : Int)) false
  | 0, i, h => by
    refine Ev.step (f := fun _ => some false) (fun k => ?_) (Ev.now _)
    simp only [brazierref07_IsWord.l0]
    rw [if_neg (by omega)]
  | d + 1, i, h => by
    refine Ev.step (f := fun k => brazierref07_IsWord.l0 k a ws (ws.length : Int) ((i + 1 : Nat) : Int)) (fun k => ?_) (isword_l a ws hw hn d (i + 1) (by omega))
    simp only [brazierref07_IsWord.l0]
    have hi : i < ws.length := by omega
    have e : rdOf ByteArray.empty ws (i : Int) = ws[i] := by
      unfold rdOf
      rw [Int.toNat_natCast, List.getD_eq_getElem?_getD, List.getElem?_eq_getElem hi]; rfl
    rw [if_pos (by omega), if_pos (by omega), if_pos (by omega), e, ByteArray.toList_eq, ByteArray.toList_eq, if_neg (hn _ (List.getElem_mem hi)), wr1 i (by omega)]
theorem isname_l (a : ByteArray) (hs : a.size ≤ 64) (hl : ∀ i : Nat, i < a.size → brazierref07_letter.f (bt a (i : Int)) = some true) : ∀ (d i : Nat), i + d = a.size → Ev (fun k => brazierref07_IsName.l0 k a (i : Int)) true
  | 0, i, h => by
    refine Ev.step (f := fun _ => some true) (fun k => ?_) (Ev.now _)
    simp only [brazierref07_IsName.l0]
    rw [if_neg (by omega)]
  | d + 1, i, h => by
    refine Ev.step (f := fun k => brazierref07_IsName.l0 k a ((i + 1 : Nat) : Int)) (fun k => ?_) (isname_l a hs hl d (i + 1) (by omega))
    simp only [brazierref07_IsName.l0]
    rw [if_pos (by omega), if_pos (by omega), hl i (by omega), Option.bind_some, if_pos rfl, wr1 i (by omega)]
def wordsL : List ByteArray := [(⟨#[105, 110, 116]⟩ : ByteArray), (⟨#[105, 102]⟩ : ByteArray), (⟨#[101, 108, 115, 101]⟩ : ByteArray), (⟨#[119, 104, 105, 108, 101]⟩ : ByteArray), (⟨#[98, 114, 101, 97, 107]⟩ : ByteArray), (⟨#[99, 111, 110, 116, 105, 110, 117, 101]⟩ : ByteArray), (⟨#[114, 101, 116, 117, 114, 110]⟩ : ByteArray), (⟨#[112, 114, 105, 110, 116]⟩ : ByteArray), (⟨#[114, 101, 97, 100]⟩ : ByteArray)]
theorem isname_yes (a : ByteArray) (h0 : 0 < a.size) (h64 : a.size ≤ 64) (hd : brazierref07_digit.f (bt a 0) = some false) (hw : ∀ w ∈ wordsL, ¬ w.data.toList = a.data.toList) (hl : ∀ i : Nat, i < a.size → brazierref07_letter.f (bt a (i : Int)) = some true) (w : World) :
    Calls Try.prog 19 #[.string a] w fun e w' => e = .returned (.bool true) ∧ Below w.heap.size w w' := by
  have hev : Ev (fun k => brazierref07_IsName.f k a) true := by
    unfold brazierref07_IsName.f brazierref07_IsWord.f brazierref07_Words.f
    simp only [if_neg (show ¬ (a.size : Int) = 0 by omega), if_neg (show ¬ (a.size : Int) > 64 by omega), if_pos (show 0 < (a.size : Int) by omega), hd, Option.bind_some, if_neg Bool.false_ne_true]
    refine Ev.bind (isword_l a wordsL (by decide) hw _ 0 (Nat.zero_add _)) ?_
    refine Ev.step (f := fun k => brazierref07_IsName.l0 k a 0) (fun k => ?_) (isname_l a h64 hl _ 0 (Nat.zero_add _))
    simp only [brazierref07_IsName.j0]
    rw [if_neg Bool.false_ne_true]
  obtain ⟨k, hk⟩ := hev.rounds
  exact brazierref07_IsName.calls k a true w hk
theorem isname_main (w : World) : Calls Try.prog 19 #[.string ⟨#[109, 97, 105, 110]⟩] w fun e w' => e = .returned (.bool true) ∧ Below w.heap.size w w' :=
  isname_yes ⟨#[109, 97, 105, 110]⟩ (by decide) (by decide) rfl (by decide) (by decide) w
theorem isname_f (w : World) : Calls Try.prog 19 #[.string ⟨#[102]⟩] w fun e w' => e = .returned (.bool true) ∧ Below w.heap.size w w' :=
  isname_yes ⟨#[102]⟩ (by decide) (by decide) rfl (by decide) (by decide) w
end Go.Proofs.Ytabkinlpbefjgaa.L

namespace Go.Proofs.Ytabkinlpbefjgaa.L
open Go.RowKit Go.Proofs.Ytabkinlpbefjgaa.X Go.Proofs.YtabkinlpbefjgaaW.PrintWords Go.Proofs.YtabkinlpbefjgaaW.PrintLast Go.Proofs.YtabkinlpbefjgaaW.PrintMore
attribute [local go_sem] max2_int min2_int max_two min_two max_three min_three max_four min_four   -- for this text's walks alone
set_option linter.unusedVariables false
set_option linter.unusedSimpArgs false
open Go.Proofs.Ytabkinlpbefjgaa.Pure
set_option maxHeartbeats 4000000 in
set_option maxRecDepth 100000 in
theorem yes_x8 (A7 : Option Addr) (c7 : Nat) (w : World) : Calls Try.prog 33 #[.agg #[.int .i64 8, .int .i64 0, .int .i64 0, .int .i64 (-1), .int .i64 (-1), .int .i32 0, .string ⟨#[]⟩, .slice A7 0 c7], .int .i64 1] w fun e w' => e = .returned (.bool true) ∧ Below w.heap.size w w' := by
  have r0_ : regB 0 1 false = true := by decide
  have hcl : Below w.heap.size w (w.alloc (.cells #[.int .i64 8, .int .i64 0, .int .i64 0, .int .i64 (-1), .int .i64 (-1), .int .i32 0, .string ⟨#[]⟩, .slice A7 0 c7] 44)) := Below.alloc (Below.refl _ _) (Nat.le_refl _) _
  have HCL := Aside0.mk hcl
  clear hcl
  go_enter Try.func33, Try.ntmps33
  go_wp2_with (first
    | (go_at_call 34; (with_reducible refine (reg_calls _ _ _ _).mono ?_); rintro e w' ⟨rfl, rfl⟩)
    | fail)
  generalize w.alloc (.cells #[.int .i64 8, .int .i64 0, .int .i64 0, .int .i64 (-1), .int .i64 (-1), .int .i32 0, .string ⟨#[]⟩, .slice A7 0 c7] 44) = w2 at HCL ⊢
  have HBL := Aside0.mk HCL.out
  go_loopg [225] (1) (fun kq v wr => v = .int .i64 0 ∧ wr = w2)
  case atStart => exact ⟨rfl, rfl⟩
  case round =>
    obtain ⟨rfl, rfl⟩ := hrel
    go_wp2
    go_ret
    exact ⟨rfl, HBL.out⟩
set_option maxHeartbeats 4000000 in
set_option maxRecDepth 100000 in
theorem yes_x9 (A7 : Option Addr) (c7 : Nat) (w : World) : Calls Try.prog 33 #[.agg #[.int .i64 9, .int .i64 0, .int .i64 (-1), .int .i64 0, .int .i64 (-1), .int .i32 0, .string ⟨#[]⟩, .slice A7 0 c7], .int .i64 1] w fun e w' => e = .returned (.bool true) ∧ Below w.heap.size w w' := by
  have r0_ : regB 0 1 false = true := by decide
  have hcl : Below w.heap.size w (w.alloc (.cells #[.int .i64 9, .int .i64 0, .int .i64 (-1), .int .i64 0, .int .i64 (-1), .int .i32 0, .string ⟨#[]⟩, .slice A7 0 c7] 44)) := Below.alloc (Below.refl _ _) (Nat.le_refl _) _
  have HCL := Aside0.mk hcl
  clear hcl
  go_enter Try.func33, Try.ntmps33
  go_wp2_with (first
    | (go_at_call 34; (with_reducible refine (reg_calls _ _ _ _).mono ?_); rintro e w' ⟨rfl, rfl⟩)
    | fail)
  generalize w.alloc (.cells #[.int .i64 9, .int .i64 0, .int .i64 (-1), .int .i64 0, .int .i64 (-1), .int .i32 0, .string ⟨#[]⟩, .slice A7 0 c7] 44) = w2 at HCL ⊢
  have HBL := Aside0.mk HCL.out
  go_loopg [225] (1) (fun kq v wr => v = .int .i64 0 ∧ wr = w2)
  case atStart => exact ⟨rfl, rfl⟩
  case round =>
    obtain ⟨rfl, rfl⟩ := hrel
    go_wp2
    go_ret
    exact ⟨rfl, HBL.out⟩
set_option maxHeartbeats 4000000 in
set_option maxRecDepth 100000 in
theorem yes_num (A7 : Option Addr) (c7 : Nat) (w : World) : Calls Try.prog 33 #[.agg #[.int .i64 1, .int .i64 0, .int .i64 1, .int .i64 (-1), .int .i64 (-1), .int .i32 1, .string ⟨#[]⟩, .slice A7 0 c7], .int .i64 3] w fun e w' => e = .returned (.bool true) ∧ Below w.heap.size w w' := by
  have r0_ : regB 1 3 false = true := by decide
  have hcl : Below w.heap.size w (w.alloc (.cells #[.int .i64 1, .int .i64 0, .int .i64 1, .int .i64 (-1), .int .i64 (-1), .int .i32 1, .string ⟨#[]⟩, .slice A7 0 c7] 44)) := Below.alloc (Below.refl _ _) (Nat.le_refl _) _
  have HCL := Aside0.mk hcl
  clear hcl
  go_enter Try.func33, Try.ntmps33
  go_wp2_with (first
    | (go_at_call 34; (with_reducible refine (reg_calls _ _ _ _).mono ?_); rintro e w' ⟨rfl, rfl⟩)
    | fail)
  generalize w.alloc (.cells #[.int .i64 1, .int .i64 0, .int .i64 1, .int .i64 (-1), .int .i64 (-1), .int .i32 1, .string ⟨#[]⟩, .slice A7 0 c7] 44) = w2 at HCL ⊢
  have HBL := Aside0.mk HCL.out
  go_loopg [225] (1) (fun kq v wr => v = .int .i64 0 ∧ wr = w2)
  case atStart => exact ⟨rfl, rfl⟩
  case round =>
    obtain ⟨rfl, rfl⟩ := hrel
    go_wp2
    go_ret
    exact ⟨rfl, HBL.out⟩
set_option maxHeartbeats 4000000 in
set_option maxRecDepth 100000 in
theorem yes_sub (A7 : Option Addr) (c7 : Nat) (w : World) : Calls Try.prog 33 #[.agg #[.int .i64 4, .int .i64 2, .int .i64 0, .int .i64 0, .int .i64 1, .int .i32 0, .string ⟨#[]⟩, .slice A7 0 c7], .int .i64 3] w fun e w' => e = .returned (.bool true) ∧ Below w.heap.size w w' := by
  have r0_ : regB 0 3 false = true := by decide
  have r1_ : regB 1 3 false = true := by decide
  have hcl : Below w.heap.size w (w.alloc (.cells #[.int .i64 4, .int .i64 2, .int .i64 0, .int .i64 0, .int .i64 1, .int .i32 0, .string ⟨#[]⟩, .slice A7 0 c7] 44)) := Below.alloc (Below.refl _ _) (Nat.le_refl _) _
  have HCL := Aside0.mk hcl
  clear hcl
  go_enter Try.func33, Try.ntmps33
  go_wp2_with (first
    | (go_at_call 34; (with_reducible refine (reg_calls _ _ _ _).mono ?_); rintro e w' ⟨rfl, rfl⟩)
    | fail)
  generalize w.alloc (.cells #[.int .i64 4, .int .i64 2, .int .i64 0, .int .i64 0, .int .i64 1, .int .i32 0, .string ⟨#[]⟩, .slice A7 0 c7] 44) = w2 at HCL ⊢
  have HBL := Aside0.mk HCL.out
  go_loopg [225] (1) (fun kq v wr => v = .int .i64 0 ∧ wr = w2)
  case atStart => exact ⟨rfl, rfl⟩
  case round =>
    obtain ⟨rfl, rfl⟩ := hrel
    go_wp2
    go_ret
    exact ⟨rfl, HBL.out⟩
set_option maxHeartbeats 4000000 in
set_option maxRecDepth 100000 in
theorem yes_add (A7 : Option Addr) (c7 : Nat) (w : World) : Calls Try.prog 33 #[.agg #[.int .i64 4, .int .i64 1, .int .i64 1, .int .i64 1, .int .i64 2, .int .i32 0, .string ⟨#[]⟩, .slice A7 0 c7], .int .i64 3] w fun e w' => e = .returned (.bool true) ∧ Below w.heap.size w w' := by
  have r0_ : regB 1 3 false = true := by decide
  have r1_ : regB 2 3 false = true := by decide
  have hcl : Below w.heap.size w (w.alloc (.cells #[.int .i64 4, .int .i64 1, .int .i64 1, .int .i64 1, .int .i64 2, .int .i32 0, .string ⟨#[]⟩, .slice A7 0 c7] 44)) := Below.alloc (Below.refl _ _) (Nat.le_refl _) _
  have HCL := Aside0.mk hcl
  clear hcl
  go_enter Try.func33, Try.ntmps33
  go_wp2_with (first
    | (go_at_call 34; (with_reducible refine (reg_calls _ _ _ _).mono ?_); rintro e w' ⟨rfl, rfl⟩)
    | fail)
  generalize w.alloc (.cells #[.int .i64 4, .int .i64 1, .int .i64 1, .int .i64 1, .int .i64 2, .int .i32 0, .string ⟨#[]⟩, .slice A7 0 c7] 44) = w2 at HCL ⊢
  have HBL := Aside0.mk HCL.out
  go_loopg [225] (1) (fun kq v wr => v = .int .i64 0 ∧ wr = w2)
  case atStart => exact ⟨rfl, rfl⟩
  case round =>
    obtain ⟨rfl, rfl⟩ := hrel
    go_wp2
    go_ret
    exact ⟨rfl, HBL.out⟩
set_option maxHeartbeats 4000000 in
set_option maxRecDepth 100000 in
theorem yes_callf (A7 : Option Addr) (c7 : Nat) (w : World) (h7 : (Kd.int .i64).C w A7 1 [0]) (hc7 : 1 ≤ c7) : Calls Try.prog 33 #[.agg #[.int .i64 7, .int .i64 0, .int .i64 2, .int .i64 (-1), .int .i64 (-1), .int .i32 0, .string ⟨#[102]⟩, .slice A7 1 c7], .int .i64 3] w fun e w' => e = .returned (.bool true) ∧ Below w.heap.size w w' := by
  have H7 := Aside0.mk h7
  clear h7
  have r0_ : regB 2 3 true = true := by decide
  have r1_ : regB 0 3 false = true := by decide
  have hcl : Below w.heap.size w (w.alloc (.cells #[.int .i64 7, .int .i64 0, .int .i64 2, .int .i64 (-1), .int .i64 (-1), .int .i32 0, .string ⟨#[102]⟩, .slice A7 1 c7] 44)) := Below.alloc (Below.refl _ _) (Nat.le_refl _) _
  have HCL := Aside0.mk hcl
  clear hcl
  go_enter Try.func33, Try.ntmps33
  go_wp2_with (first
    | (go_at_call 34; (with_reducible refine (reg_calls _ _ _ _).mono ?_); rintro e w' ⟨rfl, rfl⟩)
    | (go_at_call 19; (with_reducible refine (isname_f _).mono ?_); rintro e w2 ⟨rfl, hB⟩; have HWB := Aside0.mk hB; have hx := (hB.block _ (blk_lt (blk_new _ _))).trans (blk_new _ _); have e0 := (blk_cell hx 0).trans rfl; have e1 := (blk_cell hx 1).trans rfl; have e5 := (blk_cell hx 5).trans rfl; have e7 := (blk_cell hx 7).trans rfl; clear hx hB)
    | fail)
  have HBL := Aside0.mk (HCL.out.trans (Below.mono HWB.out HCL.out.size))
  go_loopg [225] (1) (fun kq v wr => ∃ k : Nat, Aside0 (k + kq = 1) ∧ v = .int .i64 (k : Int) ∧ wr = w2)
  case atStart => exact ⟨0, ⟨rfl⟩, rfl, rfl⟩
  case round =>
    obtain ⟨k, HK, rfl, rfl⟩ := hrel
    cases gk with
    | zero =>
      obtain rfl : k = 1 := by have := HK.out; omega
      go_wp2
      go_ret
      exact ⟨rfl, HBL.out⟩
    | succ q1 =>
      obtain ⟨rfl, rfl⟩ : k = 0 ∧ q1 = 0 := by have := HK.out; omega
      obtain ⟨ad, hA, hcell⟩ := Kd.at_int (Kd.C_below H7.out HBL.out) (0 : Int) (by decide) (by decide)
      rw [show rd [0] (0 : Int) = 0 from rfl, show ((0 : Int)).toNat = 0 from rfl] at hcell
      have hcell2 : wr.cell? ad = some (.int .i64 0) := hcell
      subst hA
      go_wp2_with (first
        | (go_at_call 34; (with_reducible refine (reg_calls _ _ _ _).mono ?_); rintro e w' ⟨rfl, rfl⟩)
        | fail)
      go_roundg 0
      case measure => omega
      case rel => exact ⟨1, ⟨rfl⟩, by first | rfl | go_num, rfl⟩
set_option maxHeartbeats 4000000 in
set_option maxRecDepth 100000 in
theorem yes_callm (A7 : Option Addr) (c7 : Nat) (w : World) (h7 : (Kd.int .i64).C w A7 1 [0]) (hc7 : 1 ≤ c7) : Calls Try.prog 33 #[.agg #[.int .i64 7, .int .i64 0, .int .i64 0, .int .i64 (-1), .int .i64 (-1), .int .i32 0, .string ⟨#[102]⟩, .slice A7 1 c7], .int .i64 1] w fun e w' => e = .returned (.bool true) ∧ Below w.heap.size w w' := by
  have H7 := Aside0.mk h7
  clear h7
  have r0_ : regB 0 1 true = true := by decide
  have r1_ : regB 0 1 false = true := by decide
  have hcl : Below w.heap.size w (w.alloc (.cells #[.int .i64 7, .int .i64 0, .int .i64 0, .int .i64 (-1), .int .i64 (-1), .int .i32 0, .string ⟨#[102]⟩, .slice A7 1 c7] 44)) := Below.alloc (Below.refl _ _) (Nat.le_refl _) _
  have HCL := Aside0.mk hcl
  clear hcl
  go_enter Try.func33, Try.ntmps33
  go_wp2_with (first
    | (go_at_call 34; (with_reducible refine (reg_calls _ _ _ _).mono ?_); rintro e w' ⟨rfl, rfl⟩)
    | (go_at_call 19; (with_reducible refine (isname_f _).mono ?_); rintro e w2 ⟨rfl, hB⟩; have HWB := Aside0.mk hB; have hx := (hB.block _ (blk_lt (blk_new _ _))).trans (blk_new _ _); have e0 := (blk_cell hx 0).trans rfl; have e1 := (blk_cell hx 1).trans rfl; have e5 := (blk_cell hx 5).trans rfl; have e7 := (blk_cell hx 7).trans rfl; clear hx hB)
    | fail)
  have HBL := Aside0.mk (HCL.out.trans (Below.mono HWB.out HCL.out.size))
  go_loopg [225] (1) (fun kq v wr => ∃ k : Nat, Aside0 (k + kq = 1) ∧ v = .int .i64 (k : Int) ∧ wr = w2)
  case atStart => exact ⟨0, ⟨rfl⟩, rfl, rfl⟩
  case round =>
    obtain ⟨k, HK, rfl, rfl⟩ := hrel
    cases gk with
    | zero =>
      obtain rfl : k = 1 := by have := HK.out; omega
      go_wp2
      go_ret
      exact ⟨rfl, HBL.out⟩
    | succ q1 =>
      obtain ⟨rfl, rfl⟩ : k = 0 ∧ q1 = 0 := by have := HK.out; omega
      obtain ⟨ad, hA, hcell⟩ := Kd.at_int (Kd.C_below H7.out HBL.out) (0 : Int) (by decide) (by decide)
      rw [show rd [0] (0 : Int) = 0 from rfl, show ((0 : Int)).toNat = 0 from rfl] at hcell
      have hcell2 : wr.cell? ad = some (.int .i64 0) := hcell
      subst hA
      go_wp2_with (first
        | (go_at_call 34; (with_reducible refine (reg_calls _ _ _ _).mono ?_); rintro e w' ⟨rfl, rfl⟩)
        | fail)
      go_roundg 0
      case measure => omega
      case rel => exact ⟨1, ⟨rfl⟩, by first | rfl | go_num, rfl⟩
end Go.Proofs.Ytabkinlpbefjgaa.L

namespace Go.Proofs.Ytabkinlpbefjgaa.L
open Go.RowKit Go.Proofs.Ytabkinlpbefjgaa.X Go.Proofs.YtabkinlpbefjgaaW.PrintWords Go.Proofs.YtabkinlpbefjgaaW.PrintLast Go.Proofs.YtabkinlpbefjgaaW.PrintMore
attribute [local go_sem] max2_int min2_int max_two min_two max_three min_three max_four min_four   -- for this text's walks alone
set_option linter.unusedVariables false
set_option linter.unusedSimpArgs false
open Go.Proofs.Ytabkinlpbefjgaa.Pure
@[reducible] def YesI (n : Int) (x : S44) : Prop := ∀ (A7 : Option Addr) (c7 : Nat) (w : World), (Kd.int .i64).C w A7 x.f7.length x.f7 → x.f7.length ≤ c7 →
    Calls Try.prog 33 #[.agg #[.int .i64 x.f0, .int .i64 x.f1, .int .i64 x.f2, .int .i64 x.f3, .int .i64 x.f4, .int .i32 x.f5, .string x.f6, .slice A7 x.f7.length c7], .int .i64 n] w fun e w' => e = .returned (.bool true) ∧ Below w.heap.size w w'
structure YesB (f : S47) (b : S41) : Prop where
  ins : ∀ x ∈ b.f0, YesI f.f2 x
  end_ : b.f1 = 3 ∧ b.f3 = 0 ∧ b.f4 = 0 ∨ b.f1 = 2 ∧ (0 ≤ b.f3 ∧ b.f3 < (f.f3.length : Int)) ∧ 0 ≤ b.f4 ∧ b.f4 < (f.f3.length : Int)
  reg : regB b.f2 f.f2 false = true
set_option maxHeartbeats 4000000 in
set_option maxRecDepth 100000 in
theorem mayfn_yes (f : S47) (A3 : Option Addr) (c3 : Nat) (w : World) (h3 : Kd.C k41 w A3 f.f3.length f.f3) (hc3 : f.f3.length ≤ c3)
    (hname : ∀ w, Calls Try.prog 19 #[.string f.f0] w fun e w' => e = .returned (.bool true) ∧ Below w.heap.size w w') (p0 : 0 ≤ f.f1) (p1 : f.f1 ≤ 8) (p2 : f.f1 ≤ f.f2) (p3 : f.f2 ≤ 4096) (p5 : 0 < f.f3.length) (hb : ∀ b ∈ f.f3, YesB f b) :
    Calls Try.prog 22 #[.agg #[.string f.f0, .int .i64 f.f1, .int .i64 f.f2, .slice A3 f.f3.length c3]] w fun e w' => e = .returned (.bool true) ∧ Below w.heap.size w w' := by
  have HNM := Aside0.mk hname
  have HBK := Aside0.mk hb
  have p4 : ((f.f3.length : Int) == 0) = false := by rw [beq_eq_false_iff_ne]; omega
  clear hname hb
  have H3 := Aside0.mk h3
  have HM3 := Aside0.mk (Kd.C_max h3)
  clear h3 hc3
  go_enter Try.func22, Try.ntmps22
  go_wp2_with (first
    | (go_at_call 19; (with_reducible refine (HNM.out _).mono ?_); rintro e w2 ⟨rfl, hB⟩; have HWB := Aside0.mk ((Below.alloc (Below.refl w.heap.size w) (Nat.le_refl _) _).trans (Below.mono hB (Below.alloc (Below.refl w.heap.size w) (Nat.le_refl _) _).size)); have hx := (hB.block _ (blk_lt (blk_new _ _))).trans (blk_new _ _); have HX := Aside0.mk hx; have e1 := (blk_cell hx 1).trans rfl; have e2 := (blk_cell hx 2).trans rfl; have e3 := (blk_cell hx 3).trans rfl; clear hx hB)
    | fail)
  clear p0 p1 p2 p3 p4
  have P5 := Aside0.mk p5
  clear p5
  go_loopg [51] (f.f3.length) (fun kq v wr => ∃ k : Nat, Aside0 (k + kq = f.f3.length) ∧ v = .int .i64 (k : Int) ∧ Aside0 (Below w.heap.size w wr) ∧ Aside0 (wr.heap[w.heap.size]? = some (.cells #[.string f.f0, .int .i64 f.f1, .int .i64 f.f2, .slice A3 f.f3.length c3] 47 (0, 0))))
  case atStart => exact ⟨0, ⟨by omega⟩, rfl, HWB, HX⟩
  case round =>
    obtain ⟨k, HK, rfl, HBL, HXR⟩ := hrel
    by_cases hlt : k < f.f3.length
    · cases gk with
      | zero => exact absurd HK.out (by omega)
      | succ q1 =>
        obtain ⟨ad, A0, c0, hA, z0, z1, z2, z3, z4, hl0, hi0⟩ := at_T41 (Kd.C_below H3.out HBL.out) (k : Int) (by omega) (by omega)
        rw [Int.toNat_natCast] at z0 z1 z2 z3 z4
        obtain ⟨b, hz⟩ : ∃ b, rd_T41 f.f3 (k : Int) = b := ⟨_, rfl⟩
        have hbe : b = f.f3[k] := by
          rw [← hz]; unfold rd_T41; rw [Int.toNat_natCast, List.getD_eq_getElem?_getD, List.getElem?_eq_getElem hlt]; rfl
        have hsn : f.f3.take (k + 1) = f.f3.take k ++ [b] := by rw [List.take_succ_eq_append_getElem hlt, hbe]
        rw [hz] at z0 z1 z2 z3 z4 hl0 hi0
        have HYB : Aside0 (YesB f b) := ⟨HBK.out b (by rw [hbe]; exact List.getElem_mem hlt)⟩
        have HL0 := Aside0.mk hl0
        have HI0 := Aside0.mk hi0
        have HMI := Aside0.mk (Kd.C_max hi0)
        subst hA
        clear hsn hz hbe hl0 hi0
        go_wp2_with (first
    | ((with_reducible refine gate_dst (N := 5) rfl ?_)
       refine box_event rfl (N := 5) rfl (cs := #[.slice none 0 0, .int .i64 0, .int .i64 0, .int .i64 0, .int .i64 0]) (t := 41) ?hr ?_
       case hr => first | (go_simp; done) | (go_simp; rfl)
       intro gb hg w1 hbox hb; have hz0 : w1.cell? ⟨gb, 0, none⟩ = some (.slice none 0 0) := (blk_cell hbox 0).trans rfl; have hf0 := blk_frozen hbox 0; have hz1 : w1.cell? ⟨gb, 1, none⟩ = some (.int .i64 0) := (blk_cell hbox 1).trans rfl; have hf1 := blk_frozen hbox 1; have hz2 : w1.cell? ⟨gb, 2, none⟩ = some (.int .i64 0) := (blk_cell hbox 2).trans rfl; have hf2 := blk_frozen hbox 2; have hz3 : w1.cell? ⟨gb, 3, none⟩ = some (.int .i64 0) := (blk_cell hbox 3).trans rfl; have hf3 := blk_frozen hbox 3; have hz4 : w1.cell? ⟨gb, 4, none⟩ = some (.int .i64 0) := (blk_cell hbox 4).trans rfl; have hf4 := blk_frozen hbox 4
       have HG := Aside0.mk (Nat.le_of_eq hg.symm)
       clear hg)
    | ((with_reducible refine gate_store (t := 41) (p := 5) rfl ?_)
       refine store_event (w1 := (((((w1.setCell ⟨gb, 0, none⟩ (.slice A0 b.f0.length c0)).setCell ⟨gb, 1, none⟩ (.int .i64 b.f1)).setCell ⟨gb, 2, none⟩ (.int .i64 b.f2)).setCell ⟨gb, 3, none⟩ (.int .i64 b.f3)).setCell ⟨gb, 4, none⟩ (.int .i64 b.f4))) rfl (t := 41) (p := 5) rfl rfl ?hr ?_
       case hr => first | (go_simp; done) | (go_simp; rfl)
       intro wb hw
       have hcb := hw ▸ fill5 (g := gb) hbox
       have hbl := hw ▸ fillB5 (g := gb) hb HG.out
       have HXB := Aside0.mk hcb
       have HB5 := Aside0.mk hbl
       have HX2 := Aside0.mk (blk_below (g := w.heap.size) HXR.out hbl)
       have y0 := (blk_cell hcb 0).trans rfl
       clear hcb hbl hw hbox hb hz0 hz1 hz2 hz3 hz4 hf0 hf1 hf2 hf3 hf4)
    | fail)
        go_loopg [58] (b.f0.length) (fun kq v wi => ∃ j : Nat, Aside0 (j + kq = b.f0.length) ∧ v = .int .i64 (j : Int) ∧ Aside0 (Below wr.heap.size wr wi) ∧ Aside0 (wi.heap[w.heap.size]? = some (.cells #[.string f.f0, .int .i64 f.f1, .int .i64 f.f2, .slice (some ad) f.f3.length c3] 47 (0, 0))) ∧ Aside0 (wi.heap[gb]? = some (.cells #[.slice A0 b.f0.length c0, .int .i64 b.f1, .int .i64 b.f2, .int .i64 b.f3, .int .i64 b.f4] 41 (0, 0))))
        case atStart => exact ⟨0, ⟨by omega⟩, rfl, HB5, HX2, HXB⟩
        case round =>
          obtain ⟨j, HJ, rfl, HBI, HXI, HBB⟩ := hrel
          by_cases hlj : j < b.f0.length
          · cases gk with
            | zero => exact absurd HJ.out (by omega)
            | succ q2 =>
              obtain ⟨adx, A7, c7, hAx, x0, x1, x2, x3, x4, x5, x6, x7, hl7, hi7⟩ := at_T44 (Kd.C_below HI0.out HBI.out) (j : Int) (by omega) (by omega)
              rw [Int.toNat_natCast] at x0 x1 x2 x3 x4 x5 x6 x7
              obtain ⟨x, hz⟩ : ∃ x, rd_T44 b.f0 (j : Int) = x := ⟨_, rfl⟩
              have hxe : x = b.f0[j] := by
                rw [← hz]; unfold rd_T44; rw [Int.toNat_natCast, List.getD_eq_getElem?_getD, List.getElem?_eq_getElem hlj]; rfl
              have hsx : b.f0.take (j + 1) = b.f0.take j ++ [x] := by rw [List.take_succ_eq_append_getElem hlj, hxe]
              rw [hz] at x0 x1 x2 x3 x4 x5 x6 x7 hl7 hi7
              have HYI : Aside0 (YesI f.f2 x) := ⟨HYB.out.ins x (by rw [hxe]; exact List.getElem_mem hlj)⟩
              have HL7 := Aside0.mk hl7
              have HI7 := Aside0.mk hi7
              subst hAx
              clear hsx hz hxe hl7 hi7
              go_wp2_with (first
    | ((with_reducible refine gate_dst (N := 7) rfl ?_)
       refine box_event rfl (N := 7) rfl (cs := #[.int .i64 0, .int .i64 0, .int .i64 0, .int .i64 0, .int .i64 0, .int .i32 0, .string (⟨#[]⟩ : ByteArray), .slice none 0 0]) (t := 44) ?hr ?_
       case hr => first | (go_simp; done) | (go_simp; rfl)
       intro gx hg w1x hbox hb; have hz0 : w1x.cell? ⟨gx, 0, none⟩ = some (.int .i64 0) := (blk_cell hbox 0).trans rfl; have hf0 := blk_frozen hbox 0; have hz1 : w1x.cell? ⟨gx, 1, none⟩ = some (.int .i64 0) := (blk_cell hbox 1).trans rfl; have hf1 := blk_frozen hbox 1; have hz2 : w1x.cell? ⟨gx, 2, none⟩ = some (.int .i64 0) := (blk_cell hbox 2).trans rfl; have hf2 := blk_frozen hbox 2; have hz3 : w1x.cell? ⟨gx, 3, none⟩ = some (.int .i64 0) := (blk_cell hbox 3).trans rfl; have hf3 := blk_frozen hbox 3; have hz4 : w1x.cell? ⟨gx, 4, none⟩ = some (.int .i64 0) := (blk_cell hbox 4).trans rfl; have hf4 := blk_frozen hbox 4; have hz5 : w1x.cell? ⟨gx, 5, none⟩ = some (.int .i32 0) := (blk_cell hbox 5).trans rfl; have hf5 := blk_frozen hbox 5; have hz6 : w1x.cell? ⟨gx, 6, none⟩ = some (.string (⟨#[]⟩ : ByteArray)) := (blk_cell hbox 6).trans rfl; have hf6 := blk_frozen hbox 6; have hz7 : w1x.cell? ⟨gx, 7, none⟩ = some (.slice none 0 0) := (blk_cell hbox 7).trans rfl; have hf7 := blk_frozen hbox 7
       have HG := Aside0.mk (Nat.le_of_eq hg.symm)
       clear hg)
    | ((with_reducible refine gate_store (t := 44) (p := 7) rfl ?_)
       refine store_event (w1 := ((((((((w1x.setCell ⟨gx, 0, none⟩ (.int .i64 x.f0)).setCell ⟨gx, 1, none⟩ (.int .i64 x.f1)).setCell ⟨gx, 2, none⟩ (.int .i64 x.f2)).setCell ⟨gx, 3, none⟩ (.int .i64 x.f3)).setCell ⟨gx, 4, none⟩ (.int .i64 x.f4)).setCell ⟨gx, 5, none⟩ (.int .i32 x.f5)).setCell ⟨gx, 6, none⟩ (.string x.f6)).setCell ⟨gx, 7, none⟩ (.slice A7 x.f7.length c7))) rfl (t := 44) (p := 7) rfl rfl ?hr ?_
       case hr => first | (go_simp; done) | (go_simp; rfl)
       intro wx hw
       have hcb := hw ▸ fill8 (g := gx) hbox
       have hbl := hw ▸ fillB8 (g := gx) hb HG.out
       have HBX := Aside0.mk hbl
       have hfx := blk_below (g := w.heap.size) HXI.out hbl
       have e2 := (blk_cell hfx 2).trans rfl
       have y0 := (blk_cell hcb 0).trans rfl
       have y1 := (blk_cell hcb 1).trans rfl
       have y2 := (blk_cell hcb 2).trans rfl
       have y3 := (blk_cell hcb 3).trans rfl
       have y4 := (blk_cell hcb 4).trans rfl
       have y5 := (blk_cell hcb 5).trans rfl
       have y6 := (blk_cell hcb 6).trans rfl
       have y7 := (blk_cell hcb 7).trans rfl
       clear hfx hcb hbl hw hbox hb hz0 hz1 hz2 hz3 hz4 hz5 hz6 hz7 hf0 hf1 hf2 hf3 hf4 hf5 hf6 hf7)
    | (go_at_call 33; (with_reducible refine (HYI.out A7 c7 _ (Kd.C_below HI7.out HBX.out) HL7.out).mono ?_); rintro e w5 ⟨rfl, hB5⟩
       have HB3 := Aside0.mk (below_step (below_step HBI.out HBX.out) hB5)
       have HX5 := Aside0.mk (blk_below (blk_below HXI.out HBX.out) hB5)
       have HBB5 := Aside0.mk (blk_below (blk_below HBB.out HBX.out) hB5)
       have HWW := Aside0.mk (below_step HBL.out HB3.out)
       clear hB5)
    | fail)
              go_roundg q2
              case measure => omega
              case rel => exact ⟨j + 1, ⟨by have := HJ.out; omega⟩, nxt hlj HMI.out, HB3, HX5, HBB5⟩
          · obtain rfl : j = b.f0.length := by have := HJ.out; omega
            have HWW := Aside0.mk (below_step HBL.out HBI.out)
            have e2 := (blk_cell HXI.out 2).trans rfl
            have y1 := (blk_cell HBB.out 1).trans rfl
            have y2 := (blk_cell HBB.out 2).trans rfl
            have y3 := (blk_cell HBB.out 3).trans rfl
            have y4 := (blk_cell HBB.out 4).trans rfl
            have n0 := P5.out
            have hreg := HYB.out.reg
            rcases HYB.out.end_ with ⟨hk, g3, g4⟩ | ⟨hk, ⟨g3, g3_⟩, g4, g4_⟩
            · rw [hk] at y1
              rw [g3] at y3
              rw [g4] at y4
              clear g3 g4
              clear hk
              go_wp2_with (first
                | (go_at_call 34; (with_reducible refine (reg_calls _ _ _ _).mono ?_); rintro e w' ⟨rfl, rfl⟩)
                | fail)
              go_roundg q1
              case measure => omega
              case rel => exact ⟨k + 1, ⟨by have := HK.out; omega⟩, nxt hlt HM3.out, HWW, HXI⟩
            · rw [hk] at y1
              clear hk
              go_wp2_with (first
                | (go_at_call 34; (with_reducible refine (reg_calls _ _ _ _).mono ?_); rintro e w' ⟨rfl, rfl⟩)
                | fail)
              go_roundg q1
              case measure => omega
              case rel => exact ⟨k + 1, ⟨by have := HK.out; omega⟩, nxt hlt HM3.out, HWW, HXI⟩
    · obtain rfl : k = f.f3.length := by have := HK.out; omega
      go_wp2
      go_ret
      exact ⟨rfl, HBL.out⟩
end Go.Proofs.Ytabkinlpbefjgaa.L

