/- Texts of this seat that a claim bears, put together by this session's own program shake.py: TrQ, TrR, TrS, TrT, TrU. -/
import Derived.Test.YtabkinlpbefjgaaProg
import Derived.Below
import Derived.Deep.Draws
import Derived.Deep.AppendLies
import Derived.Maps.AppendAt
import Derived.OwnWalk
import Derived.Laws.BytesArg
import Derived.Laws.MakeOwn
import Derived.Laws.OwnMore
import Derived.Deep.OwnRows
import Derived.Tactics
import Derived.Lib.ConvBytes
import Derived.Laws.Slices
import Derived.WalkKit
import Derived.KernelRfl
import Derived.RowKit3
import Derived.Deep.LoopGhost
import Derived.Deep.QuietTactic
import Derived.BigQuiet
import Derived.WideLaws
import Derived.Deep.DeepCutAuto
import Derived.Deep.CutBlock
import Derived.Deep.RegionHeld3
import Derived.Laws.Rows
import Derived.Lib.AppendStr
import Derived.ArgAppend
import Derived.Laws.IdiomCopy
import Derived.OrdersHeld
import Derived.Laws.BitsLemmas
import Derived.RowKit
import Derived.Test.YtabkinlpbefjgaaKc0
import Derived.Test.YtabkinlpbefjgaaKc1
import Derived.Test.YtabkinlpbefjgaaKc5
import Derived.Test.YtabkinlpbefjgaaKc7
import Derived.Maps.Own
import Derived.Recover
import Derived.WalkSmall
import Derived.StillTailTactics
import Derived.Laws.Pointers
import Derived.Test.YtabkinlpbefjgaaKc11
import Derived.DataShut
import Derived.Deep.RegionLawGrows
import Derived.Deep.Upon
import Derived.Deep.MidRow
import Derived.Test.YtabkinlpbefjgaaKc6
import Derived.Laws.Strings
namespace Go.Proofs.Ytabkinlpbefjgaa.L
open Go.RowKit Go.Proofs.Ytabkinlpbefjgaa.X Go.Proofs.YtabkinlpbefjgaaW.PrintWords Go.Proofs.YtabkinlpbefjgaaW.PrintLast Go.Proofs.YtabkinlpbefjgaaW.PrintMore
attribute [local go_sem] max2_int min2_int max_two min_two max_three min_three max_four min_four   -- for this text's walks alone
set_option linter.unusedVariables false
set_option linter.unusedSimpArgs false
structure Rv where
  w0 : World
  mb : Nat
  E : Env
  F : List S47
  GS : List S57
  A : Addr
  inp : List Int
  AI : Option Addr
  ci : Nat
  wbs : List Nat
  xs : List (Nat × Array Value × TypeId)
def Rv.base (V : Rv) : Nat := V.w0.heap.size
def Rv.fa (V : Rv) (k : Nat) : Addr := V.A.add (k * 4)
def wsize (g : S57) : Nat := (max g.f1 1).toNat
abbrev Bk := Nat × Array Value × TypeId
def keysOf (L : List Bk) : List Nat := L.map (·.1)
def Rv.ok (V : Rv) (ks : List Nat) (k : Nat) : Prop := k ≠ V.E.fm ∧ k ≠ V.E.wm ∧ k ∉ ks
structure Hp (V : Rv) (W : World) (L : List Bk) (cv tv : Value) (cbs : List Nat) (tr : List Int) : Prop where
  below : Below V.base V.w0 W
  lay : Lay V.base W L
  fm : V.E.fm ∉ keysOf L ∧ V.E.fm < W.heap.size ∧ V.base ≤ V.E.fm
  wm : V.E.wm ∉ keysOf L ∧ V.E.wm < W.heap.size ∧ V.base ≤ V.E.wm
  calls : kptr.R 68 W V.base (fun _ => True) cv cbs
  trace : (Kd.int .i32).R 21 W V.base (fun _ => True) tv tr
  cvk : ∀ k, cv.ownBlock = some k → V.ok (keysOf L) k
  tvk : ∀ k, tv.ownBlock = some k → V.ok (keysOf L) k
  apart : ∀ k, cv.ownBlock = some k → tv.ownBlock ≠ some k
  fns : ∀ k, k < V.F.length → MapAt 50 V.E.fm W (fnOf V.F k).f0 (.pointer (some (V.fa k)))
  wds : ∀ k, k < V.GS.length → MapAt 51 V.E.wm W (V.GS.getD k z57).f0 (.slice (some ⟨V.wbs.getD k 0, 0, none⟩) (wsize (V.GS.getD k z57)) (wsize (V.GS.getD k z57)))
theorem MapAt.keep {t : TypeId} {b : Nat} {W W1 : World} {key : ByteArray} {v : Value} (h : MapAt t b W key v) (hb : W1.heap[b]? = W.heap[b]?) : MapAt t b W1 key v := fun W' hW => h W' (hW.trans hb)
section
variable {V : Rv} {W w1 : World} {L L' : List Bk} {cv tv cv' tv' : Value} {cbs : List Nat} {tr : List Int} {S : Nat → Prop}
theorem Hp.base_le (h : Hp V W L cv tv cbs tr) : V.base ≤ W.heap.size := h.below.size
theorem Hp.calls_in (h : Hp V W L cv tv cbs tr) (ok : Nat → Prop) (hok : ∀ k, cv.ownBlock = some k → ok k) : kptr.R 68 W V.base ok cv cbs := Kd.R_reok rfl h.calls hok
theorem Hp.trace_in (h : Hp V W L cv tv cbs tr) (ok : Nat → Prop) (hok : ∀ k, tv.ownBlock = some k → ok k) : (Kd.int .i32).R 21 W V.base ok tv tr := Kd.R_reok rfl h.trace hok
theorem own_ge1 {α : Type} {d : Kd α} {e : Nat} {base : Nat} {ok : Nat → Prop} {v : Value} {xs : List α} (h : d.R e W base ok v xs) (k : Nat) (hk : v.ownBlock = some k) : base ≤ k ∧ k < W.heap.size := by
  obtain ⟨inner, ho⟩ := Kd.R_own h
  exact ⟨own_base ho k hk, own_lt ho k hk⟩
theorem Hp.move (h : Hp V W L cv tv cbs tr) (ht : Tr S W w1) (hS : ∀ k, S k → k ∈ keysOf L) (hL : Lay V.base w1 L') (hk : keysOf L' = keysOf L) : Hp V w1 L' cv tv cbs tr := by
  have hb : ∀ k, S k → V.base ≤ k := fun k hs => by
    obtain ⟨b, hm, e⟩ := List.mem_map.1 (hS k hs)
    rw [← e]; exact (h.lay.at_ b hm).1
  have kf : w1.heap[V.E.fm]? = W.heap[V.E.fm]? := ht.keep _ h.fm.2.1 (fun hs => h.fm.1 (hS _ hs))
  have kw : w1.heap[V.E.wm]? = W.heap[V.E.wm]? := ht.keep _ h.wm.2.1 (fun hs => h.wm.1 (hS _ hs))
  refine ⟨h.below.trans (ht.to_below h.base_le hb), hL, ⟨by rw [hk]; exact h.fm.1, Nat.lt_of_lt_of_le h.fm.2.1 ht.size, h.fm.2.2⟩, ⟨by rw [hk]; exact h.wm.1, Nat.lt_of_lt_of_le h.wm.2.1 ht.size, h.wm.2.2⟩, ?_, ?_, by rw [hk]; exact h.cvk, by rw [hk]; exact h.tvk, h.apart, fun k hk => (h.fns k hk).keep kf, fun k hk => (h.wds k hk).keep kw⟩
  · exact Kd.R_mono (Kd.R_step (h.calls_in _ h.cvk) (fun k ho hlt => ht.keep k hlt (fun hs => ho.2.2 (hS k hs)))) (fun _ _ => trivial)
  · exact Kd.R_mono (Kd.R_step (h.trace_in _ h.tvk) (fun k ho hlt => ht.keep k hlt (fun hs => ho.2.2 (hS k hs)))) (fun _ _ => trivial)
theorem Hp.tr_ (h : Hp V W L cv tv cbs tr) (ht : Tr nil_ W w1) : Hp V w1 L cv tv cbs tr := h.move ht (fun _ h => h.elim) (h.lay.tr ht (fun _ _ h => h)) rfl
theorem Hp.turn {A B : List Bk} {g : Nat} {cs cs' : Array Value} {t : TypeId} (h : Hp V W (A ++ (g, cs, t) :: B) cv tv cbs tr) (ht : Turned W w1 g cs' t) : Hp V w1 (A ++ (g, cs', t) :: B) cv tv cbs tr :=
  h.move ht.2 (fun k hk => by rw [show k = g from hk]; simp [keysOf]) (h.lay.turn ht.2 ht.1) (by simp [keysOf])
theorem Hp.at (h : Hp V W L cv tv cbs tr) {b : Bk} (hb : b ∈ L) : W.heap[b.1]? = some (.cells b.2.1 b.2.2 (0, 0)) := (h.lay.at_ b hb).2
theorem Hp.ne (h : Hp V W L cv tv cbs tr) {i j : Nat} {b c : Bk} (hi : L[i]? = some b) (hj : L[j]? = some c) (hne : i ≠ j) : b.1 ≠ c.1 := by
  intro e
  have hn := h.lay.apart
  have hi' := (List.getElem?_eq_some_iff.1 hi)
  have hj' := (List.getElem?_eq_some_iff.1 hj)
  obtain ⟨hi1, hi2⟩ := hi'
  obtain ⟨hj1, hj2⟩ := hj'
  have := (List.getElem_inj (h₀ := by simpa using hi1) (h₁ := by simpa using hj1) hn).1 (by simp [hi2, hj2, e])
  exact hne this
theorem Hp.printed {B : List Bk} {g : Nat} {cs cs' : Array Value} {t : TypeId} {z : Int} (h : Hp V W ((g, cs, t) :: B) cv tv cbs tr) (hg : w1.heap[g]? = some (.cells cs' t (0, 0)))
    (hR : (Kd.int .i32).R 21 w1 V.base (fun k => V.ok (keysOf ((g, cs, t) :: B)) k ∧ cv.ownBlock ≠ some k) tv' (tr ++ [z])) (ht : Tr (fun q => q = g ∨ some q = tv.ownBlock) W w1) : Hp V w1 ((g, cs', t) :: B) cv tv' cbs (tr ++ [z]) := by
  have hgk : g ∈ keysOf ((g, cs, t) :: B) := List.mem_cons_self
  have hgb : V.base ≤ g := (h.lay.at_ _ List.mem_cons_self).1
  have hS : ∀ k, (k = g ∨ some k = tv.ownBlock) → V.base ≤ k ∧ k ≠ V.E.fm ∧ k ≠ V.E.wm ∧ cv.ownBlock ≠ some k := by
    intro k hk
    rcases hk with rfl | hk
    · exact ⟨hgb, fun e => h.fm.1 (e ▸ hgk), fun e => h.wm.1 (e ▸ hgk), fun e => (h.cvk _ e).2.2 hgk⟩
    · have := h.tvk k hk.symm
      exact ⟨(own_ge1 h.trace k hk.symm).1, this.1, this.2.1, fun e => h.apart k e hk.symm⟩
  have kf : w1.heap[V.E.fm]? = W.heap[V.E.fm]? := ht.keep _ h.fm.2.1 (fun hs => (hS _ hs).2.1 rfl)
  have kw : w1.heap[V.E.wm]? = W.heap[V.E.wm]? := ht.keep _ h.wm.2.1 (fun hs => (hS _ hs).2.2.1 rfl)
  refine ⟨h.below.trans (ht.to_below h.base_le (fun k hk => (hS k hk).1)), ?_, ⟨h.fm.1, Nat.lt_of_lt_of_le h.fm.2.1 ht.size, h.fm.2.2⟩, ⟨h.wm.1, Nat.lt_of_lt_of_le h.wm.2.1 ht.size, h.wm.2.2⟩, ?_, Kd.R_mono hR (fun _ _ => trivial), h.cvk, fun k hk => (hR.1 k hk).1, fun k hk e => (hR.1 k e).2 hk, fun k hk => (h.fns k hk).keep kf, fun k hk => (h.wds k hk).keep kw⟩
  · refine ⟨fun b hb => ?_, h.lay.apart⟩
    rcases List.mem_cons.1 hb with rfl | hb
    · exact ⟨hgb, hg⟩
    · have hm := List.mem_cons_of_mem (g, cs, t) hb
      refine ⟨(h.lay.at_ b hm).1, (ht.keep b.1 (h.lay.lt hm) ?_).trans (h.lay.at_ b hm).2⟩
      intro hs
      rcases hs with e | e
      · exact (List.nodup_cons.1 h.lay.apart).1 (show g ∈ B.map (·.1) from by rw [← e]; exact List.mem_map_of_mem hb)
      · exact (h.tvk _ e.symm).2.2 (List.mem_map_of_mem hm)
  · exact Kd.R_mono (Kd.R_step (h.calls_in (fun k => cv.ownBlock = some k) (fun _ h => h)) (fun k ho hlt => ht.keep k hlt (fun hs => (hS k hs).2.2.2 ho))) (fun _ _ => trivial)
theorem Hp.entered {B : List Bk} {g cb rb : Nat} {cs cs' cc rc : Array Value} {t tc tq : TypeId} (h : Hp V W ((g, cs, t) :: B) cv tv cbs tr) (hg : w1.heap[g]? = some (.cells cs' t (0, 0)))
    (hR : kptr.R 68 w1 V.base (fun k => (V.ok (keysOf ((g, cs, t) :: B)) k ∧ tv.ownBlock ≠ some k) ∧ k ≠ cb ∧ k ≠ rb) cv' (cbs ++ [cb])) (hc : w1.heap[cb]? = some (.cells cc tc (0, 0))) (hr : w1.heap[rb]? = some (.cells rc tq (0, 0)))
    (hc0 : W.heap.size ≤ cb) (hr0 : W.heap.size ≤ rb) (hne : cb ≠ rb) (ht : Tr (fun q => q = g ∨ some q = cv.ownBlock) W w1) : Hp V w1 ((g, cs', t) :: (cb, cc, tc) :: (rb, rc, tq) :: B) cv' tv (cbs ++ [cb]) tr := by
  have hgk : g ∈ keysOf ((g, cs, t) :: B) := List.mem_cons_self
  have hgb : V.base ≤ g := (h.lay.at_ _ List.mem_cons_self).1
  have hlt : ∀ k ∈ keysOf ((g, cs, t) :: B), k < W.heap.size := fun k hk => by
    obtain ⟨b, hm, e⟩ := List.mem_map.1 hk
    rw [← e]; exact h.lay.lt hm
  have hS : ∀ k, (k = g ∨ some k = cv.ownBlock) → V.base ≤ k ∧ k ≠ V.E.fm ∧ k ≠ V.E.wm ∧ tv.ownBlock ≠ some k := by
    intro k hk
    rcases hk with rfl | hk
    · exact ⟨hgb, fun e => h.fm.1 (e ▸ hgk), fun e => h.wm.1 (e ▸ hgk), fun e => (h.tvk _ e).2.2 hgk⟩
    · have := h.cvk k hk.symm
      exact ⟨(own_ge1 h.calls k hk.symm).1, this.1, this.2.1, fun e => h.apart k hk.symm e⟩
  have kf : w1.heap[V.E.fm]? = W.heap[V.E.fm]? := ht.keep _ h.fm.2.1 (fun hs => (hS _ hs).2.1 rfl)
  have kw : w1.heap[V.E.wm]? = W.heap[V.E.wm]? := ht.keep _ h.wm.2.1 (fun hs => (hS _ hs).2.2.1 rfl)
  have hkeys : ∀ k, k ∈ keysOf ((g, cs', t) :: (cb, cc, tc) :: (rb, rc, tq) :: B) ↔ k ∈ keysOf ((g, cs, t) :: B) ∨ k = cb ∨ k = rb := by
    intro k; simp only [keysOf, List.map_cons, List.mem_cons]
    constructor
    · rintro (h1 | h1 | h1 | h1)
      · exact .inl (.inl h1)
      · exact .inr (.inl h1)
      · exact .inr (.inr h1)
      · exact .inl (.inr h1)
    · rintro ((h1 | h1) | h1 | h1)
      · exact .inl h1
      · exact .inr (.inr (.inr h1))
      · exact .inr (.inl h1)
      · exact .inr (.inr (.inl h1))
  have hbW := h.base_le
  refine ⟨h.below.trans (ht.to_below h.base_le (fun k hk => (hS k hk).1)), ?_, ⟨?_, Nat.lt_of_lt_of_le h.fm.2.1 ht.size, h.fm.2.2⟩, ⟨?_, Nat.lt_of_lt_of_le h.wm.2.1 ht.size, h.wm.2.2⟩, Kd.R_mono hR (fun _ _ => trivial), ?_, ?_, ?_, ?_, fun k hk => (h.fns k hk).keep kf, fun k hk => (h.wds k hk).keep kw⟩
  · constructor
    · intro b hb
      rcases List.mem_cons.1 hb with rfl | hb
      · exact ⟨hgb, hg⟩
      rcases List.mem_cons.1 hb with rfl | hb
      · exact ⟨Nat.le_trans hbW hc0, hc⟩
      rcases List.mem_cons.1 hb with rfl | hb
      · exact ⟨Nat.le_trans hbW hr0, hr⟩
      · have hm := List.mem_cons_of_mem (g, cs, t) hb
        refine ⟨(h.lay.at_ b hm).1, (ht.keep b.1 (h.lay.lt hm) ?_).trans (h.lay.at_ b hm).2⟩
        intro hs
        rcases hs with e | e
        · exact (List.nodup_cons.1 h.lay.apart).1 (show g ∈ B.map (·.1) from by rw [← e]; exact List.mem_map_of_mem hb)
        · exact (h.cvk _ e.symm).2.2 (List.mem_map_of_mem hm)
    · have hn := h.lay.apart
      simp only [List.map_cons, List.nodup_cons, List.mem_cons, not_or] at hn ⊢
      have h1 : ∀ b ∈ B, b.1 < W.heap.size := fun b hb => h.lay.lt (List.mem_cons_of_mem _ hb)
      have hgl : g < W.heap.size := hlt g hgk
      have hB : ∀ k, W.heap.size ≤ k → k ∉ B.map (·.1) := fun k hk hm => by
        obtain ⟨b, hb, e⟩ := List.mem_map.1 hm
        have := h1 b hb
        omega
      exact ⟨⟨by omega, by omega, hn.1⟩, ⟨hne, hB cb hc0⟩, hB rb hr0, hn.2⟩
  · rw [hkeys]; have := h.fm.2.1; rintro (h1 | h1 | h1)
    · exact h.fm.1 h1
    · omega
    · omega
  · rw [hkeys]; have := h.wm.2.1; rintro (h1 | h1 | h1)
    · exact h.wm.1 h1
    · omega
    · omega
  · exact Kd.R_mono (Kd.R_step (h.trace_in (fun k => tv.ownBlock = some k) (fun _ h => h)) (fun k ho hlt => ht.keep k hlt (fun hs => (hS k hs).2.2.2 ho))) (fun _ _ => trivial)
  · intro k hk
    have := hR.1 k hk
    refine ⟨this.1.1.1, this.1.1.2.1, ?_⟩
    rw [hkeys]
    rintro (h1 | h1 | h1)
    · exact this.1.1.2.2 h1
    · exact this.2.1 h1
    · exact this.2.2 h1
  · intro k hk
    have h1 := h.tvk k hk
    have h2 := (own_ge1 h.trace k hk).2
    refine ⟨h1.1, h1.2.1, ?_⟩
    rw [hkeys]
    rintro (h3 | h3 | h3)
    · exact h1.2.2 h3
    · omega
    · omega
  · exact fun k hk e => (hR.1 k hk).1.2 e
theorem Hp.left {B : List Bk} {g : Nat} {cs cs' : Array Value} {t : TypeId} {b1 b2 : Bk} {A : Option Addr} {n c : Nat} (h : Hp V W ((g, cs, t) :: b1 :: b2 :: B) (.slice A n c) tv cbs tr) (hg : w1.heap[g]? = some (.cells cs' t (0, 0))) (ht : Tr (one g) W w1)
    {k : Nat} (hk : k ≤ cbs.length) : Hp V w1 ((g, cs', t) :: B) (.slice A k c) tv (cbs.take k) tr := by
  have h1 : Hp V w1 ((g, cs', t) :: b1 :: b2 :: B) (.slice A n c) tv cbs tr := Hp.turn (A := []) h ⟨hg, ht⟩
  have hsub : ∀ b, b ∈ (g, cs', t) :: B → b ∈ (g, cs', t) :: b1 :: b2 :: B := fun b hb => by
    rcases List.mem_cons.1 hb with rfl | hb
    · exact List.mem_cons_self
    · exact List.mem_cons_of_mem _ (List.mem_cons_of_mem _ (List.mem_cons_of_mem _ hb))
  have hsk : ∀ q, q ∈ keysOf ((g, cs', t) :: B) → q ∈ keysOf ((g, cs', t) :: b1 :: b2 :: B) := fun q hq => by
    obtain ⟨b, hb, e⟩ := List.mem_map.1 hq
    exact e ▸ List.mem_map_of_mem (hsub b hb)
  have hob : (Value.slice A k c).ownBlock = (Value.slice A n c).ownBlock := by cases A <;> rfl
  refine ⟨h1.below, ⟨fun b hb => h1.lay.at_ b (hsub b hb), ?_⟩, ⟨fun hm => h1.fm.1 (hsk _ hm), h1.fm.2⟩, ⟨fun hm => h1.wm.1 (hsk _ hm), h1.wm.2⟩, Kd.R_take h1.calls hk, h1.trace, ?_, ?_, ?_, h1.fns, h1.wds⟩
  · have hn := h1.lay.apart
    simp only [List.map_cons, List.nodup_cons, List.mem_cons, not_or] at hn ⊢
    exact ⟨hn.1.2.2, hn.2.2.2⟩
  · intro q hq; rw [hob] at hq; have := h1.cvk q hq; exact ⟨this.1, this.2.1, fun hm => this.2.2 (hsk _ hm)⟩
  · intro q hq; have := h1.tvk q hq; exact ⟨this.1, this.2.1, fun hm => this.2.2 (hsk _ hm)⟩
  · intro q hq; rw [hob] at hq; exact h1.apart q hq
end
end Go.Proofs.Ytabkinlpbefjgaa.L

namespace Go.Proofs.Ytabkinlpbefjgaa.L
open Go.RowKit Go.Proofs.Ytabkinlpbefjgaa.X Go.Proofs.YtabkinlpbefjgaaW.PrintWords Go.Proofs.YtabkinlpbefjgaaW.PrintLast Go.Proofs.YtabkinlpbefjgaaW.PrintMore
attribute [local go_sem] max2_int min2_int max_two min_two max_three min_three max_four min_four   -- for this text's walks alone
set_option linter.unusedVariables false
set_option linter.unusedSimpArgs false
open Go.Proofs.Ytabkinlpbefjgaa.Pure
theorem insF_st {GS : List S57} {inp : List Int} {x : S44} {regs r : List Int} {G G2 : Gl} (h : insF GS inp x regs G = .go r G2) : G2.st = G.st ∧ G2.tr.length ≤ G.tr.length + 1 := by
  unfold insF at h
  split at h
  · injection h with h1 h2; subst h2; exact ⟨rfl, Nat.le_succ _⟩
  split at h
  · injection h with h1 h2; subst h2; exact ⟨rfl, Nat.le_succ _⟩
  split at h
  · injection h with h1 h2; subst h2; exact ⟨rfl, Nat.le_succ _⟩
  split at h
  · split at h
    · injection h with h1 h2; subst h2; exact ⟨rfl, Nat.le_succ _⟩
    · cases h
  split at h
  · split at h
    · cases h
    · injection h with h1 h2; subst h2; exact ⟨rfl, Nat.le_succ _⟩
  split at h
  · split at h
    · cases h
    · injection h with h1 h2; subst h2; exact ⟨rfl, Nat.le_succ _⟩
  split at h
  · cases h
  split at h
  · split at h
    · injection h with h1 h2; subst h2; exact ⟨rfl, Nat.le_succ _⟩
    · injection h with h1 h2; subst h2; exact ⟨rfl, Nat.le_succ _⟩
  · injection h with h1 h2; subst h2; exact ⟨rfl, by show (G.tr ++ [_]).length ≤ _; simp⟩
theorem bytes_ext {a b : ByteArray} (h : a.toList = b.toList) : a = b := by
  rw [ByteArray.toList_eq, ByteArray.toList_eq] at h
  cases a; cases b
  congr 1
  exact Array.toList_inj.1 h
theorem fnAt_name {F : List S47} {n : ByteArray} (h : fnAt F n < F.length) : (fnOf F (fnAt F n)).f0 = n := by
  unfold fnOf
  rw [List.getD_eq_getElem?_getD, List.getElem?_eq_getElem h]
  have h2 : (F[fnAt F n].f0.toList == n.toList) = true := List.findIdx_getElem (p := fun f : S47 => f.f0.toList == n.toList) (w := h)
  exact bytes_ext (eq_of_beq h2)
theorem glAt_name {GS : List S57} {n : ByteArray} (h : glAt GS n < GS.length) : (GS.getD (glAt GS n) z57).f0 = n := by
  rw [List.getD_eq_getElem?_getD, List.getElem?_eq_getElem h]
  have h2 : (GS[glAt GS n].f0.toList == n.toList) = true := List.findIdx_getElem (p := fun f : S57 => f.f0.toList == n.toList) (w := h)
  exact bytes_ext (eq_of_beq h2)
def wdB : List Nat → List (List Int) → List Bk
  | b :: bs, l :: ls => (b, row32 l, 21) :: wdB bs ls
  | _, _ => []
theorem wd_split : ∀ (bs : List Nat) (ws : List (List Int)) (k : Nat), k < bs.length → bs.length = ws.length →
    ∃ A B, wdB bs ws = A ++ (bs.getD k 0, row32 (ws.getD k []), 21) :: B ∧ ∀ l, wdB bs (ws.set k l) = A ++ (bs.getD k 0, row32 l, 21) :: B
  | [], _, _, h, _ => absurd h (by simp)
  | b :: bs, [], _, _, h => absurd h (by simp)
  | b :: bs, w :: ws, 0, _, _ => ⟨[], wdB bs ws, rfl, fun _ => rfl⟩
  | b :: bs, w :: ws, k + 1, h, e => by
    obtain ⟨A, B, h1, h2⟩ := wd_split bs ws k (by simpa using h) (by simpa using e)
    refine ⟨(b, row32 w, 21) :: A, B, ?_, fun l => ?_⟩
    · simp only [wdB, h1, List.cons_append, List.getD_cons_succ]
    · simp only [List.set_cons_succ, wdB, h2, List.cons_append, List.getD_cons_succ]
abbrev Kf := Nat × Nat × Fr
def Rv.frC (V : Rv) (rb : Nat) (fr : Fr) : Array Value := fC (V.fa fr.fn) rb fr.regs.length fr.blk fr.ins fr.d
def Rv.frBs (V : Rv) : List Kf → List Bk
  | [] => []
  | (cb, rb, fr) :: q => (cb, V.frC rb fr, 70) :: (rb, row32 fr.regs, 21) :: V.frBs q
def Rv.LL (V : Rv) (ks : List Kf) (G : Gl) (en va : Int) (cv tv : Value) : List Bk := (V.mb, mC V.E ⟨cv, en, va, tv, G.st, G.rd⟩, 54) :: (V.frBs ks ++ (wdB V.wbs G.words ++ V.xs))
def cbsOf (ks : List Kf) : List Nat := (ks.map (·.1)).reverse
def Inv (V : Rv) (W : World) (ks : List Kf) (G : Gl) : Prop := ∃ cv tv, Hp V W (V.LL ks G 0 0 cv tv) cv tv (cbsOf ks) G.tr
structure RvOk (V : Rv) : Prop where
  hiv : V.E.iv = .slice V.AI V.inp.length V.ci
  hinp : (Kd.int .i32).C V.w0 V.AI V.inp.length V.inp
  hF : Kd.C k47 V.w0 (some V.A) V.F.length V.F
  mid : OkMid V.F V.GS
  w32 : ∀ v ∈ V.inp, W32 v
  len : V.inp.length ≤ 1000000
  wb : V.wbs.length = V.GS.length
def pan (c : Int) : Ending := .panicked [{ v := .iface 66 (.int .i64 c), recovered := false }]
def InsPost (V : Rv) (cb rb : Nat) (fr : Fr) (rest : List Kf) (x : S44) (G : Gl) (e : Ending) (w' : World) : Prop :=
  match insF V.GS V.inp x fr.regs G with
  | .go r G2 => e = .returned (.tuple #[]) ∧ Inv V w' ((cb, rb, { fr with regs := r }) :: rest) G2
  | .stop c => e = pan c ∧ Inv V w' ((cb, rb, fr) :: rest) G
  | .call args => if 31 ≤ rest.length then e = pan 4 ∧ Inv V w' ((cb, rb, fr) :: rest) G else e = .returned (.tuple #[]) ∧ ∃ cb2 rb2, Inv V w' ((cb2, rb2, newFr V.F x.f6 args x.f2) :: (cb, rb, fr) :: rest) G
theorem LL_cons (V : Rv) (cb rb : Nat) (fr : Fr) (rest : List Kf) (G : Gl) (en va : Int) (cv tv : Value) : V.LL ((cb, rb, fr) :: rest) G en va cv tv = (V.mb, mC V.E ⟨cv, en, va, tv, G.st, G.rd⟩, 54) :: (cb, V.frC rb fr, 70) :: (rb, row32 fr.regs, 21) :: (V.frBs rest ++ (wdB V.wbs G.words ++ V.xs)) := rfl
structure Top (V : Rv) (W : World) (cb rb : Nat) (fr : Fr) (G : Gl) (cv tv : Value) : Prop where
  m : W.heap[V.mb]? = some (.cells (mC V.E ⟨cv, 0, 0, tv, G.st, G.rd⟩) 54 (0, 0))
  c : W.heap[cb]? = some (.cells (V.frC rb fr) 70 (0, 0))
  r : W.heap[rb]? = some (.cells (row32 fr.regs) 21 (0, 0))
  cm : cb ≠ V.mb
  rm : rb ≠ V.mb
  rc : rb ≠ cb
theorem Hp.top {V : Rv} {W : World} {cb rb : Nat} {fr : Fr} {rest : List Kf} {G : Gl} {cv tv : Value} {cbs : List Nat} {tr : List Int} (h : Hp V W (V.LL ((cb, rb, fr) :: rest) G 0 0 cv tv) cv tv cbs tr) : Top V W cb rb fr G cv tv := by
  rw [LL_cons] at h
  exact ⟨h.at List.mem_cons_self, h.at (List.mem_cons_of_mem _ List.mem_cons_self), h.at (List.mem_cons_of_mem _ (List.mem_cons_of_mem _ List.mem_cons_self)), (h.ne (i := 1) (j := 0) rfl rfl (by decide)), (h.ne (i := 2) (j := 0) rfl rfl (by decide)), (h.ne (i := 2) (j := 1) rfl rfl (by decide))⟩
theorem Hp.two {V : Rv} {W w1 : World} {cv tv : Value} {cbs : List Nat} {tr : List Int} {B : List Bk} {b1 : Bk} {g r : Nat} {cs cs' rc rc' : Array Value} {t tq : TypeId} (h : Hp V W ((g, cs, t) :: b1 :: (r, rc, tq) :: B) cv tv cbs tr) (hg : w1.heap[g]? = some (.cells cs' t (0, 0)))
    (hr : w1.heap[r]? = some (.cells rc' tq (0, 0))) (ht : Tr (fun q => q = g ∨ q = r) W w1) : Hp V w1 ((g, cs', t) :: b1 :: (r, rc', tq) :: B) cv tv cbs tr := by
  refine h.move ht (fun k hk => ?_) ?_ rfl
  · rcases hk with rfl | rfl <;> simp [keysOf]
  · have hn := h.lay.apart
    refine ⟨fun b hb => ?_, hn⟩
    simp only [List.map_cons, List.nodup_cons, List.mem_cons, not_or] at hn
    rcases List.mem_cons.1 hb with rfl | hb
    · exact ⟨(h.lay.at_ _ List.mem_cons_self).1, hg⟩
    rcases List.mem_cons.1 hb with rfl | hb
    · have hm : b ∈ (g, cs, t) :: b :: (r, rc, tq) :: B := List.mem_cons_of_mem _ List.mem_cons_self
      exact ⟨(h.lay.at_ b hm).1, (ht.keep b.1 (h.lay.lt hm) (by rintro (e | e); exact hn.1.1 e.symm; exact hn.2.1.1 e)).trans (h.lay.at_ b hm).2⟩
    rcases List.mem_cons.1 hb with rfl | hb
    · exact ⟨(h.lay.at_ (r, rc, tq) (List.mem_cons_of_mem _ (List.mem_cons_of_mem _ List.mem_cons_self))).1, hr⟩
    · have hm : b ∈ (g, cs, t) :: b1 :: (r, rc, tq) :: B := List.mem_cons_of_mem _ (List.mem_cons_of_mem _ (List.mem_cons_of_mem _ hb))
      have hbm : b.1 ∈ B.map (·.1) := List.mem_map_of_mem hb
      exact ⟨(h.lay.at_ b hm).1, (ht.keep b.1 (h.lay.lt hm) (by rintro (e | e); exact hn.1.2.2 (e ▸ hbm); exact hn.2.2.1 (e ▸ hbm))).trans (h.lay.at_ b hm).2⟩
theorem Inv.regs {V : Rv} {W w1 : World} {cb rb : Nat} {fr : Fr} {rest : List Kf} {G : Gl} {cv tv : Value} {r : List Int} (hl : r.length = fr.regs.length) (h : Hp V W (V.LL ((cb, rb, fr) :: rest) G 0 0 cv tv) cv tv (cbsOf ((cb, rb, fr) :: rest)) G.tr) (ht : Turned W w1 rb (row32 r) 21) :
    Inv V w1 ((cb, rb, { fr with regs := r }) :: rest) G := by
  refine ⟨cv, tv, ?_⟩
  rw [LL_cons] at h ⊢
  have h2 := Hp.turn (A := [(V.mb, mC V.E ⟨cv, 0, 0, tv, G.st, G.rd⟩, 54), (cb, V.frC rb fr, 70)]) h ht
  have e : V.frC rb { fr with regs := r } = V.frC rb fr := by unfold Rv.frC; rw [hl]
  rw [e]
  exact h2
def Rv.LL_head (V : Rv) (ks : List Kf) (G : Gl) (cv tv : Value) : List Bk := (V.mb, mC V.E ⟨cv, 0, 0, tv, G.st, G.rd⟩, 54) :: V.frBs ks
theorem word_lens {V : Rv} (hV : RvOk V) {G : Gl} (hG : OkGl V.GS G) : V.wbs.length = G.words.length := by
  have := congrArg List.length hG.words
  rw [List.length_map, List.length_map] at this
  rw [hV.wb, this]
theorem word_case {V : Rv} (hV : RvOk V) {W : World} {cb rb : Nat} {fr : Fr} {rest : List Kf} {G : Gl} {cv tv : Value} {cbs : List Nat} {tr : List Int} (h : Hp V W (V.LL ((cb, rb, fr) :: rest) G 0 0 cv tv) cv tv cbs tr) (hF : OkFr V.F fr) (hG : OkGl V.GS G) (x : S44)
    (hA : x.f3 = -1 ∨ 0 ≤ x.f3 ∧ x.f3 < (fnOf V.F fr.fn).f2) (hg : glAt V.GS x.f6 < V.GS.length) (av : Value) (hav : av.oneCell' = true) :
    (wordIx V.GS x fr.regs G = none ∧ ∀ w1, Tr nil_ W w1 → Calls Try.prog 37 #[.pointer (some ⟨V.mb, 0, none⟩), .pointer (some ⟨cb, 0, none⟩), .agg (xC x av)] w1 fun e w' => e = .panicked [{ v := .iface 66 (.int .i64 3), recovered := false }] ∧ Tr nil_ w1 w') ∨
    ∃ gi j, wordIx V.GS x fr.regs G = some (gi, j) ∧ gi < V.wbs.length ∧ j < (G.words.getD gi []).length ∧
      ∀ w1, Tr nil_ W w1 → Calls Try.prog 37 #[.pointer (some ⟨V.mb, 0, none⟩), .pointer (some ⟨cb, 0, none⟩), .agg (xC x av)] w1 fun e w' => e = .returned (.pointer (some ⟨V.wbs.getD gi 0, j, none⟩)) ∧ Tr nil_ w1 w' := by
  have hrg := hF.regs
  have hln : (G.words.getD (glAt V.GS x.f6) []).length = wsize (V.GS.getD (glAt V.GS x.f6) z57) := wlen hG hg
  have hsz := hV.mid.size (V.GS.getD (glAt V.GS x.f6) z57) (by rw [List.getD_eq_getElem?_getD, List.getElem?_eq_getElem hg]; exact List.getElem_mem hg)
  have hw0 : 0 < wsize (V.GS.getD (glAt V.GS x.f6) z57) ∧ wsize (V.GS.getD (glAt V.GS x.f6) z57) ≤ 1000000 := by unfold wsize; omega
  have hmp : ∀ w1, Tr nil_ W w1 → MapAt 51 V.E.wm w1 x.f6 (.slice (some ⟨V.wbs.getD (glAt V.GS x.f6) 0, 0, none⟩) (wsize (V.GS.getD (glAt V.GS x.f6) z57)) (wsize (V.GS.getD (glAt V.GS x.f6) z57))) := fun w1 ht => by
    have := (h.tr_ ht).wds _ hg
    rwa [glAt_name hg] at this
  by_cases h3 : x.f3 < 0
  · refine .inr ⟨glAt V.GS x.f6, 0, ?_, by rw [hV.wb]; exact hg, by rw [hln]; exact hw0.1, fun w1 ht => ?_⟩
    · unfold wordIx; rw [if_pos h3]
    · have h1 := h.tr_ ht
      exact word_no V.E _ w1 V.mb h1.top.m _ x av hav _ _ (hmp w1 ht) h1.wm.2.1 h3 hw0.1
  · have hA2 : 0 ≤ x.f3 ∧ x.f3 < (fr.regs.length : Int) := by omega
    have hw := W32.get hF.w32 x.f3
    by_cases hc : 0 ≤ get32 fr.regs x.f3 ∧ get32 fr.regs x.f3 < ((G.words.getD (glAt V.GS x.f6) []).length : Int)
    · refine .inr ⟨glAt V.GS x.f6, (get32 fr.regs x.f3).toNat, ?_, by rw [hV.wb]; exact hg, by omega, fun w1 ht => ?_⟩
      · unfold wordIx; rw [if_neg h3, if_pos hc]
      · have h1 := h.tr_ ht
        exact word_at V.E _ w1 V.mb h1.top.m cb _ rb _ _ _ _ h1.top.c fr.regs h1.top.r rfl x av hav _ _ (hmp w1 ht) h1.wm.2.1 hA2.1 hA2.2 hc.1 (by rw [← hln]; exact hc.2) hw0.2 hw.1 hw.2
    · refine .inl ⟨?_, fun w1 ht => ?_⟩
      · unfold wordIx; rw [if_neg h3, if_neg hc]
      · have h1 := h.tr_ ht
        exact word_out V.E _ w1 V.mb h1.top.m cb _ rb _ _ _ _ h1.top.c fr.regs h1.top.r rfl x av hav _ _ (hmp w1 ht) h1.wm.2.1 hA2.1 hA2.2 (by rw [hln] at hc; omega) hw0.2 hw.1 hw.2
set_option maxHeartbeats 2000000 in
theorem ins_inv {V : Rv} (hV : RvOk V) {W : World} {cb rb : Nat} {fr : Fr} {rest : List Kf} {G : Gl} (hI : Inv V W ((cb, rb, fr) :: rest) G) (hF : OkFr V.F fr) (hG : OkGl V.GS G) (x : S44) (hX : OkIns V.F V.GS (fnOf V.F fr.fn).f2 x) (hrl : rest.length ≤ 31) (htr : G.tr.length ≤ 1000000)
    (A7 : Option Addr) (c7 : Nat) (hc7 : x.f7.length ≤ c7) (h7 : (Kd.int .i64).C W A7 x.f7.length x.f7) :
    Calls Try.prog 26 #[.pointer (some ⟨V.mb, 0, none⟩), .pointer (some ⟨cb, 0, none⟩), .agg (xC x (.slice A7 x.f7.length c7))] W (InsPost V cb rb fr rest x G) := by
  obtain ⟨cv, tv, h⟩ := hI
  have T := h.top
  have hrg := hF.regs
  obtain ⟨k, op, D, A, B, num, nm, args⟩ := x
  unfold InsPost
  have hk := hX.kind
  simp only at hk hc7 h7
  unfold Rv.frC at T
  by_cases h1 : k = 1
  · subst h1
    have hd := hX.dst (by simp) (by simp) (by simp)
    refine (ins_num _ rb fr.regs _ rfl _ _ _ W _ cb T.c T.r T.rc op D A B num nm _ rfl hd.1 (by have := hd.2; simp only at this; omega)).mono ?_
    rintro e w' ⟨he, ht⟩
    exact ⟨he, Inv.regs (put32_length _ _ _) h ht⟩
  by_cases h2 : k = 2
  · subst h2
    have hd := hX.dst (by simp) (by simp) (by simp)
    have ha := hX.a (by simp)
    simp only at hd ha
    refine (ins_copy _ rb fr.regs _ rfl _ _ _ W _ cb T.c T.r T.rc op D A B num nm _ rfl hd.1 (by omega) ha.1 (by omega)).mono ?_
    rintro e w' ⟨he, ht⟩
    exact ⟨he, Inv.regs (put32_length _ _ _) h ht⟩
  by_cases h3 : k = 3
  · subst h3
    have hd := hX.dst (by simp) (by simp) (by simp)
    have ha := hX.a (by simp)
    simp only at hd ha
    refine (ins_un _ rb fr.regs _ rfl _ _ _ W _ cb T.c T.r T.rc op D A B num nm _ rfl hd.1 (by omega) ha.1 (by omega) (W32.get hF.w32 _)).mono ?_
    rintro e w' ⟨he, ht⟩
    exact ⟨he, Inv.regs (put32_length _ _ _) h ht⟩
  by_cases h4 : k = 4
  · subst h4
    have hd := hX.dst (by simp) (by simp) (by simp)
    have ha := hX.a (by simp)
    have hb := hX.b (by simp)
    simp only at hd ha hb
    by_cases hok : (binV op (get32 fr.regs A) (get32 fr.regs B)).2 = true
    · have e1 : insF V.GS V.inp ⟨4, op, D, A, B, num, nm, args⟩ fr.regs G = .go (put32 fr.regs D (binV op (get32 fr.regs A) (get32 fr.regs B)).1) G := by
        unfold insF; simp only [hok]; rfl
      rw [e1]
      refine (ins_bin _ rb fr.regs _ rfl _ _ _ W _ cb T.c T.r T.rc op D A B num nm _ rfl hd.1 (by omega) ha.1 (by omega) hb.1 (by omega) (W32.get hF.w32 _) (W32.get hF.w32 _) hok).mono ?_
      rintro e w' ⟨he, ht⟩
      exact ⟨he, Inv.regs (put32_length _ _ _) h ht⟩
    · have e1 : insF V.GS V.inp ⟨4, op, D, A, B, num, nm, args⟩ fr.regs G = .stop 2 := by
        unfold insF; simp only [hok]; rfl
      rw [e1]
      refine (ins_div _ rb fr.regs _ rfl _ _ _ W _ cb T.c T.r T.rc op D A B num nm _ rfl hd.1 (by omega) ha.1 (by omega) hb.1 (by omega) (W32.get hF.w32 _) (W32.get hF.w32 _) (by simpa using hok)).mono ?_
      rintro e w' ⟨he, ht⟩
      exact ⟨he, cv, tv, h.tr_ ht⟩
  by_cases h5 : k = 5
  · subst h5
    have hd := hX.dst (by simp) (by simp) (by simp)
    have hm := hX.mem (by simp)
    simp only at hd hm
    have hmem : (fr.regs.length : Int) = (fr.regs.length : Int) := rfl
    rcases word_case hV h hF hG ⟨5, op, D, A, B, num, nm, args⟩ hm.1 hm.2 (.slice A7 args.length c7) rfl with ⟨hn, hp⟩ | ⟨gi, j, hs, hgi, hj, hp⟩
    · have e1 : insF V.GS V.inp ⟨5, op, D, A, B, num, nm, args⟩ fr.regs G = .stop 3 := by
        unfold insF; simp only [hn]; rfl
      rw [e1]
      refine (ins_load_out _ rb fr.regs _ rfl _ _ _ W _ cb T.c T.r T.rc op D A B num nm _ rfl hp hd.1 (by omega)).mono ?_
      rintro e w' ⟨he, ht⟩
      exact ⟨he, cv, tv, h.tr_ ht⟩
    · have e1 : insF V.GS V.inp ⟨5, op, D, A, B, num, nm, args⟩ fr.regs G = .go (put32 fr.regs D ((G.words.getD gi []).getD j 0)) G := by
        unfold insF; simp only [hs]; rfl
      rw [e1]
      obtain ⟨LA, LB, hw1, _⟩ := wd_split V.wbs G.words gi hgi (word_lens hV hG)
      have hwb := h.at (b := (V.wbs.getD gi 0, row32 (G.words.getD gi []), 21)) (by unfold Rv.LL; rw [hw1]; simp)
      have hz := row32_cell hwb (j : Int) (by omega) (by omega)
      rw [Int.toNat_natCast] at hz
      have hz2 : get32 (G.words.getD gi []) (j : Int) = (G.words.getD gi []).getD j 0 := by unfold get32; rw [Int.toNat_natCast]
      rw [hz2] at hz
      refine (ins_load _ rb fr.regs _ rfl _ _ _ W _ cb T.c T.r T.rc op D A B num nm _ rfl hd.1 (by omega) (V.wbs.getD gi 0) j _ hz hp).mono ?_
      rintro e w' ⟨he, ht⟩
      exact ⟨he, Inv.regs (put32_length _ _ _) h ht⟩
  by_cases h6 : k = 6
  · subst h6
    have hb := hX.b (by simp)
    have hm := hX.mem (by simp)
    simp only at hb hm
    rcases word_case hV h hF hG ⟨6, op, D, A, B, num, nm, args⟩ hm.1 hm.2 (.slice A7 args.length c7) rfl with ⟨hn, hp⟩ | ⟨gi, j, hs, hgi, hj, hp⟩
    · have e1 : insF V.GS V.inp ⟨6, op, D, A, B, num, nm, args⟩ fr.regs G = .stop 3 := by
        unfold insF; simp only [hn]; rfl
      rw [e1]
      refine (ins_store_out _ rb fr.regs _ rfl _ _ _ W _ cb T.c T.r T.rc op D A B num nm _ rfl hp hb.1 (by omega)).mono ?_
      rintro e w' ⟨he, ht⟩
      exact ⟨he, cv, tv, h.tr_ ht⟩
    · have e1 : insF V.GS V.inp ⟨6, op, D, A, B, num, nm, args⟩ fr.regs G = .go fr.regs { G with words := G.words.set gi ((G.words.getD gi []).set j (get32 fr.regs B)) } := by
        unfold insF; simp only [hs]; rfl
      rw [e1]
      obtain ⟨LA, LB, hw1, hw2⟩ := wd_split V.wbs G.words gi hgi (word_lens hV hG)
      have hwb := h.at (b := (V.wbs.getD gi 0, row32 (G.words.getD gi []), 21)) (by unfold Rv.LL; rw [hw1]; simp)
      refine (ins_store _ rb fr.regs _ rfl _ _ _ W _ cb T.c T.r T.rc op D A B num nm _ rfl hb.1 (by omega) (V.wbs.getD gi 0) j 21 _ hwb (by rw [row32_size]; exact hj) hp).mono ?_
      rintro e w' ⟨he, ht⟩
      refine ⟨he, cv, tv, ?_⟩
      have e2 : (row32 (G.words.getD gi [])).setIfInBounds j (.int .i32 (get32 fr.regs B)) = row32 ((G.words.getD gi []).set j (get32 fr.regs B)) := by simp [row32, List.map_set]
      rw [e2] at ht
      have h8 : Hp V W ((V.LL_head ((cb, rb, fr) :: rest) G cv tv ++ LA) ++ (V.wbs.getD gi 0, row32 (G.words.getD gi []), 21) :: (LB ++ V.xs)) cv tv (cbsOf ((cb, rb, fr) :: rest)) G.tr := by
        have e3 : (V.LL_head ((cb, rb, fr) :: rest) G cv tv ++ LA) ++ (V.wbs.getD gi 0, row32 (G.words.getD gi []), 21) :: (LB ++ V.xs) = V.LL ((cb, rb, fr) :: rest) G 0 0 cv tv := by
          unfold Rv.LL Rv.LL_head; rw [hw1]; simp
        rw [e3]; exact h
      have h9 := Hp.turn h8 ht
      have e4 : (V.LL_head ((cb, rb, fr) :: rest) G cv tv ++ LA) ++ (V.wbs.getD gi 0, row32 ((G.words.getD gi []).set j (get32 fr.regs B)), 21) :: (LB ++ V.xs) = V.LL ((cb, rb, fr) :: rest) { G with words := G.words.set gi ((G.words.getD gi []).set j (get32 fr.regs B)) } 0 0 cv tv := by
        unfold Rv.LL Rv.LL_head; rw [hw2]; simp
      rw [e4] at h9
      exact h9
  by_cases h7k : k = 7
  · subst h7k
    obtain ⟨ha8, haix, hfa, hpl⟩ := hX.args rfl
    simp only at ha8 haix hfa hpl
    have e1 : insF V.GS V.inp ⟨7, op, D, A, B, num, nm, args⟩ fr.regs G = .call (args.map (get32 fr.regs)) := rfl
    rw [e1]
    have hlen : (cbsOf ((cb, rb, fr) :: rest)).length = rest.length + 1 := by simp [cbsOf]
    have hix : ∀ i ∈ args, 0 ≤ i ∧ i < (fr.regs.length : Int) := fun i hi => by have := haix i hi; omega
    by_cases hdeep : 31 ≤ rest.length
    · simp only [if_pos hdeep]
      refine (ins_call_full _ rb fr.regs _ rfl _ _ _ W _ cb T.c T.r op D A B num nm A7 args.length c7 hc7 args h7 hix ha8 (fun w' => Inv V w' ((cb, rb, fr) :: rest) G) (fun w1 A2 c2 ht hC hl => ?_)).mono ?_
      · have h1 := h.tr_ ht
        obtain ⟨A0, cc, hcv⟩ := Kd.R_slice h1.calls
        refine (enter_full V.E _ w1 V.mb h1.top.m A0 _ cc hcv (by rw [hlen]; omega) nm _ D).mono ?_
        rintro e w' ⟨he, hw⟩
        subst hw
        exact ⟨he, cv, tv, h1⟩
      · exact fun e w' hh => hh
    · simp only [if_neg hdeep]
      refine (ins_call_ok _ rb fr.regs _ rfl _ _ _ W _ cb T.c T.r op D A B num nm A7 args.length c7 hc7 args h7 hix ha8 (fun w' => ∃ cb2 rb2, Inv V w' ((cb2, rb2, newFr V.F nm (args.map (get32 fr.regs)) D) :: (cb, rb, fr) :: rest) G) (fun w1 A2 c2 ht hC hl => ?_)).mono ?_
      · have h1 := h.tr_ ht
        have hf := hV.mid.fns _ (fnOf_mem hfa)
        have hpp := hf.params
        have hmp := h1.fns _ hfa
        rw [fnAt_name hfa] at hmp
        have hFw := Kd.C_below hV.hF h1.below
        obtain ⟨ad, A3, c3, had, hc0, hc1, hc2, hc3⟩ := at_T47 hFw (fnAt V.F nm : Int) (by omega) (by omega)
        injection had with had
        subst had
        rw [Int.toNat_natCast] at hc2
        have hrd : (rd_T47 V.F (fnAt V.F nm : Int)).f2 = (((fnOf V.F (fnAt V.F nm)).f2.toNat : Nat) : Int) := by
          show (V.F.getD ((fnAt V.F nm : Int)).toNat z47).f2 = _
          rw [Int.toNat_natCast]
          show (fnOf V.F (fnAt V.F nm)).f2 = _
          omega
        rw [hrd] at hc2
        have hfr : ∀ k, w1.heap.size ≤ k → (V.ok (keysOf (V.LL ((cb, rb, fr) :: rest) G 0 0 cv tv)) k ∧ tv.ownBlock ≠ some k) := by
          intro k hk
          refine ⟨⟨by have := h1.fm.2.1; omega, by have := h1.wm.2.1; omega, fun hm => ?_⟩, fun e => by have := (own_ge1 h1.trace k e).2; omega⟩
          obtain ⟨b, hb, e⟩ := List.mem_map.1 hm
          have := h1.lay.lt hb
          omega
        refine (enter_ok V.E _ w1 V.mb V.base h1.top.m (fun k => V.ok (keysOf (V.LL ((cb, rb, fr) :: rest) G 0 0 cv tv)) k ∧ tv.ownBlock ≠ some k) _ (h1.calls_in _ (fun k hk => ⟨h1.cvk k hk, h1.apart k hk⟩)) (by rw [hlen]; omega) h1.base_le hfr (fun k hk e => hk.1.2.2 (by rw [e]; exact List.mem_cons_self)) nm A2 args.length c2 _ hC D (V.fa (fnAt V.F nm)) _ hmp hc2 (by omega) (by have := hf.regs; omega)).mono ?_
        rintro e w' ⟨he, cv2, cb2, rb2, g1, g2, g3, g4, g5, g6, g7, g8⟩
        refine ⟨he, cb2, rb2, cv2, tv, ?_⟩
        have hE := h1.entered (t := 54) (tc := 70) (tq := 21) g1 g2 g3 g4 g5 g6 g7 g8
        have hnl : (newFr V.F nm (args.map (get32 fr.regs)) D).regs.length = (fnOf V.F (fnAt V.F nm)).f2.toNat := by
          show ((args.map (get32 fr.regs)) ++ List.replicate _ 0).length = _
          rw [List.length_append, List.length_replicate, List.length_map]
          omega
        have hfc : V.frC rb2 (newFr V.F nm (args.map (get32 fr.regs)) D) = fC (V.fa (fnAt V.F nm)) rb2 (fnOf V.F (fnAt V.F nm)).f2.toNat 0 0 D := by
          unfold Rv.frC
          rw [hnl]
          rfl
        rw [show cbsOf ((cb2, rb2, newFr V.F nm (args.map (get32 fr.regs)) D) :: (cb, rb, fr) :: rest) = cbsOf ((cb, rb, fr) :: rest) ++ [cb2] from by simp [cbsOf], LL_cons, hfc]
        rw [List.length_map] at hE
        have hreg : (newFr V.F nm (args.map (get32 fr.regs)) D).regs = args.map (get32 fr.regs) ++ List.replicate ((fnOf V.F (fnAt V.F nm)).f2.toNat - args.length) 0 := by
          show args.map (get32 fr.regs) ++ List.replicate ((fnOf V.F (fnAt V.F nm)).f2.toNat - (args.map (get32 fr.regs)).length) 0 = _
          rw [List.length_map]
        rw [hreg]
        exact hE
      · exact fun e w' hh => hh
  by_cases h8 : k = 8
  · subst h8
    have hd := hX.dst (by simp) (by simp) (by simp)
    simp only at hd
    have hT := h.top
    by_cases hrd : G.rd < V.inp.length
    · have e1 : insF V.GS V.inp ⟨8, op, D, A, B, num, nm, args⟩ fr.regs G = .go (put32 fr.regs D (V.inp.getD G.rd 0)) { G with rd := G.rd + 1 } := by
        unfold insF; simp only [hrd]; rfl
      rw [e1]
      obtain ⟨ad, hAI, hcell⟩ := Kd.at_int hV.hinp (G.rd : Int) (by omega) (by omega)
      rw [Int.toNat_natCast] at hcell
      have hvv : rd V.inp (G.rd : Int) = V.inp.getD G.rd 0 := by unfold rd; rw [Int.toNat_natCast]
      rw [hvv] at hcell
      have hlt0 : ad.block < V.w0.heap.size := by rw [← add_block ad G.rd]; exact World.block_lt_of_cell? _ _ hcell
      have hmb : V.base ≤ V.mb := (h.lay.at_ _ List.mem_cons_self).1
      have hne : ad.block ≠ V.mb := by unfold Rv.base at hmb; omega
      refine (ins_read _ rb fr.regs _ rfl _ _ _ W _ cb T.c T.r T.rc op D A B num nm _ rfl hd.1 (by omega) V.mb 54 _ (mC V.E ⟨cv, 0, 0, tv, G.st, G.rd + 1⟩) T.m T.rm (V.inp.getD G.rd 0) (fun w1 ht => ?_)).mono ?_
      · have h1 := h.tr_ ht
        exact read_some V.E ⟨cv, 0, 0, tv, G.st, G.rd⟩ w1 V.mb h1.top.m ad _ V.ci (by rw [hV.hiv, hAI]) hrd (by have := hV.len; omega) _ (pw_cell_below h1.below hcell) hne
      · rintro e w' ⟨he, hg, hr, ht⟩
        refine ⟨he, cv, tv, ?_⟩
        have e2 : V.frC rb { fr with regs := put32 fr.regs D (V.inp.getD G.rd 0) } = V.frC rb fr := by unfold Rv.frC; rw [put32_length]
        rw [LL_cons, e2]
        exact Hp.two h hg hr ht
    · have e1 : insF V.GS V.inp ⟨8, op, D, A, B, num, nm, args⟩ fr.regs G = .go (put32 fr.regs D 0) G := by
        unfold insF; simp only [hrd]; rfl
      rw [e1]
      refine (ins_read _ rb fr.regs _ rfl _ _ _ W _ cb T.c T.r T.rc op D A B num nm _ rfl hd.1 (by omega) V.mb 54 _ (mC V.E ⟨cv, 0, 0, tv, G.st, G.rd⟩) T.m T.rm 0 (fun w1 ht => ?_)).mono ?_
      · have h1 := h.tr_ ht
        refine (read_none V.E ⟨cv, 0, 0, tv, G.st, G.rd⟩ w1 V.mb h1.top.m V.AI _ V.ci hV.hiv (by show V.inp.length ≤ G.rd; omega)).mono ?_
        rintro e w' ⟨he, ht2⟩
        exact ⟨he, ht2.blk h1.top.m (fun h => h), ht2.mono (fun _ h => h.elim)⟩
      · rintro e w' ⟨he, hg, hr, ht⟩
        refine ⟨he, cv, tv, ?_⟩
        have e2 : V.frC rb { fr with regs := put32 fr.regs D 0 } = V.frC rb fr := by unfold Rv.frC; rw [put32_length]
        rw [LL_cons, e2]
        exact Hp.two h hg hr ht
  · have h9 : k = 9 := by omega
    subst h9
    have ha := hX.a (by simp)
    simp only at ha
    have e1 : insF V.GS V.inp ⟨9, op, D, A, B, num, nm, args⟩ fr.regs G = .go fr.regs { G with tr := G.tr ++ [get32 fr.regs A] } := rfl
    rw [e1]
    have hfr : ∀ k, W.heap.size ≤ k → (V.ok (keysOf (V.LL ((cb, rb, fr) :: rest) G 0 0 cv tv)) k ∧ cv.ownBlock ≠ some k) := by
      intro k hk
      refine ⟨⟨by have := h.fm.2.1; omega, by have := h.wm.2.1; omega, fun hm => ?_⟩, fun e => by have := (own_ge1 h.calls k e).2; omega⟩
      obtain ⟨b, hb, e⟩ := List.mem_map.1 hm
      have := h.lay.lt hb
      omega
    have hmb : V.base ≤ V.mb := (h.lay.at_ _ List.mem_cons_self).1
    refine (ins_print _ rb fr.regs _ rfl _ _ _ W _ cb T.c T.r T.rc op D A B num nm _ rfl ha.1 (by omega) V.E ⟨cv, 0, 0, tv, G.st, G.rd⟩ V.mb V.base T.m rfl (fun k => V.ok (keysOf (V.LL ((cb, rb, fr) :: rest) G 0 0 cv tv)) k ∧ cv.ownBlock ≠ some k) G.tr (h.trace_in _ (fun k hk => ⟨h.tvk k hk, fun e => h.apart k e hk⟩)) h.base_le hmb hfr (fun k hk e => hk.1.2.2 (by rw [e]; exact List.mem_cons_self)) htr).mono ?_
    rintro e w' ⟨he, tv2, g1, g2, g3⟩
    exact ⟨he, cv, tv2, Hp.printed h g1 g2 g3⟩
end Go.Proofs.Ytabkinlpbefjgaa.L

namespace Go.Proofs.Ytabkinlpbefjgaa.L
open Go.RowKit Go.Proofs.Ytabkinlpbefjgaa.X Go.Proofs.YtabkinlpbefjgaaW.PrintWords Go.Proofs.YtabkinlpbefjgaaW.PrintLast Go.Proofs.YtabkinlpbefjgaaW.PrintMore
attribute [local go_sem] max2_int min2_int max_two min_two max_three min_three max_four min_four   -- for this text's walks alone
set_option linter.unusedVariables false
set_option linter.unusedSimpArgs false
def InvE (V : Rv) (W : World) (ks : List Kf) (G : Gl) (en va : Int) : Prop := ∃ cv tv, Hp V W (V.LL ks G en va cv tv) cv tv (cbsOf ks) G.tr
theorem calls_form {W : World} {base : Nat} {ok : Nat → Prop} {cv : Value} {cbs : List Nat} (h : kptr.R 68 W base ok cv cbs) (hn : 0 < cbs.length) :
    ∃ ab cap, cv = .slice (some ⟨ab, 0, none⟩) cbs.length cap ∧ cbs.length ≤ cap ∧ ∀ i (hi : i < cbs.length), W.cell? ⟨ab, i, none⟩ = some (.pointer (some ⟨cbs[i], 0, none⟩)) := by
  obtain ⟨_, inner, ho, hr⟩ := h
  rcases ho.2 with ⟨_, h0⟩ | ⟨g, cap, cur, rfl, hg, hh, h1, h2, h3, h4⟩
  · omega
  · refine ⟨g, cap, rfl, h1, fun i hi => ?_⟩
    have h5 := hr.2 i cbs[i] (List.getElem?_eq_getElem hi)
    have h6 : (inner.drop (i * 1)).take 1 = [.pointer (some ⟨cbs[i], 0, none⟩)] := h5
    have h7 : inner[i]? = some (.pointer (some ⟨cbs[i], 0, none⟩)) := by
      have := congrArg (fun l => l[0]?) h6
      simpa [List.getElem?_take] using this
    have hs : cbs.length * kptr.sz = cbs.length := Nat.mul_one _
    rw [hs] at h4
    rw [blk_cell hh, ← h7, ← h4, List.getElem?_take]
    simp [hi]
theorem Hp.two_ {V : Rv} {W w1 : World} {cv tv : Value} {cbs : List Nat} {tr : List Int} {A B : List Bk} {g r : Nat} {cs cs' rc rc' : Array Value} {t tq : TypeId} (h : Hp V W ((g, cs, t) :: (A ++ (r, rc, tq) :: B)) cv tv cbs tr) (hg : w1.heap[g]? = some (.cells cs' t (0, 0)))
    (hr : w1.heap[r]? = some (.cells rc' tq (0, 0))) (ht : Tr (fun q => q = g ∨ q = r) W w1) : Hp V w1 ((g, cs', t) :: (A ++ (r, rc', tq) :: B)) cv tv cbs tr := by
  refine h.move ht (fun k hk => ?_) ?_ (by simp [keysOf])
  · rcases hk with rfl | rfl <;> simp [keysOf]
  · have hn := h.lay.apart
    have hn' : (((g, cs', t) :: (A ++ (r, rc', tq) :: B)).map (·.1)).Nodup := by simpa using hn
    refine ⟨fun b hb => ?_, hn'⟩
    simp only [List.map_cons, List.map_append, List.nodup_cons, List.mem_append, List.mem_cons, not_or, List.nodup_append] at hn
    have old : ∀ b, b ∈ A ∨ b ∈ B → V.base ≤ b.1 ∧ w1.heap[b.1]? = some (.cells b.2.1 b.2.2 (0, 0)) := fun b hb => by
      have hm : b ∈ (g, cs, t) :: (A ++ (r, rc, tq) :: B) := by
        rcases hb with hb | hb
        · exact List.mem_cons_of_mem _ (List.mem_append_left _ hb)
        · exact List.mem_cons_of_mem _ (List.mem_append_right _ (List.mem_cons_of_mem _ hb))
      refine ⟨(h.lay.at_ b hm).1, (ht.keep b.1 (h.lay.lt hm) ?_).trans (h.lay.at_ b hm).2⟩
      rcases hb with hb | hb
      · have hbm : b.1 ∈ A.map (·.1) := List.mem_map_of_mem hb
        rintro (e | e)
        · exact hn.1.1 (e ▸ hbm)
        · exact hn.2.2.2 _ hbm r (.inl rfl) e
      · have hbm : b.1 ∈ B.map (·.1) := List.mem_map_of_mem hb
        rintro (e | e)
        · exact hn.1.2.2 (e ▸ hbm)
        · exact hn.2.2.1.1 (e ▸ hbm)
    rcases List.mem_cons.1 hb with rfl | hb
    · exact ⟨(h.lay.at_ _ List.mem_cons_self).1, hg⟩
    rcases List.mem_append.1 hb with hb | hb
    · exact old b (.inl hb)
    rcases List.mem_cons.1 hb with rfl | hb
    · exact ⟨(h.lay.at_ (r, rc, tq) (List.mem_cons_of_mem _ (List.mem_append_right _ List.mem_cons_self))).1, hr⟩
    · exact old b (.inr hb)
theorem cbs_top (cb rb : Nat) (fr : Fr) (rest : List Kf) : cbsOf ((cb, rb, fr) :: rest) = cbsOf rest ++ [cb] := by simp [cbsOf]
theorem cbs_len (ks : List Kf) : (cbsOf ks).length = ks.length := by simp [cbsOf]
def bC (b : S41) (sv : Value) : Array Value := #[sv, .int .i64 b.f1, .int .i64 b.f2, .int .i64 b.f3, .int .i64 b.f4]
def EndPost (V : Rv) (cb rb : Nat) (fr : Fr) (rest : List Kf) (b : S41) (G : Gl) (e : Ending) (w' : World) : Prop :=
  if b.f1 = 1 then e = .returned (.bool false) ∧ Inv V w' ((cb, rb, fr.jump b.f3) :: rest) G
  else if b.f1 = 2 then e = .returned (.bool false) ∧ Inv V w' ((cb, rb, fr.jump (if get32 fr.regs b.f2 = 0 then b.f4 else b.f3)) :: rest) G
  else match rest with
    | [] => e = .returned (.bool true) ∧ InvE V w' [] G 0 (get32 fr.regs b.f2)
    | (c2, r2, p) :: q => e = .returned (.bool false) ∧ Inv V w' ((c2, r2, p.take fr.d (get32 fr.regs b.f2)) :: q) G
theorem Inv.call {V : Rv} {W w1 : World} {cb rb : Nat} {fr fr' : Fr} {rest : List Kf} {G : Gl} {cv tv : Value} (hr : fr'.regs = fr.regs) (h : Hp V W (V.LL ((cb, rb, fr) :: rest) G 0 0 cv tv) cv tv (cbsOf ((cb, rb, fr) :: rest)) G.tr) (ht : Turned W w1 cb (V.frC rb fr') 70) :
    Hp V w1 (V.LL ((cb, rb, fr') :: rest) G 0 0 cv tv) cv tv (cbsOf ((cb, rb, fr') :: rest)) G.tr := by
  rw [LL_cons] at h ⊢
  have h2 := Hp.turn (A := [(V.mb, mC V.E ⟨cv, 0, 0, tv, G.st, G.rd⟩, 54)]) h ht
  rw [hr]
  exact h2
theorem end_inv {V : Rv} {W : World} {cb rb : Nat} {fr : Fr} {rest : List Kf} {G : Gl} (hI : Inv V W ((cb, rb, fr) :: rest) G) (b : S41) (hk : b.f1 = 1 ∨ b.f1 = 2 ∨ b.f1 = 3) (h1 : b.f1 = 1 ∨ b.f1 = 2 → 0 ≤ b.f3) (h2 : b.f1 = 2 → 0 ≤ b.f4)
    (ha : b.f1 = 2 ∨ b.f1 = 3 → 0 ≤ b.f2 ∧ b.f2 < (fr.regs.length : Int)) (hd : ∀ c2 r2 p q, rest = (c2, r2, p) :: q → fr.d < (p.regs.length : Int)) (hlen : rest.length ≤ 31) (sv : Value) (hsv : sv.oneCell' = true) :
    Calls Try.prog 27 #[.pointer (some ⟨V.mb, 0, none⟩), .pointer (some ⟨cb, 0, none⟩), .agg (bC b sv)] W (EndPost V cb rb fr rest b G) := by
  obtain ⟨cv, tv, h⟩ := hI
  have T := h.top
  obtain ⟨ins, k, A, t0, el⟩ := b
  simp only at hk h1 h2 ha
  unfold EndPost
  have hcs : ∀ t1 : Int, 0 ≤ t1 → fC (V.fa fr.fn) rb fr.regs.length t1 0 fr.d = V.frC rb (fr.jump t1) := fun t1 ht => by
    unfold Rv.frC Fr.jump
    simp only [Int.toNat_of_nonneg ht]
    rfl
  by_cases k1 : k = 1
  · subst k1
    have ht0 := h1 (.inl rfl)
    refine (end_jump _ rb _ _ _ _ W _ cb T.c sv hsv A t0 el).mono ?_
    rintro e w' ⟨he, ht⟩
    rw [hcs t0 ht0] at ht
    exact ⟨he, cv, tv, Inv.call (fr := fr) (fr' := fr.jump t0) rfl h ht⟩
  by_cases k2 : k = 2
  · subst k2
    have ht0 := h1 (.inr rfl)
    have hel := h2 rfl
    have haa := ha (.inl rfl)
    refine (end_branch _ rb fr.regs _ rfl _ _ _ W _ cb T.c T.r T.rc sv hsv A t0 el haa.1 haa.2).mono ?_
    rintro e w' ⟨he, ht⟩
    rw [hcs _ (by split <;> assumption)] at ht
    exact ⟨he, cv, tv, Inv.call (fr := fr) (fr' := fr.jump (if get32 fr.regs A = 0 then el else t0)) rfl h ht⟩
  · have k3 : k = 3 := by omega
    subst k3
    have haa := ha (.inr rfl)
    simp only [if_neg (show ¬ (3 : Int) = 1 by decide), if_neg (show ¬ (3 : Int) = 2 by decide)]
    have hfr : ∀ w1, Turned W w1 cb (fC (V.fa fr.fn) rb fr.regs.length fr.blk 0 fr.d) 70 → Hp V w1 (V.LL ((cb, rb, { fr with ins := 0 }) :: rest) G 0 0 cv tv) cv tv (cbsOf ((cb, rb, { fr with ins := 0 }) :: rest)) G.tr := fun w1 ht =>
      Inv.call (fr := fr) (fr' := { fr with ins := 0 }) rfl h (by unfold Rv.frC; exact ht)
    cases rest with
    | nil =>
      refine end_ret _ rb fr.regs _ rfl _ _ _ W _ cb T.c T.r T.rc sv hsv A t0 el haa.1 haa.2 true _ (fun w1 ht => ?_)
      have h1 := hfr w1 ht
      obtain ⟨ab, cap, hcv, hcap, _⟩ := calls_form h1.calls (by simp [cbsOf])
      refine (leave_main V.E ⟨cv, 0, 0, tv, G.st, G.rd⟩ w1 V.mb ab cap hcv hcap h1.top.m _ _).mono ?_
      rintro e w' ⟨he, ht2⟩
      subst hcv
      refine ⟨he, .slice (some ⟨ab, 0, none⟩) 0 cap, tv, ?_⟩
      rw [LL_cons] at h1
      have h9 := Hp.left h1 ht2.1 ht2.2 (k := 0) (Nat.zero_le _)
      exact h9
    | cons p2 q =>
      obtain ⟨c2, r2, p⟩ := p2
      have hdd := hd c2 r2 p q rfl
      refine end_ret _ rb fr.regs _ rfl _ _ _ W _ cb T.c T.r T.rc sv hsv A t0 el haa.1 haa.2 false _ (fun w1 ht => ?_)
      have h1 := hfr w1 ht
      obtain ⟨ab, cap, hcv, hcap, hcells⟩ := calls_form h1.calls (by simp [cbsOf])
      have hl1 : (cbsOf ((cb, rb, { fr with ins := 0 }) :: (c2, r2, p) :: q)).length = (q.length + 1) + 1 := by rw [cbs_len]; simp
      rw [hl1] at hcv hcap
      have htk : (cbsOf ((cb, rb, { fr with ins := 0 }) :: (c2, r2, p) :: q)).take (q.length + 1) = cbsOf ((c2, r2, p) :: q) := by
        rw [cbs_top]
        exact List.take_left' (by rw [cbs_len]; simp)
      have T1 := h1.top
      rw [LL_cons] at h1
      have hp1 : w1.heap[c2]? = some (.cells (V.frC r2 p) 70 (0, 0)) := h1.at (b := (c2, V.frC r2 p, 70)) (by simp [Rv.frBs])
      have hp2 : w1.heap[r2]? = some (.cells (row32 p.regs) 21 (0, 0)) := h1.at (b := (r2, row32 p.regs, 21)) (by simp [Rv.frBs])
      have hn1 : c2 ≠ V.mb := h1.ne (i := 3) (j := 0) rfl rfl (by decide)
      have hn2 : r2 ≠ V.mb := h1.ne (i := 4) (j := 0) rfl rfl (by decide)
      have hlq : q.length ≤ 30 := by simp only [List.length_cons] at hlen; omega
      by_cases hneg : fr.d < 0
      · refine (leave_none V.E ⟨cv, 0, 0, tv, G.st, G.rd⟩ w1 V.mb ab (q.length + 1) cap hcv (by omega) (by omega) hcap T1.m cb _ _ _ _ _ _ T1.c T1.cm hneg _).mono ?_
        rintro e w' ⟨he, ht2⟩
        subst hcv
        refine ⟨he, .slice (some ⟨ab, 0, none⟩) (q.length + 1) cap, tv, ?_⟩
        have h9 := Hp.left h1 ht2.1 ht2.2 (k := q.length + 1) (by omega)
        rw [htk] at h9
        rw [show p.take fr.d (get32 fr.regs A) = p from by unfold Fr.take; rw [if_neg (by omega)]]
        exact h9
      · have hat := hcells q.length (by rw [hl1]; omega)
        have hq2 : (cbsOf ((cb, rb, { fr with ins := 0 }) :: (c2, r2, p) :: q))[q.length]'(by rw [hl1]; omega) = c2 := by
          have e1 : cbsOf ((cb, rb, { fr with ins := 0 }) :: (c2, r2, p) :: q) = cbsOf q ++ [c2] ++ [cb] := by simp [cbsOf]
          have hlcq : (cbsOf q).length = q.length := cbs_len q
          have : (cbsOf ((cb, rb, { fr with ins := 0 }) :: (c2, r2, p) :: q))[q.length]? = some c2 := by
            rw [e1, List.append_assoc, List.getElem?_append_right (by omega), hlcq, Nat.sub_self]
            rfl
          rw [List.getElem?_eq_getElem (by rw [hl1]; omega)] at this
          exact Option.some.inj this
        rw [hq2] at hat
        have hab : ab ≠ V.mb := by
          intro e
          have := h1.cvk ab (by rw [hcv]; rfl)
          exact this.2.2 (by rw [e]; exact List.mem_cons_self)
        refine (leave_give V.E ⟨cv, 0, 0, tv, G.st, G.rd⟩ w1 V.mb ab (q.length + 1) cap hcv (by omega) (by omega) hcap T1.m cb _ _ _ _ _ _ T1.c T1.cm (show 0 ≤ fr.d by omega) _ c2 hat hab _ r2 _ _ _ _ hp1 hn1 p.regs hp2 rfl hn2 hdd).mono ?_
        rintro e w' ⟨he, g1, g2, g3⟩
        subst hcv
        refine ⟨he, .slice (some ⟨ab, 0, none⟩) (q.length + 1) cap, tv, ?_⟩
        rw [show p.take fr.d (get32 fr.regs A) = { p with regs := put32 p.regs fr.d (get32 fr.regs A) } from by unfold Fr.take; rw [if_pos (by omega)]]
        have h8 := Hp.two_ (A := [(cb, V.frC rb { fr with ins := 0 }, 70), (rb, row32 fr.regs, 21), (c2, V.frC r2 p, 70)]) h1 g1 g2 g3
        have h9 := Hp.left h8 g1 (Tr.refl _ _) (k := q.length + 1) (by omega)
        rw [htk] at h9
        have hfc : V.frC r2 { p with regs := put32 p.regs fr.d (get32 fr.regs A) } = V.frC r2 p := by unfold Rv.frC; rw [put32_length]
        rw [LL_cons, hfc]
        exact h9
end Go.Proofs.Ytabkinlpbefjgaa.L

namespace Go.Proofs.Ytabkinlpbefjgaa.L
open Go.RowKit Go.Proofs.Ytabkinlpbefjgaa.X Go.Proofs.YtabkinlpbefjgaaW.PrintWords Go.Proofs.YtabkinlpbefjgaaW.PrintLast Go.Proofs.YtabkinlpbefjgaaW.PrintMore
attribute [local go_sem] max2_int min2_int max_two min_two max_three min_three max_four min_four   -- for this text's walks alone
set_option linter.unusedVariables false
set_option linter.unusedSimpArgs false
set_option maxHeartbeats 2000000 in
theorem catch_panicking (E : Env) (m : MV) (W : World) (g b1 : Nat) (hb : W.heap[g]? = some (.cells (mC E m) 54 (0, 0))) (h1 : W.heap[b1]? = some (.cells #[.pointer (some ⟨g, 0, none⟩)] 49 (0, 0))) (c : Int) (older : List PanicEntry) :
    CallsD Try.prog 23 #[.pointer (some ⟨b1, 0, none⟩)] (.panicking ({ v := .iface 66 (.int .i64 c), recovered := false } :: older)) W fun e u' w' =>
      e = .returned (.tuple #[]) ∧ u' = .panicking ({ v := .iface 66 (.int .i64 c), recovered := true } :: older) ∧ Turned W w' g (mC E { m with en := c }) 54 := by
  have cm0 : W.cell? ⟨g, 0, none⟩ = some (.map (some E.fm)) := (blk_cell hb 0).trans rfl; have fm0 := blk_frozen hb 0; have cm1 : W.cell? ⟨g, 1, none⟩ = some (.map (some E.wm)) := (blk_cell hb 1).trans rfl; have fm1 := blk_frozen hb 1; have cm2 : W.cell? ⟨g, 2, none⟩ = some (E.iv) := (blk_cell hb 2).trans rfl; have fm2 := blk_frozen hb 2; have cm3 : W.cell? ⟨g, 3, none⟩ = some (.int .i64 E.fuel) := (blk_cell hb 3).trans rfl; have fm3 := blk_frozen hb 3; have cm4 : W.cell? ⟨g, 4, none⟩ = some (m.cv) := (blk_cell hb 4).trans rfl; have fm4 := blk_frozen hb 4; have cm5 : W.cell? ⟨g, 5, none⟩ = some (.int .i64 m.en) := (blk_cell hb 5).trans rfl; have fm5 := blk_frozen hb 5; have cm6 : W.cell? ⟨g, 6, none⟩ = some (.int .i32 m.va) := (blk_cell hb 6).trans rfl; have fm6 := blk_frozen hb 6; have cm7 : W.cell? ⟨g, 7, none⟩ = some (m.tv) := (blk_cell hb 7).trans rfl; have fm7 := blk_frozen hb 7; have cm8 : W.cell? ⟨g, 8, none⟩ = some (.int .i64 (m.st : Int)) := (blk_cell hb 8).trans rfl; have fm8 := blk_frozen hb 8; have cm9 : W.cell? ⟨g, 9, none⟩ = some (.int .i64 (m.rd : Int)) := (blk_cell hb 9).trans rfl; have fm9 := blk_frozen hb 9
  have hta : ∀ W1 : World, (Instr.typeAssert (.iface 66 (.int .i64 c)) 20 66 true).run Try.prog W1 = .ok (.tuple #[.int .i64 c, .bool true]) W1 := fun W1 => by kernel_rfl
  have c1 : W.cell? ⟨b1, 0, none⟩ = some (.pointer (some ⟨g, 0, none⟩)) := (blk_cell h1 0).trans rfl
  refine callsD_of_wpS Try.func23 rfl fun c₀ cs hu => ?_
  apply wpS_seq
  apply wpS_region
  simp [wpOpsS, go_sem, recoverD, hu, Try.ntmps23, Exit.thenS]
  rw [show (#[Value.pointer (some ⟨b1, 0, none⟩)] ++ (Array.replicate 14 undef).setIfInBounds 3 (Value.iface 66 (Value.int IntKind.i64 c)) : Array Value) = #[Value.pointer (some ⟨b1, 0, none⟩), undef, undef, undef, .iface 66 (.int .i64 c), undef, undef, undef, undef, undef, undef, undef, undef, undef, undef] from by rfl]
  refine wpS_of_wp ?_
  go_wp2
  clear cm0 fm0 cm1 fm1 cm2 fm2 cm3 fm3 cm4 fm4 cm5 fm5 cm6 fm6 cm7 fm7 cm8 fm8 cm9 fm9
  exact ⟨rfl, _, rfl, .tuple #[], by simp [results, Try.results23, go_sem], rfl, rfl, blk_put hb 5 _ (by simp [mC]), (Tr.refl _ _).set (S := one g) (.inl (one_self g)) _⟩
set_option maxHeartbeats 2000000 in
theorem catch_idle (b1 : Nat) (W : World) :
    CallsD Try.prog 23 #[.pointer (some ⟨b1, 0, none⟩)] .returning W fun e u' w' => e = .returned (.tuple #[]) ∧ u' = .returning ∧ w' = W := by
  refine callsD_of_wpS Try.func23 rfl fun c₀ cs hu => ?_
  apply wpS_seq
  apply wpS_region
  simp [wpOpsS, go_sem, recoverD, hu, Try.ntmps23, Exit.thenS]
  rw [show (#[Value.pointer (some ⟨b1, 0, none⟩)] ++ (Array.replicate 14 undef).setIfInBounds 3 Value.nilIface : Array Value) = #[Value.pointer (some ⟨b1, 0, none⟩), undef, undef, undef, .nilIface, undef, undef, undef, undef, undef, undef, undef, undef, undef, undef] from by rfl]
  refine wpS_of_wp ?_
  go_wp2
  cases c₀
  simp_all [bodyPostS, results, Try.results23, go_sem]
end Go.Proofs.Ytabkinlpbefjgaa.L

namespace Go.Proofs.Ytabkinlpbefjgaa.L
open Go.RowKit Go.Proofs.Ytabkinlpbefjgaa.X Go.Proofs.YtabkinlpbefjgaaW.PrintWords Go.Proofs.YtabkinlpbefjgaaW.PrintLast Go.Proofs.YtabkinlpbefjgaaW.PrintMore
attribute [local go_sem] max2_int min2_int max_two min_two max_three min_three max_four min_four   -- for this text's walks alone
set_option linter.unusedVariables false
set_option linter.unusedSimpArgs false
open Go.Proofs.Ytabkinlpbefjgaa.Pure
theorem runS_fin (F : List S47) (GS : List S57) (inp : List Int) (fuel : Int) (e v : Int) (G : Gl) : ∀ k, runS F GS inp fuel k (.fin e v G) = .fin e v G
  | 0 => rfl
  | _ + 1 => rfl
theorem ins_next {V : Rv} (hV : RvOk V) {W : World} {cb rb : Nat} {fr : Fr} {rest : List Kf} {G : Gl} (hI : Inv V W ((cb, rb, fr.on fr.regs) :: rest) G.tick) (hF : OkFr V.F fr) (hi : fr.ins + 1 ≤ (blkOf V.F fr).f0.length) (hG : OkGl V.GS G) (x : S44) (hx : (blkOf V.F fr).f0[fr.ins]? = some x) (hX : OkIns V.F V.GS (fnOf V.F fr.fn).f2 x)
    (hrl : rest.length ≤ 31) (htr : G.tr.length ≤ 1000000) (A7 : Option Addr) (c7 : Nat) (hc7 : x.f7.length ≤ c7) (h7 : (Kd.int .i64).C W A7 x.f7.length x.f7) (hlt : (G.st : Int) < V.E.fuel) {st2 : List Fr} {G2 : Gl} (hs : stepC V.F V.GS V.inp V.E.fuel fr (rest.map (·.2.2)) G = .go st2 G2) :
    Calls Try.prog 26 #[.pointer (some ⟨V.mb, 0, none⟩), .pointer (some ⟨cb, 0, none⟩), .agg (xC x (.slice A7 x.f7.length c7))] W fun e w' => e = .returned (.tuple #[]) ∧ ∃ ks2 : List Kf, ks2.map (·.2.2) = st2 ∧ Inv V w' ks2 G2 := by
  have hon : OkFr V.F (fr.on fr.regs) := ⟨hF.fn, hF.regs, hF.w32, hF.blk, hi⟩
  refine (ins_inv hV hI hon hG.tick x hX hrl htr A7 c7 hc7 h7).mono ?_
  intro e w' h
  unfold stepC at hs
  rw [if_neg (by omega)] at hs
  unfold InsPost at h
  change (match insF V.GS V.inp x fr.regs G.tick with | .go r G2 => _ | .stop c => _ | .call args => _) at h
  simp only [hx] at hs
  cases hins : insF V.GS V.inp x fr.regs G.tick with
  | go r G3 =>
    simp only [hins] at hs h
    injection hs with h1 h2
    subst h1 h2
    exact ⟨h.1, _, rfl, h.2⟩
  | stop c =>
    simp only [hins] at hs
    cases hs
  | call args =>
    simp only [hins, List.length_map] at hs h
    by_cases hd : 31 ≤ rest.length
    · rw [if_pos hd] at hs; cases hs
    · rw [if_neg hd] at hs h
      injection hs with h1 h2
      subst h1 h2
      obtain ⟨he, cb2, rb2, hI2⟩ := h
      exact ⟨he, _, rfl, hI2⟩
theorem ins_fin {V : Rv} (hV : RvOk V) {W : World} {cb rb : Nat} {fr : Fr} {rest : List Kf} {G : Gl} (hI : Inv V W ((cb, rb, fr.on fr.regs) :: rest) G.tick) (hF : OkFr V.F fr) (hi : fr.ins + 1 ≤ (blkOf V.F fr).f0.length) (hG : OkGl V.GS G) (x : S44) (hx : (blkOf V.F fr).f0[fr.ins]? = some x) (hX : OkIns V.F V.GS (fnOf V.F fr.fn).f2 x)
    (hrl : rest.length ≤ 31) (htr : G.tr.length ≤ 1000000) (A7 : Option Addr) (c7 : Nat) (hc7 : x.f7.length ≤ c7) (h7 : (Kd.int .i64).C W A7 x.f7.length x.f7) (hlt : (G.st : Int) < V.E.fuel) {c v : Int} {G2 : Gl} (hs : stepC V.F V.GS V.inp V.E.fuel fr (rest.map (·.2.2)) G = .fin c v G2) :
    Calls Try.prog 26 #[.pointer (some ⟨V.mb, 0, none⟩), .pointer (some ⟨cb, 0, none⟩), .agg (xC x (.slice A7 x.f7.length c7))] W fun e w' => e = .panicked [{ v := .iface 66 (.int .i64 c), recovered := false }] ∧ v = 0 ∧ ∃ ks2 : List Kf, Inv V w' ks2 G2 := by
  have hon : OkFr V.F (fr.on fr.regs) := ⟨hF.fn, hF.regs, hF.w32, hF.blk, hi⟩
  refine (ins_inv hV hI hon hG.tick x hX hrl htr A7 c7 hc7 h7).mono ?_
  intro e w' h
  unfold stepC at hs
  rw [if_neg (by omega)] at hs
  unfold InsPost at h
  change (match insF V.GS V.inp x fr.regs G.tick with | .go r G2 => _ | .stop c => _ | .call args => _) at h
  simp only [hx] at hs
  cases hins : insF V.GS V.inp x fr.regs G.tick with
  | go r G3 =>
    simp only [hins] at hs
    cases hs
  | stop c2 =>
    simp only [hins] at hs h
    injection hs with h1 h2 h3
    subst h1 h2 h3
    exact ⟨h.1, rfl, _, h.2⟩
  | call args =>
    simp only [hins, List.length_map] at hs h
    by_cases hd : 31 ≤ rest.length
    · rw [if_pos hd] at hs h
      injection hs with h1 h2 h3
      subst h1 h2 h3
      exact ⟨h.1, rfl, _, h.2⟩
    · rw [if_neg hd] at hs; cases hs
theorem end_next {V : Rv} (hV : RvOk V) {W : World} {cb rb : Nat} {fr : Fr} {rest : List Kf} {G : Gl} (hI : Inv V W ((cb, rb, fr) :: rest) G.tick) (hF : OkFr V.F fr) (hS : OkSt V.F (fr :: rest.map (·.2.2))) (hx : (blkOf V.F fr).f0[fr.ins]? = none)
    (hrl : rest.length ≤ 31) (sv : Value) (hsv : sv.oneCell' = true) (hlt : (G.st : Int) < V.E.fuel) {st2 : List Fr} {G2 : Gl} (hs : stepC V.F V.GS V.inp V.E.fuel fr (rest.map (·.2.2)) G = .go st2 G2) :
    Calls Try.prog 27 #[.pointer (some ⟨V.mb, 0, none⟩), .pointer (some ⟨cb, 0, none⟩), .agg (bC (blkOf V.F fr) sv)] W fun e w' => e = .returned (.bool false) ∧ ∃ ks2 : List Kf, ks2.map (·.2.2) = st2 ∧ Inv V w' ks2 G2 := by
  have hB := hF.okBlk hV.mid
  refine (end_inv hI (blkOf V.F fr) hB.kind (fun h => (hB.to1 h).1) (fun h => (hB.to2 h).1) (fun h => by have := hB.a h; have := hF.regs; omega) (fun c2 r2 p q e => by subst e; exact hS.2.1) hrl sv hsv).mono ?_
  intro e w' h
  unfold stepC at hs
  rw [if_neg (by omega)] at hs
  simp only [hx] at hs
  unfold EndPost at h
  split at h
  · rename_i h1
    rw [if_pos h1] at hs
    injection hs with e1 e2
    subst e1 e2
    exact ⟨h.1, _, rfl, h.2⟩
  rename_i h1
  rw [if_neg h1] at hs
  split at h
  · rename_i h2
    rw [if_pos h2] at hs
    injection hs with e1 e2
    subst e1 e2
    exact ⟨h.1, _, rfl, h.2⟩
  · rename_i h2
    rw [if_neg h2] at hs
    cases rest with
    | nil => cases hs
    | cons p2 q =>
      obtain ⟨c2, r2, p⟩ := p2
      injection hs with e1 e2
      subst e1 e2
      exact ⟨h.1, _, rfl, h.2⟩
theorem end_fin {V : Rv} (hV : RvOk V) {W : World} {cb rb : Nat} {fr : Fr} {rest : List Kf} {G : Gl} (hI : Inv V W ((cb, rb, fr) :: rest) G.tick) (hF : OkFr V.F fr) (hS : OkSt V.F (fr :: rest.map (·.2.2))) (hx : (blkOf V.F fr).f0[fr.ins]? = none)
    (hrl : rest.length ≤ 31) (sv : Value) (hsv : sv.oneCell' = true) (hlt : (G.st : Int) < V.E.fuel) {c v : Int} {G2 : Gl} (hs : stepC V.F V.GS V.inp V.E.fuel fr (rest.map (·.2.2)) G = .fin c v G2) :
    Calls Try.prog 27 #[.pointer (some ⟨V.mb, 0, none⟩), .pointer (some ⟨cb, 0, none⟩), .agg (bC (blkOf V.F fr) sv)] W fun e w' => e = .returned (.bool true) ∧ c = 1 ∧ InvE V w' [] G2 0 v := by
  have hB := hF.okBlk hV.mid
  refine (end_inv hI (blkOf V.F fr) hB.kind (fun h => (hB.to1 h).1) (fun h => (hB.to2 h).1) (fun h => by have := hB.a h; have := hF.regs; omega) (fun c2 r2 p q e => by subst e; exact hS.2.1) hrl sv hsv).mono ?_
  intro e w' h
  unfold stepC at hs
  rw [if_neg (by omega)] at hs
  simp only [hx] at hs
  unfold EndPost at h
  split at h
  · rename_i h1
    rw [if_pos h1] at hs
    cases hs
  rename_i h1
  rw [if_neg h1] at hs
  split at h
  · rename_i h2
    rw [if_pos h2] at hs
    cases hs
  · rename_i h2
    rw [if_neg h2] at hs
    cases rest with
    | nil =>
      injection hs with e1 e2 e3
      subst e1 e2 e3
      exact ⟨h.1, rfl, h.2⟩
    | cons p2 q => cases hs
end Go.Proofs.Ytabkinlpbefjgaa.L

