/- Texts of this seat that a claim bears, put together by this session's own program shake.py: TrQ, TrR, TrRg, TrRh, TrRi. -/
import Derived.Test.YtabkinlpbefjgaaKd20
namespace Go.Proofs.Ytabkinlpbefjgaa.L
open Go.RowKit Go.Proofs.Ytabkinlpbefjgaa.X Go.Proofs.YtabkinlpbefjgaaW.PrintWords Go.Proofs.YtabkinlpbefjgaaW.PrintLast Go.Proofs.YtabkinlpbefjgaaW.PrintMore
attribute [local go_sem] max2_int min2_int max_two min_two max_three min_three max_four min_four   -- for this text's walks alone
set_option linter.unusedVariables false
set_option linter.unusedSimpArgs false
structure Rv where
  w0 : World
  mb : Nat
  E : Env
  F : List S47
  GS : List S57
  A : Addr
  inp : List Int
  AI : Option Addr
  ci : Nat
  wbs : List Nat
  xs : List (Nat × Array Value × TypeId)
def Rv.base (V : Rv) : Nat := V.w0.heap.size
def Rv.fa (V : Rv) (k : Nat) : Addr := V.A.add (k * 4)
def wsize (g : S57) : Nat := (max g.f1 1).toNat
abbrev Bk := Nat × Array Value × TypeId
def keysOf (L : List Bk) : List Nat := L.map (·.1)
def Rv.ok (V : Rv) (ks : List Nat) (k : Nat) : Prop := k ≠ V.E.fm ∧ k ≠ V.E.wm ∧ k ∉ ks
structure Hp (V : Rv) (W : World) (L : List Bk) (cv tv : Value) (cbs : List Nat) (tr : List Int) : Prop where
  below : Below V.base V.w0 W
  lay : Lay V.base W L
  fm : V.E.fm ∉ keysOf L ∧ V.E.fm < W.heap.size ∧ V.base ≤ V.E.fm
  wm : V.E.wm ∉ keysOf L ∧ V.E.wm < W.heap.size ∧ V.base ≤ V.E.wm
  calls : kptr.R 68 W V.base (fun _ => True) cv cbs
  trace : (Kd.int .i32).R 21 W V.base (fun _ => True) tv tr
  cvk : ∀ k, cv.ownBlock = some k → V.ok (keysOf L) k
  tvk : ∀ k, tv.ownBlock = some k → V.ok (keysOf L) k
  apart : ∀ k, cv.ownBlock = some k → tv.ownBlock ≠ some k
  fns : ∀ k, k < V.F.length → MapAt 50 V.E.fm W (fnOf V.F k).f0 (.pointer (some (V.fa k)))
  wds : ∀ k, k < V.GS.length → MapAt 51 V.E.wm W (V.GS.getD k z57).f0 (.slice (some ⟨V.wbs.getD k 0, 0, none⟩) (wsize (V.GS.getD k z57)) (wsize (V.GS.getD k z57)))
theorem MapAt.keep {t : TypeId} {b : Nat} {W W1 : World} {key : ByteArray} {v : Value} (h : MapAt t b W key v) (hb : W1.heap[b]? = W.heap[b]?) : MapAt t b W1 key v := fun W' hW => h W' (hW.trans hb)
section
variable {V : Rv} {W w1 : World} {L L' : List Bk} {cv tv cv' tv' : Value} {cbs : List Nat} {tr : List Int} {S : Nat → Prop}
theorem Hp.base_le (h : Hp V W L cv tv cbs tr) : V.base ≤ W.heap.size := h.below.size
theorem Hp.calls_in (h : Hp V W L cv tv cbs tr) (ok : Nat → Prop) (hok : ∀ k, cv.ownBlock = some k → ok k) : kptr.R 68 W V.base ok cv cbs := Kd.R_reok rfl h.calls hok
theorem Hp.trace_in (h : Hp V W L cv tv cbs tr) (ok : Nat → Prop) (hok : ∀ k, tv.ownBlock = some k → ok k) : (Kd.int .i32).R 21 W V.base ok tv tr := Kd.R_reok rfl h.trace hok
theorem own_ge1 {α : Type} {d : Kd α} {e : Nat} {base : Nat} {ok : Nat → Prop} {v : Value} {xs : List α} (h : d.R e W base ok v xs) (k : Nat) (hk : v.ownBlock = some k) : base ≤ k ∧ k < W.heap.size := by
  obtain ⟨inner, ho⟩ := Kd.R_own h
  exact ⟨own_base ho k hk, own_lt ho k hk⟩
theorem Hp.move (h : Hp V W L cv tv cbs tr) (ht : Tr S W w1) (hS : ∀ k, S k → k ∈ keysOf L) (hL : Lay V.base w1 L') (hk : keysOf L' = keysOf L) : Hp V w1 L' cv tv cbs tr := by
  have hb : ∀ k, S k → V.base ≤ k := fun k hs => by
    obtain ⟨b, hm, e⟩ := List.mem_map.1 (hS k hs)
    rw [← e]; exact (h.lay.at_ b hm).1
  have kf : w1.heap[V.E.fm]? = W.heap[V.E.fm]? := ht.keep _ h.fm.2.1 (fun hs => h.fm.1 (hS _ hs))
  have kw : w1.heap[V.E.wm]? = W.heap[V.E.wm]? := ht.keep _ h.wm.2.1 (fun hs => h.wm.1 (hS _ hs))
  refine ⟨h.below.trans (ht.to_below h.base_le hb), hL, ⟨by rw [hk]; exact h.fm.1, Nat.lt_of_lt_of_le h.fm.2.1 ht.size, h.fm.2.2⟩, ⟨by rw [hk]; exact h.wm.1, Nat.lt_of_lt_of_le h.wm.2.1 ht.size, h.wm.2.2⟩, ?_, ?_, by rw [hk]; exact h.cvk, by rw [hk]; exact h.tvk, h.apart, fun k hk => (h.fns k hk).keep kf, fun k hk => (h.wds k hk).keep kw⟩
  · exact Kd.R_mono (Kd.R_step (h.calls_in _ h.cvk) (fun k ho hlt => ht.keep k hlt (fun hs => ho.2.2 (hS k hs)))) (fun _ _ => trivial)
  · exact Kd.R_mono (Kd.R_step (h.trace_in _ h.tvk) (fun k ho hlt => ht.keep k hlt (fun hs => ho.2.2 (hS k hs)))) (fun _ _ => trivial)
theorem Hp.tr_ (h : Hp V W L cv tv cbs tr) (ht : Tr nil_ W w1) : Hp V w1 L cv tv cbs tr := h.move ht (fun _ h => h.elim) (h.lay.tr ht (fun _ _ h => h)) rfl
theorem Hp.turn {A B : List Bk} {g : Nat} {cs cs' : Array Value} {t : TypeId} (h : Hp V W (A ++ (g, cs, t) :: B) cv tv cbs tr) (ht : Turned W w1 g cs' t) : Hp V w1 (A ++ (g, cs', t) :: B) cv tv cbs tr :=
  h.move ht.2 (fun k hk => by rw [show k = g from hk]; simp [keysOf]) (h.lay.turn ht.2 ht.1) (by simp [keysOf])
theorem Hp.at (h : Hp V W L cv tv cbs tr) {b : Bk} (hb : b ∈ L) : W.heap[b.1]? = some (.cells b.2.1 b.2.2 (0, 0)) := (h.lay.at_ b hb).2
theorem Hp.ne (h : Hp V W L cv tv cbs tr) {i j : Nat} {b c : Bk} (hi : L[i]? = some b) (hj : L[j]? = some c) (hne : i ≠ j) : b.1 ≠ c.1 := by
  intro e
  have hn := h.lay.apart
  have hi' := (List.getElem?_eq_some_iff.1 hi)
  have hj' := (List.getElem?_eq_some_iff.1 hj)
  obtain ⟨hi1, hi2⟩ := hi'
  obtain ⟨hj1, hj2⟩ := hj'
  have := (List.getElem_inj (h₀ := by simpa using hi1) (h₁ := by simpa using hj1) hn).1 (by simp [hi2, hj2, e])
  exact hne this
theorem Hp.printed {B : List Bk} {g : Nat} {cs cs' : Array Value} {t : TypeId} {z : Int} (h : Hp V W ((g, cs, t) :: B) cv tv cbs tr) (hg : w1.heap[g]? = some (.cells cs' t (0, 0)))
    (hR : (Kd.int .i32).R 21 w1 V.base (fun k => V.ok (keysOf ((g, cs, t) :: B)) k ∧ cv.ownBlock ≠ some k) tv' (tr ++ [z])) (ht : Tr (fun q => q = g ∨ some q = tv.ownBlock) W w1) : Hp V w1 ((g, cs', t) :: B) cv tv' cbs (tr ++ [z]) := by
  have hgk : g ∈ keysOf ((g, cs, t) :: B) := List.mem_cons_self
  have hgb : V.base ≤ g := (h.lay.at_ _ List.mem_cons_self).1
  have hS : ∀ k, (k = g ∨ some k = tv.ownBlock) → V.base ≤ k ∧ k ≠ V.E.fm ∧ k ≠ V.E.wm ∧ cv.ownBlock ≠ some k := by
    intro k hk
    rcases hk with rfl | hk
    · exact ⟨hgb, fun e => h.fm.1 (e ▸ hgk), fun e => h.wm.1 (e ▸ hgk), fun e => (h.cvk _ e).2.2 hgk⟩
    · have := h.tvk k hk.symm
      exact ⟨(own_ge1 h.trace k hk.symm).1, this.1, this.2.1, fun e => h.apart k e hk.symm⟩
  have kf : w1.heap[V.E.fm]? = W.heap[V.E.fm]? := ht.keep _ h.fm.2.1 (fun hs => (hS _ hs).2.1 rfl)
  have kw : w1.heap[V.E.wm]? = W.heap[V.E.wm]? := ht.keep _ h.wm.2.1 (fun hs => (hS _ hs).2.2.1 rfl)
  refine ⟨h.below.trans (ht.to_below h.base_le (fun k hk => (hS k hk).1)), ?_, ⟨h.fm.1, Nat.lt_of_lt_of_le h.fm.2.1 ht.size, h.fm.2.2⟩, ⟨h.wm.1, Nat.lt_of_lt_of_le h.wm.2.1 ht.size, h.wm.2.2⟩, ?_, Kd.R_mono hR (fun _ _ => trivial), h.cvk, fun k hk => (hR.1 k hk).1, fun k hk e => (hR.1 k e).2 hk, fun k hk => (h.fns k hk).keep kf, fun k hk => (h.wds k hk).keep kw⟩
  · refine ⟨fun b hb => ?_, h.lay.apart⟩
    rcases List.mem_cons.1 hb with rfl | hb
    · exact ⟨hgb, hg⟩
    · have hm := List.mem_cons_of_mem (g, cs, t) hb
      refine ⟨(h.lay.at_ b hm).1, (ht.keep b.1 (h.lay.lt hm) ?_).trans (h.lay.at_ b hm).2⟩
      intro hs
      rcases hs with e | e
      · exact (List.nodup_cons.1 h.lay.apart).1 (show g ∈ B.map (·.1) from by rw [← e]; exact List.mem_map_of_mem hb)
      · exact (h.tvk _ e.symm).2.2 (List.mem_map_of_mem hm)
  · exact Kd.R_mono (Kd.R_step (h.calls_in (fun k => cv.ownBlock = some k) (fun _ h => h)) (fun k ho hlt => ht.keep k hlt (fun hs => (hS k hs).2.2.2 ho))) (fun _ _ => trivial)
theorem Hp.entered {B : List Bk} {g cb rb : Nat} {cs cs' cc rc : Array Value} {t tc tq : TypeId} (h : Hp V W ((g, cs, t) :: B) cv tv cbs tr) (hg : w1.heap[g]? = some (.cells cs' t (0, 0)))
    (hR : kptr.R 68 w1 V.base (fun k => (V.ok (keysOf ((g, cs, t) :: B)) k ∧ tv.ownBlock ≠ some k) ∧ k ≠ cb ∧ k ≠ rb) cv' (cbs ++ [cb])) (hc : w1.heap[cb]? = some (.cells cc tc (0, 0))) (hr : w1.heap[rb]? = some (.cells rc tq (0, 0)))
    (hc0 : W.heap.size ≤ cb) (hr0 : W.heap.size ≤ rb) (hne : cb ≠ rb) (ht : Tr (fun q => q = g ∨ some q = cv.ownBlock) W w1) : Hp V w1 ((g, cs', t) :: (cb, cc, tc) :: (rb, rc, tq) :: B) cv' tv (cbs ++ [cb]) tr := by
  have hgk : g ∈ keysOf ((g, cs, t) :: B) := List.mem_cons_self
  have hgb : V.base ≤ g := (h.lay.at_ _ List.mem_cons_self).1
  have hlt : ∀ k ∈ keysOf ((g, cs, t) :: B), k < W.heap.size := fun k hk => by
    obtain ⟨b, hm, e⟩ := List.mem_map.1 hk
    rw [← e]; exact h.lay.lt hm
  have hS : ∀ k, (k = g ∨ some k = cv.ownBlock) → V.base ≤ k ∧ k ≠ V.E.fm ∧ k ≠ V.E.wm ∧ tv.ownBlock ≠ some k := by
    intro k hk
    rcases hk with rfl | hk
    · exact ⟨hgb, fun e => h.fm.1 (e ▸ hgk), fun e => h.wm.1 (e ▸ hgk), fun e => (h.tvk _ e).2.2 hgk⟩
    · have := h.cvk k hk.symm
      exact ⟨(own_ge1 h.calls k hk.symm).1, this.1, this.2.1, fun e => h.apart k hk.symm e⟩
  have kf : w1.heap[V.E.fm]? = W.heap[V.E.fm]? := ht.keep _ h.fm.2.1 (fun hs => (hS _ hs).2.1 rfl)
  have kw : w1.heap[V.E.wm]? = W.heap[V.E.wm]? := ht.keep _ h.wm.2.1 (fun hs => (hS _ hs).2.2.1 rfl)
  have hkeys : ∀ k, k ∈ keysOf ((g, cs', t) :: (cb, cc, tc) :: (rb, rc, tq) :: B) ↔ k ∈ keysOf ((g, cs, t) :: B) ∨ k = cb ∨ k = rb := by
    intro k; simp only [keysOf, List.map_cons, List.mem_cons]
    constructor
    · rintro (h1 | h1 | h1 | h1)
      · exact .inl (.inl h1)
      · exact .inr (.inl h1)
      · exact .inr (.inr h1)
      · exact .inl (.inr h1)
    · rintro ((h1 | h1) | h1 | h1)
      · exact .inl h1
      · exact .inr (.inr (.inr h1))
      · exact .inr (.inl h1)
      · exact .inr (.inr (.inl h1))
  have hbW := h.base_le
  refine ⟨h.below.trans (ht.to_below h.base_le (fun k hk => (hS k hk).1)), ?_, ⟨?_, Nat.lt_of_lt_of_le h.fm.2.1 ht.size, h.fm.2.2⟩, ⟨?_, Nat.lt_of_lt_of_le h.wm.2.1 ht.size, h.wm.2.2⟩, Kd.R_mono hR (fun _ _ => trivial), ?_, ?_, ?_, ?_, fun k hk => (h.fns k hk).keep kf, fun k hk => (h.wds k hk).keep kw⟩
  · constructor
    · intro b hb
      rcases List.mem_cons.1 hb with rfl | hb
      · exact ⟨hgb, hg⟩
      rcases List.mem_cons.1 hb with rfl | hb
      · exact ⟨Nat.le_trans hbW hc0, hc⟩
      rcases List.mem_cons.1 hb with rfl | hb
      · exact ⟨Nat.le_trans hbW hr0, hr⟩
      · have hm := List.mem_cons_of_mem (g, cs, t) hb
        refine ⟨(h.lay.at_ b hm).1, (ht.keep b.1 (h.lay.lt hm) ?_).trans (h.lay.at_ b hm).2⟩
        intro hs
        rcases hs with e | e
        · exact (List.nodup_cons.1 h.lay.apart).1 (show g ∈ B.map (·.1) from by rw [← e]; exact List.mem_map_of_mem hb)
        · exact (h.cvk _ e.symm).2.2 (List.mem_map_of_mem hm)
    · have hn := h.lay.apart
      simp only [List.map_cons, List.nodup_cons, List.mem_cons, not_or] at hn ⊢
      have h1 : ∀ b ∈ B, b.1 < W.heap.size := fun b hb => h.lay.lt (List.mem_cons_of_mem _ hb)
      have hgl : g < W.heap.size := hlt g hgk
      have hB : ∀ k, W.heap.size ≤ k → k ∉ B.map (·.1) := fun k hk hm => by
        obtain ⟨b, hb, e⟩ := List.mem_map.1 hm
        have := h1 b hb
        omega
      exact ⟨⟨by omega, by omega, hn.1⟩, ⟨hne, hB cb hc0⟩, hB rb hr0, hn.2⟩
  · rw [hkeys]; have := h.fm.2.1; rintro (h1 | h1 | h1)
    · exact h.fm.1 h1
    · omega
    · omega
  · rw [hkeys]; have := h.wm.2.1; rintro (h1 | h1 | h1)
    · exact h.wm.1 h1
    · omega
    · omega
  · exact Kd.R_mono (Kd.R_step (h.trace_in (fun k => tv.ownBlock = some k) (fun _ h => h)) (fun k ho hlt => ht.keep k hlt (fun hs => (hS k hs).2.2.2 ho))) (fun _ _ => trivial)
  · intro k hk
    have := hR.1 k hk
    refine ⟨this.1.1.1, this.1.1.2.1, ?_⟩
    rw [hkeys]
    rintro (h1 | h1 | h1)
    · exact this.1.1.2.2 h1
    · exact this.2.1 h1
    · exact this.2.2 h1
  · intro k hk
    have h1 := h.tvk k hk
    have h2 := (own_ge1 h.trace k hk).2
    refine ⟨h1.1, h1.2.1, ?_⟩
    rw [hkeys]
    rintro (h3 | h3 | h3)
    · exact h1.2.2 h3
    · omega
    · omega
  · exact fun k hk e => (hR.1 k hk).1.2 e
theorem Hp.left {B : List Bk} {g : Nat} {cs cs' : Array Value} {t : TypeId} {b1 b2 : Bk} {A : Option Addr} {n c : Nat} (h : Hp V W ((g, cs, t) :: b1 :: b2 :: B) (.slice A n c) tv cbs tr) (hg : w1.heap[g]? = some (.cells cs' t (0, 0))) (ht : Tr (one g) W w1)
    {k : Nat} (hk : k ≤ cbs.length) : Hp V w1 ((g, cs', t) :: B) (.slice A k c) tv (cbs.take k) tr := by
  have h1 : Hp V w1 ((g, cs', t) :: b1 :: b2 :: B) (.slice A n c) tv cbs tr := Hp.turn (A := []) h ⟨hg, ht⟩
  have hsub : ∀ b, b ∈ (g, cs', t) :: B → b ∈ (g, cs', t) :: b1 :: b2 :: B := fun b hb => by
    rcases List.mem_cons.1 hb with rfl | hb
    · exact List.mem_cons_self
    · exact List.mem_cons_of_mem _ (List.mem_cons_of_mem _ (List.mem_cons_of_mem _ hb))
  have hsk : ∀ q, q ∈ keysOf ((g, cs', t) :: B) → q ∈ keysOf ((g, cs', t) :: b1 :: b2 :: B) := fun q hq => by
    obtain ⟨b, hb, e⟩ := List.mem_map.1 hq
    exact e ▸ List.mem_map_of_mem (hsub b hb)
  have hob : (Value.slice A k c).ownBlock = (Value.slice A n c).ownBlock := by cases A <;> rfl
  refine ⟨h1.below, ⟨fun b hb => h1.lay.at_ b (hsub b hb), ?_⟩, ⟨fun hm => h1.fm.1 (hsk _ hm), h1.fm.2⟩, ⟨fun hm => h1.wm.1 (hsk _ hm), h1.wm.2⟩, Kd.R_take h1.calls hk, h1.trace, ?_, ?_, ?_, h1.fns, h1.wds⟩
  · have hn := h1.lay.apart
    simp only [List.map_cons, List.nodup_cons, List.mem_cons, not_or] at hn ⊢
    exact ⟨hn.1.2.2, hn.2.2.2⟩
  · intro q hq; rw [hob] at hq; have := h1.cvk q hq; exact ⟨this.1, this.2.1, fun hm => this.2.2 (hsk _ hm)⟩
  · intro q hq; have := h1.tvk q hq; exact ⟨this.1, this.2.1, fun hm => this.2.2 (hsk _ hm)⟩
  · intro q hq; rw [hob] at hq; exact h1.apart q hq
end
end Go.Proofs.Ytabkinlpbefjgaa.L

namespace Go.Proofs.Ytabkinlpbefjgaa.L
open Go.RowKit Go.Proofs.Ytabkinlpbefjgaa.X Go.Proofs.YtabkinlpbefjgaaW.PrintWords Go.Proofs.YtabkinlpbefjgaaW.PrintLast Go.Proofs.YtabkinlpbefjgaaW.PrintMore
attribute [local go_sem] max2_int min2_int max_two min_two max_three min_three max_four min_four   -- for this text's walks alone
set_option linter.unusedVariables false
set_option linter.unusedSimpArgs false
open Go.Proofs.Ytabkinlpbefjgaa.Pure
theorem insF_st {GS : List S57} {inp : List Int} {x : S44} {regs r : List Int} {G G2 : Gl} (h : insF GS inp x regs G = .go r G2) : G2.st = G.st ∧ G2.tr.length ≤ G.tr.length + 1 := by
  unfold insF at h
  split at h
  · injection h with h1 h2; subst h2; exact ⟨rfl, Nat.le_succ _⟩
  split at h
  · injection h with h1 h2; subst h2; exact ⟨rfl, Nat.le_succ _⟩
  split at h
  · injection h with h1 h2; subst h2; exact ⟨rfl, Nat.le_succ _⟩
  split at h
  · split at h
    · injection h with h1 h2; subst h2; exact ⟨rfl, Nat.le_succ _⟩
    · cases h
  split at h
  · split at h
    · cases h
    · injection h with h1 h2; subst h2; exact ⟨rfl, Nat.le_succ _⟩
  split at h
  · split at h
    · cases h
    · injection h with h1 h2; subst h2; exact ⟨rfl, Nat.le_succ _⟩
  split at h
  · cases h
  split at h
  · split at h
    · injection h with h1 h2; subst h2; exact ⟨rfl, Nat.le_succ _⟩
    · injection h with h1 h2; subst h2; exact ⟨rfl, Nat.le_succ _⟩
  · injection h with h1 h2; subst h2; exact ⟨rfl, by show (G.tr ++ [_]).length ≤ _; simp⟩
theorem bytes_ext {a b : ByteArray} (h : a.toList = b.toList) : a = b := by
  rw [ByteArray.toList_eq, ByteArray.toList_eq] at h
  cases a; cases b
  congr 1
  exact Array.toList_inj.1 h
theorem fnAt_name {F : List S47} {n : ByteArray} (h : fnAt F n < F.length) : (fnOf F (fnAt F n)).f0 = n := by
  unfold fnOf
  rw [List.getD_eq_getElem?_getD, List.getElem?_eq_getElem h]
  have h2 : (F[fnAt F n].f0.toList == n.toList) = true := List.findIdx_getElem (p := fun f : S47 => f.f0.toList == n.toList) (w := h)
  exact bytes_ext (eq_of_beq h2)
theorem glAt_name {GS : List S57} {n : ByteArray} (h : glAt GS n < GS.length) : (GS.getD (glAt GS n) z57).f0 = n := by
  rw [List.getD_eq_getElem?_getD, List.getElem?_eq_getElem h]
  have h2 : (GS[glAt GS n].f0.toList == n.toList) = true := List.findIdx_getElem (p := fun f : S57 => f.f0.toList == n.toList) (w := h)
  exact bytes_ext (eq_of_beq h2)
def wdB : List Nat → List (List Int) → List Bk
  | b :: bs, l :: ls => (b, row32 l, 21) :: wdB bs ls
  | _, _ => []
theorem wd_split : ∀ (bs : List Nat) (ws : List (List Int)) (k : Nat), k < bs.length → bs.length = ws.length →
    ∃ A B, wdB bs ws = A ++ (bs.getD k 0, row32 (ws.getD k []), 21) :: B ∧ ∀ l, wdB bs (ws.set k l) = A ++ (bs.getD k 0, row32 l, 21) :: B
  | [], _, _, h, _ => absurd h (by simp)
  | b :: bs, [], _, _, h => absurd h (by simp)
  | b :: bs, w :: ws, 0, _, _ => ⟨[], wdB bs ws, rfl, fun _ => rfl⟩
  | b :: bs, w :: ws, k + 1, h, e => by
    obtain ⟨A, B, h1, h2⟩ := wd_split bs ws k (by simpa using h) (by simpa using e)
    refine ⟨(b, row32 w, 21) :: A, B, ?_, fun l => ?_⟩
    · simp only [wdB, h1, List.cons_append, List.getD_cons_succ]
    · simp only [List.set_cons_succ, wdB, h2, List.cons_append, List.getD_cons_succ]
abbrev Kf := Nat × Nat × Fr
def Rv.frC (V : Rv) (rb : Nat) (fr : Fr) : Array Value := fC (V.fa fr.fn) rb fr.regs.length fr.blk fr.ins fr.d
def Rv.frBs (V : Rv) : List Kf → List Bk
  | [] => []
  | (cb, rb, fr) :: q => (cb, V.frC rb fr, 70) :: (rb, row32 fr.regs, 21) :: V.frBs q
def Rv.LL (V : Rv) (ks : List Kf) (G : Gl) (en va : Int) (cv tv : Value) : List Bk := (V.mb, mC V.E ⟨cv, en, va, tv, G.st, G.rd⟩, 54) :: (V.frBs ks ++ (wdB V.wbs G.words ++ V.xs))
def cbsOf (ks : List Kf) : List Nat := (ks.map (·.1)).reverse
def Inv (V : Rv) (W : World) (ks : List Kf) (G : Gl) : Prop := ∃ cv tv, Hp V W (V.LL ks G 0 0 cv tv) cv tv (cbsOf ks) G.tr
structure RvOk (V : Rv) : Prop where
  hiv : V.E.iv = .slice V.AI V.inp.length V.ci
  hinp : (Kd.int .i32).C V.w0 V.AI V.inp.length V.inp
  hF : Kd.C k47 V.w0 (some V.A) V.F.length V.F
  mid : OkMid V.F V.GS
  w32 : ∀ v ∈ V.inp, W32 v
  len : V.inp.length ≤ 1000000
  wb : V.wbs.length = V.GS.length
def pan (c : Int) : Ending := .panicked [{ v := .iface 66 (.int .i64 c), recovered := false }]
def InsPost (V : Rv) (cb rb : Nat) (fr : Fr) (rest : List Kf) (x : S44) (G : Gl) (e : Ending) (w' : World) : Prop :=
  match insF V.GS V.inp x fr.regs G with
  | .go r G2 => e = .returned (.tuple #[]) ∧ Inv V w' ((cb, rb, { fr with regs := r }) :: rest) G2
  | .stop c => e = pan c ∧ Inv V w' ((cb, rb, fr) :: rest) G
  | .call args => if 31 ≤ rest.length then e = pan 4 ∧ Inv V w' ((cb, rb, fr) :: rest) G else e = .returned (.tuple #[]) ∧ ∃ cb2 rb2, Inv V w' ((cb2, rb2, newFr V.F x.f6 args x.f2) :: (cb, rb, fr) :: rest) G
theorem LL_cons (V : Rv) (cb rb : Nat) (fr : Fr) (rest : List Kf) (G : Gl) (en va : Int) (cv tv : Value) : V.LL ((cb, rb, fr) :: rest) G en va cv tv = (V.mb, mC V.E ⟨cv, en, va, tv, G.st, G.rd⟩, 54) :: (cb, V.frC rb fr, 70) :: (rb, row32 fr.regs, 21) :: (V.frBs rest ++ (wdB V.wbs G.words ++ V.xs)) := rfl
structure Top (V : Rv) (W : World) (cb rb : Nat) (fr : Fr) (G : Gl) (cv tv : Value) : Prop where
  m : W.heap[V.mb]? = some (.cells (mC V.E ⟨cv, 0, 0, tv, G.st, G.rd⟩) 54 (0, 0))
  c : W.heap[cb]? = some (.cells (V.frC rb fr) 70 (0, 0))
  r : W.heap[rb]? = some (.cells (row32 fr.regs) 21 (0, 0))
  cm : cb ≠ V.mb
  rm : rb ≠ V.mb
  rc : rb ≠ cb
theorem Hp.top {V : Rv} {W : World} {cb rb : Nat} {fr : Fr} {rest : List Kf} {G : Gl} {cv tv : Value} {cbs : List Nat} {tr : List Int} (h : Hp V W (V.LL ((cb, rb, fr) :: rest) G 0 0 cv tv) cv tv cbs tr) : Top V W cb rb fr G cv tv := by
  rw [LL_cons] at h
  exact ⟨h.at List.mem_cons_self, h.at (List.mem_cons_of_mem _ List.mem_cons_self), h.at (List.mem_cons_of_mem _ (List.mem_cons_of_mem _ List.mem_cons_self)), (h.ne (i := 1) (j := 0) rfl rfl (by decide)), (h.ne (i := 2) (j := 0) rfl rfl (by decide)), (h.ne (i := 2) (j := 1) rfl rfl (by decide))⟩
theorem Hp.two {V : Rv} {W w1 : World} {cv tv : Value} {cbs : List Nat} {tr : List Int} {B : List Bk} {b1 : Bk} {g r : Nat} {cs cs' rc rc' : Array Value} {t tq : TypeId} (h : Hp V W ((g, cs, t) :: b1 :: (r, rc, tq) :: B) cv tv cbs tr) (hg : w1.heap[g]? = some (.cells cs' t (0, 0)))
    (hr : w1.heap[r]? = some (.cells rc' tq (0, 0))) (ht : Tr (fun q => q = g ∨ q = r) W w1) : Hp V w1 ((g, cs', t) :: b1 :: (r, rc', tq) :: B) cv tv cbs tr := by
  refine h.move ht (fun k hk => ?_) ?_ rfl
  · rcases hk with rfl | rfl <;> simp [keysOf]
  · have hn := h.lay.apart
    refine ⟨fun b hb => ?_, hn⟩
    simp only [List.map_cons, List.nodup_cons, List.mem_cons, not_or] at hn
    rcases List.mem_cons.1 hb with rfl | hb
    · exact ⟨(h.lay.at_ _ List.mem_cons_self).1, hg⟩
    rcases List.mem_cons.1 hb with rfl | hb
    · have hm : b ∈ (g, cs, t) :: b :: (r, rc, tq) :: B := List.mem_cons_of_mem _ List.mem_cons_self
      exact ⟨(h.lay.at_ b hm).1, (ht.keep b.1 (h.lay.lt hm) (by rintro (e | e); exact hn.1.1 e.symm; exact hn.2.1.1 e)).trans (h.lay.at_ b hm).2⟩
    rcases List.mem_cons.1 hb with rfl | hb
    · exact ⟨(h.lay.at_ (r, rc, tq) (List.mem_cons_of_mem _ (List.mem_cons_of_mem _ List.mem_cons_self))).1, hr⟩
    · have hm : b ∈ (g, cs, t) :: b1 :: (r, rc, tq) :: B := List.mem_cons_of_mem _ (List.mem_cons_of_mem _ (List.mem_cons_of_mem _ hb))
      have hbm : b.1 ∈ B.map (·.1) := List.mem_map_of_mem hb
      exact ⟨(h.lay.at_ b hm).1, (ht.keep b.1 (h.lay.lt hm) (by rintro (e | e); exact hn.1.2.2 (e ▸ hbm); exact hn.2.2.1 (e ▸ hbm))).trans (h.lay.at_ b hm).2⟩
theorem Inv.regs {V : Rv} {W w1 : World} {cb rb : Nat} {fr : Fr} {rest : List Kf} {G : Gl} {cv tv : Value} {r : List Int} (hl : r.length = fr.regs.length) (h : Hp V W (V.LL ((cb, rb, fr) :: rest) G 0 0 cv tv) cv tv (cbsOf ((cb, rb, fr) :: rest)) G.tr) (ht : Turned W w1 rb (row32 r) 21) :
    Inv V w1 ((cb, rb, { fr with regs := r }) :: rest) G := by
  refine ⟨cv, tv, ?_⟩
  rw [LL_cons] at h ⊢
  have h2 := Hp.turn (A := [(V.mb, mC V.E ⟨cv, 0, 0, tv, G.st, G.rd⟩, 54), (cb, V.frC rb fr, 70)]) h ht
  have e : V.frC rb { fr with regs := r } = V.frC rb fr := by unfold Rv.frC; rw [hl]
  rw [e]
  exact h2
def Rv.LL_head (V : Rv) (ks : List Kf) (G : Gl) (cv tv : Value) : List Bk := (V.mb, mC V.E ⟨cv, 0, 0, tv, G.st, G.rd⟩, 54) :: V.frBs ks
theorem word_lens {V : Rv} (hV : RvOk V) {G : Gl} (hG : OkGl V.GS G) : V.wbs.length = G.words.length := by
  have := congrArg List.length hG.words
  rw [List.length_map, List.length_map] at this
  rw [hV.wb, this]
theorem word_case {V : Rv} (hV : RvOk V) {W : World} {cb rb : Nat} {fr : Fr} {rest : List Kf} {G : Gl} {cv tv : Value} {cbs : List Nat} {tr : List Int} (h : Hp V W (V.LL ((cb, rb, fr) :: rest) G 0 0 cv tv) cv tv cbs tr) (hF : OkFr V.F fr) (hG : OkGl V.GS G) (x : S44)
    (hA : x.f3 = -1 ∨ 0 ≤ x.f3 ∧ x.f3 < (fnOf V.F fr.fn).f2) (hg : glAt V.GS x.f6 < V.GS.length) (av : Value) (hav : av.oneCell' = true) :
    (wordIx V.GS x fr.regs G = none ∧ ∀ w1, Tr nil_ W w1 → Calls Try.prog 37 #[.pointer (some ⟨V.mb, 0, none⟩), .pointer (some ⟨cb, 0, none⟩), .agg (xC x av)] w1 fun e w' => e = .panicked [{ v := .iface 66 (.int .i64 3), recovered := false }] ∧ Tr nil_ w1 w') ∨
    ∃ gi j, wordIx V.GS x fr.regs G = some (gi, j) ∧ gi < V.wbs.length ∧ j < (G.words.getD gi []).length ∧
      ∀ w1, Tr nil_ W w1 → Calls Try.prog 37 #[.pointer (some ⟨V.mb, 0, none⟩), .pointer (some ⟨cb, 0, none⟩), .agg (xC x av)] w1 fun e w' => e = .returned (.pointer (some ⟨V.wbs.getD gi 0, j, none⟩)) ∧ Tr nil_ w1 w' := by
  have hrg := hF.regs
  have hln : (G.words.getD (glAt V.GS x.f6) []).length = wsize (V.GS.getD (glAt V.GS x.f6) z57) := wlen hG hg
  have hsz := hV.mid.size (V.GS.getD (glAt V.GS x.f6) z57) (by rw [List.getD_eq_getElem?_getD, List.getElem?_eq_getElem hg]; exact List.getElem_mem hg)
  have hw0 : 0 < wsize (V.GS.getD (glAt V.GS x.f6) z57) ∧ wsize (V.GS.getD (glAt V.GS x.f6) z57) ≤ 1000000 := by unfold wsize; omega
  have hmp : ∀ w1, Tr nil_ W w1 → MapAt 51 V.E.wm w1 x.f6 (.slice (some ⟨V.wbs.getD (glAt V.GS x.f6) 0, 0, none⟩) (wsize (V.GS.getD (glAt V.GS x.f6) z57)) (wsize (V.GS.getD (glAt V.GS x.f6) z57))) := fun w1 ht => by
    have := (h.tr_ ht).wds _ hg
    rwa [glAt_name hg] at this
  by_cases h3 : x.f3 < 0
  · refine .inr ⟨glAt V.GS x.f6, 0, ?_, by rw [hV.wb]; exact hg, by rw [hln]; exact hw0.1, fun w1 ht => ?_⟩
    · unfold wordIx; rw [if_pos h3]
    · have h1 := h.tr_ ht
      exact word_no V.E _ w1 V.mb h1.top.m _ x av hav _ _ (hmp w1 ht) h1.wm.2.1 h3 hw0.1
  · have hA2 : 0 ≤ x.f3 ∧ x.f3 < (fr.regs.length : Int) := by omega
    have hw := W32.get hF.w32 x.f3
    by_cases hc : 0 ≤ get32 fr.regs x.f3 ∧ get32 fr.regs x.f3 < ((G.words.getD (glAt V.GS x.f6) []).length : Int)
    · refine .inr ⟨glAt V.GS x.f6, (get32 fr.regs x.f3).toNat, ?_, by rw [hV.wb]; exact hg, by omega, fun w1 ht => ?_⟩
      · unfold wordIx; rw [if_neg h3, if_pos hc]
      · have h1 := h.tr_ ht
        exact word_at V.E _ w1 V.mb h1.top.m cb _ rb _ _ _ _ h1.top.c fr.regs h1.top.r rfl x av hav _ _ (hmp w1 ht) h1.wm.2.1 hA2.1 hA2.2 hc.1 (by rw [← hln]; exact hc.2) hw0.2 hw.1 hw.2
    · refine .inl ⟨?_, fun w1 ht => ?_⟩
      · unfold wordIx; rw [if_neg h3, if_neg hc]
      · have h1 := h.tr_ ht
        exact word_out V.E _ w1 V.mb h1.top.m cb _ rb _ _ _ _ h1.top.c fr.regs h1.top.r rfl x av hav _ _ (hmp w1 ht) h1.wm.2.1 hA2.1 hA2.2 (by rw [hln] at hc; omega) hw0.2 hw.1 hw.2
set_option maxHeartbeats 2000000 in
theorem ins_inv {V : Rv} (hV : RvOk V) {W : World} {cb rb : Nat} {fr : Fr} {rest : List Kf} {G : Gl} (hI : Inv V W ((cb, rb, fr) :: rest) G) (hF : OkFr V.F fr) (hG : OkGl V.GS G) (x : S44) (hX : OkIns V.F V.GS (fnOf V.F fr.fn).f2 x) (hrl : rest.length ≤ 31) (htr : G.tr.length ≤ 1000000)
    (A7 : Option Addr) (c7 : Nat) (hc7 : x.f7.length ≤ c7) (h7 : (Kd.int .i64).C W A7 x.f7.length x.f7) :
    Calls Try.prog 26 #[.pointer (some ⟨V.mb, 0, none⟩), .pointer (some ⟨cb, 0, none⟩), .agg (xC x (.slice A7 x.f7.length c7))] W (InsPost V cb rb fr rest x G) := by
  obtain ⟨cv, tv, h⟩ := hI
  have T := h.top
  have hrg := hF.regs
  obtain ⟨k, op, D, A, B, num, nm, args⟩ := x
  unfold InsPost
  have hk := hX.kind
  simp only at hk hc7 h7
  unfold Rv.frC at T
  by_cases h1 : k = 1
  · subst h1
    have hd := hX.dst (by simp) (by simp) (by simp)
    refine (ins_num _ rb fr.regs _ rfl _ _ _ W _ cb T.c T.r T.rc op D A B num nm _ rfl hd.1 (by have := hd.2; simp only at this; omega)).mono ?_
    rintro e w' ⟨he, ht⟩
    exact ⟨he, Inv.regs (put32_length _ _ _) h ht⟩
  by_cases h2 : k = 2
  · subst h2
    have hd := hX.dst (by simp) (by simp) (by simp)
    have ha := hX.a (by simp)
    simp only at hd ha
    refine (ins_copy _ rb fr.regs _ rfl _ _ _ W _ cb T.c T.r T.rc op D A B num nm _ rfl hd.1 (by omega) ha.1 (by omega)).mono ?_
    rintro e w' ⟨he, ht⟩
    exact ⟨he, Inv.regs (put32_length _ _ _) h ht⟩
  by_cases h3 : k = 3
  · subst h3
    have hd := hX.dst (by simp) (by simp) (by simp)
    have ha := hX.a (by simp)
    simp only at hd ha
    refine (ins_un _ rb fr.regs _ rfl _ _ _ W _ cb T.c T.r T.rc op D A B num nm _ rfl hd.1 (by omega) ha.1 (by omega) (W32.get hF.w32 _)).mono ?_
    rintro e w' ⟨he, ht⟩
    exact ⟨he, Inv.regs (put32_length _ _ _) h ht⟩
  by_cases h4 : k = 4
  · subst h4
    have hd := hX.dst (by simp) (by simp) (by simp)
    have ha := hX.a (by simp)
    have hb := hX.b (by simp)
    simp only at hd ha hb
    by_cases hok : (binV op (get32 fr.regs A) (get32 fr.regs B)).2 = true
    · have e1 : insF V.GS V.inp ⟨4, op, D, A, B, num, nm, args⟩ fr.regs G = .go (put32 fr.regs D (binV op (get32 fr.regs A) (get32 fr.regs B)).1) G := by
        unfold insF; simp only [hok]; rfl
      rw [e1]
      refine (ins_bin _ rb fr.regs _ rfl _ _ _ W _ cb T.c T.r T.rc op D A B num nm _ rfl hd.1 (by omega) ha.1 (by omega) hb.1 (by omega) (W32.get hF.w32 _) (W32.get hF.w32 _) hok).mono ?_
      rintro e w' ⟨he, ht⟩
      exact ⟨he, Inv.regs (put32_length _ _ _) h ht⟩
    · have e1 : insF V.GS V.inp ⟨4, op, D, A, B, num, nm, args⟩ fr.regs G = .stop 2 := by
        unfold insF; simp only [hok]; rfl
      rw [e1]
      refine (ins_div _ rb fr.regs _ rfl _ _ _ W _ cb T.c T.r T.rc op D A B num nm _ rfl hd.1 (by omega) ha.1 (by omega) hb.1 (by omega) (W32.get hF.w32 _) (W32.get hF.w32 _) (by simpa using hok)).mono ?_
      rintro e w' ⟨he, ht⟩
      exact ⟨he, cv, tv, h.tr_ ht⟩
  by_cases h5 : k = 5
  · subst h5
    have hd := hX.dst (by simp) (by simp) (by simp)
    have hm := hX.mem (by simp)
    simp only at hd hm
    have hmem : (fr.regs.length : Int) = (fr.regs.length : Int) := rfl
    rcases word_case hV h hF hG ⟨5, op, D, A, B, num, nm, args⟩ hm.1 hm.2 (.slice A7 args.length c7) rfl with ⟨hn, hp⟩ | ⟨gi, j, hs, hgi, hj, hp⟩
    · have e1 : insF V.GS V.inp ⟨5, op, D, A, B, num, nm, args⟩ fr.regs G = .stop 3 := by
        unfold insF; simp only [hn]; rfl
      rw [e1]
      refine (ins_load_out _ rb fr.regs _ rfl _ _ _ W _ cb T.c T.r T.rc op D A B num nm _ rfl hp hd.1 (by omega)).mono ?_
      rintro e w' ⟨he, ht⟩
      exact ⟨he, cv, tv, h.tr_ ht⟩
    · have e1 : insF V.GS V.inp ⟨5, op, D, A, B, num, nm, args⟩ fr.regs G = .go (put32 fr.regs D ((G.words.getD gi []).getD j 0)) G := by
        unfold insF; simp only [hs]; rfl
      rw [e1]
      obtain ⟨LA, LB, hw1, _⟩ := wd_split V.wbs G.words gi hgi (word_lens hV hG)
      have hwb := h.at (b := (V.wbs.getD gi 0, row32 (G.words.getD gi []), 21)) (by unfold Rv.LL; rw [hw1]; simp)
      have hz := row32_cell hwb (j : Int) (by omega) (by omega)
      rw [Int.toNat_natCast] at hz
      have hz2 : get32 (G.words.getD gi []) (j : Int) = (G.words.getD gi []).getD j 0 := by unfold get32; rw [Int.toNat_natCast]
      rw [hz2] at hz
      refine (ins_load _ rb fr.regs _ rfl _ _ _ W _ cb T.c T.r T.rc op D A B num nm _ rfl hd.1 (by omega) (V.wbs.getD gi 0) j _ hz hp).mono ?_
      rintro e w' ⟨he, ht⟩
      exact ⟨he, Inv.regs (put32_length _ _ _) h ht⟩
  by_cases h6 : k = 6
  · subst h6
    have hb := hX.b (by simp)
    have hm := hX.mem (by simp)
    simp only at hb hm
    rcases word_case hV h hF hG ⟨6, op, D, A, B, num, nm, args⟩ hm.1 hm.2 (.slice A7 args.length c7) rfl with ⟨hn, hp⟩ | ⟨gi, j, hs, hgi, hj, hp⟩
    · have e1 : insF V.GS V.inp ⟨6, op, D, A, B, num, nm, args⟩ fr.regs G = .stop 3 := by
        unfold insF; simp only [hn]; rfl
      rw [e1]
      refine (ins_store_out _ rb fr.regs _ rfl _ _ _ W _ cb T.c T.r T.rc op D A B num nm _ rfl hp hb.1 (by omega)).mono ?_
      rintro e w' ⟨he, ht⟩
      exact ⟨he, cv, tv, h.tr_ ht⟩
    · have e1 : insF V.GS V.inp ⟨6, op, D, A, B, num, nm, args⟩ fr.regs G = .go fr.regs { G with words := G.words.set gi ((G.words.getD gi []).set j (get32 fr.regs B)) } := by
        unfold insF; simp only [hs]; rfl
      rw [e1]
      obtain ⟨LA, LB, hw1, hw2⟩ := wd_split V.wbs G.words gi hgi (word_lens hV hG)
      have hwb := h.at (b := (V.wbs.getD gi 0, row32 (G.words.getD gi []), 21)) (by unfold Rv.LL; rw [hw1]; simp)
      refine (ins_store _ rb fr.regs _ rfl _ _ _ W _ cb T.c T.r T.rc op D A B num nm _ rfl hb.1 (by omega) (V.wbs.getD gi 0) j 21 _ hwb (by rw [row32_size]; exact hj) hp).mono ?_
      rintro e w' ⟨he, ht⟩
      refine ⟨he, cv, tv, ?_⟩
      have e2 : (row32 (G.words.getD gi [])).setIfInBounds j (.int .i32 (get32 fr.regs B)) = row32 ((G.words.getD gi []).set j (get32 fr.regs B)) := by simp [row32, List.map_set]
      rw [e2] at ht
      have h8 : Hp V W ((V.LL_head ((cb, rb, fr) :: rest) G cv tv ++ LA) ++ (V.wbs.getD gi 0, row32 (G.words.getD gi []), 21) :: (LB ++ V.xs)) cv tv (cbsOf ((cb, rb, fr) :: rest)) G.tr := by
        have e3 : (V.LL_head ((cb, rb, fr) :: rest) G cv tv ++ LA) ++ (V.wbs.getD gi 0, row32 (G.words.getD gi []), 21) :: (LB ++ V.xs) = V.LL ((cb, rb, fr) :: rest) G 0 0 cv tv := by
          unfold Rv.LL Rv.LL_head; rw [hw1]; simp
        rw [e3]; exact h
      have h9 := Hp.turn h8 ht
      have e4 : (V.LL_head ((cb, rb, fr) :: rest) G cv tv ++ LA) ++ (V.wbs.getD gi 0, row32 ((G.words.getD gi []).set j (get32 fr.regs B)), 21) :: (LB ++ V.xs) = V.LL ((cb, rb, fr) :: rest) { G with words := G.words.set gi ((G.words.getD gi []).set j (get32 fr.regs B)) } 0 0 cv tv := by
        unfold Rv.LL Rv.LL_head; rw [hw2]; simp
      rw [e4] at h9
      exact h9
  by_cases h7k : k = 7
  · subst h7k
    obtain ⟨ha8, haix, hfa, hpl⟩ := hX.args rfl
    simp only at ha8 haix hfa hpl
    have e1 : insF V.GS V.inp ⟨7, op, D, A, B, num, nm, args⟩ fr.regs G = .call (args.map (get32 fr.regs)) := rfl
    rw [e1]
    have hlen : (cbsOf ((cb, rb, fr) :: rest)).length = rest.length + 1 := by simp [cbsOf]
    have hix : ∀ i ∈ args, 0 ≤ i ∧ i < (fr.regs.length : Int) := fun i hi => by have := haix i hi; omega
    by_cases hdeep : 31 ≤ rest.length
    · simp only [if_pos hdeep]
      refine (ins_call_full _ rb fr.regs _ rfl _ _ _ W _ cb T.c T.r op D A B num nm A7 args.length c7 hc7 args h7 hix ha8 (fun w' => Inv V w' ((cb, rb, fr) :: rest) G) (fun w1 A2 c2 ht hC hl => ?_)).mono ?_
      · have h1 := h.tr_ ht
        obtain ⟨A0, cc, hcv⟩ := Kd.R_slice h1.calls
        refine (enter_full V.E _ w1 V.mb h1.top.m A0 _ cc hcv (by rw [hlen]; omega) nm _ D).mono ?_
        rintro e w' ⟨he, hw⟩
        subst hw
        exact ⟨he, cv, tv, h1⟩
      · exact fun e w' hh => hh
    · simp only [if_neg hdeep]
      refine (ins_call_ok _ rb fr.regs _ rfl _ _ _ W _ cb T.c T.r op D A B num nm A7 args.length c7 hc7 args h7 hix ha8 (fun w' => ∃ cb2 rb2, Inv V w' ((cb2, rb2, newFr V.F nm (args.map (get32 fr.regs)) D) :: (cb, rb, fr) :: rest) G) (fun w1 A2 c2 ht hC hl => ?_)).mono ?_
      · have h1 := h.tr_ ht
        have hf := hV.mid.fns _ (fnOf_mem hfa)
        have hpp := hf.params
        have hmp := h1.fns _ hfa
        rw [fnAt_name hfa] at hmp
        have hFw := Kd.C_below hV.hF h1.below
        obtain ⟨ad, A3, c3, had, hc0, hc1, hc2, hc3⟩ := at_T47 hFw (fnAt V.F nm : Int) (by omega) (by omega)
        injection had with had
        subst had
        rw [Int.toNat_natCast] at hc2
        have hrd : (rd_T47 V.F (fnAt V.F nm : Int)).f2 = (((fnOf V.F (fnAt V.F nm)).f2.toNat : Nat) : Int) := by
          show (V.F.getD ((fnAt V.F nm : Int)).toNat z47).f2 = _
          rw [Int.toNat_natCast]
          show (fnOf V.F (fnAt V.F nm)).f2 = _
          omega
        rw [hrd] at hc2
        have hfr : ∀ k, w1.heap.size ≤ k → (V.ok (keysOf (V.LL ((cb, rb, fr) :: rest) G 0 0 cv tv)) k ∧ tv.ownBlock ≠ some k) := by
          intro k hk
          refine ⟨⟨by have := h1.fm.2.1; omega, by have := h1.wm.2.1; omega, fun hm => ?_⟩, fun e => by have := (own_ge1 h1.trace k e).2; omega⟩
          obtain ⟨b, hb, e⟩ := List.mem_map.1 hm
          have := h1.lay.lt hb
          omega
        refine (enter_ok V.E _ w1 V.mb V.base h1.top.m (fun k => V.ok (keysOf (V.LL ((cb, rb, fr) :: rest) G 0 0 cv tv)) k ∧ tv.ownBlock ≠ some k) _ (h1.calls_in _ (fun k hk => ⟨h1.cvk k hk, h1.apart k hk⟩)) (by rw [hlen]; omega) h1.base_le hfr (fun k hk e => hk.1.2.2 (by rw [e]; exact List.mem_cons_self)) nm A2 args.length c2 _ hC D (V.fa (fnAt V.F nm)) _ hmp hc2 (by omega) (by have := hf.regs; omega)).mono ?_
        rintro e w' ⟨he, cv2, cb2, rb2, g1, g2, g3, g4, g5, g6, g7, g8⟩
        refine ⟨he, cb2, rb2, cv2, tv, ?_⟩
        have hE := h1.entered (t := 54) (tc := 70) (tq := 21) g1 g2 g3 g4 g5 g6 g7 g8
        have hnl : (newFr V.F nm (args.map (get32 fr.regs)) D).regs.length = (fnOf V.F (fnAt V.F nm)).f2.toNat := by
          show ((args.map (get32 fr.regs)) ++ List.replicate _ 0).length = _
          rw [List.length_append, List.length_replicate, List.length_map]
          omega
        have hfc : V.frC rb2 (newFr V.F nm (args.map (get32 fr.regs)) D) = fC (V.fa (fnAt V.F nm)) rb2 (fnOf V.F (fnAt V.F nm)).f2.toNat 0 0 D := by
          unfold Rv.frC
          rw [hnl]
          rfl
        rw [show cbsOf ((cb2, rb2, newFr V.F nm (args.map (get32 fr.regs)) D) :: (cb, rb, fr) :: rest) = cbsOf ((cb, rb, fr) :: rest) ++ [cb2] from by simp [cbsOf], LL_cons, hfc]
        rw [List.length_map] at hE
        have hreg : (newFr V.F nm (args.map (get32 fr.regs)) D).regs = args.map (get32 fr.regs) ++ List.replicate ((fnOf V.F (fnAt V.F nm)).f2.toNat - args.length) 0 := by
          show args.map (get32 fr.regs) ++ List.replicate ((fnOf V.F (fnAt V.F nm)).f2.toNat - (args.map (get32 fr.regs)).length) 0 = _
          rw [List.length_map]
        rw [hreg]
        exact hE
      · exact fun e w' hh => hh
  by_cases h8 : k = 8
  · subst h8
    have hd := hX.dst (by simp) (by simp) (by simp)
    simp only at hd
    have hT := h.top
    by_cases hrd : G.rd < V.inp.length
    · have e1 : insF V.GS V.inp ⟨8, op, D, A, B, num, nm, args⟩ fr.regs G = .go (put32 fr.regs D (V.inp.getD G.rd 0)) { G with rd := G.rd + 1 } := by
        unfold insF; simp only [hrd]; rfl
      rw [e1]
      obtain ⟨ad, hAI, hcell⟩ := Kd.at_int hV.hinp (G.rd : Int) (by omega) (by omega)
      rw [Int.toNat_natCast] at hcell
      have hvv : rd V.inp (G.rd : Int) = V.inp.getD G.rd 0 := by unfold rd; rw [Int.toNat_natCast]
      rw [hvv] at hcell
      have hlt0 : ad.block < V.w0.heap.size := by rw [← add_block ad G.rd]; exact World.block_lt_of_cell? _ _ hcell
      have hmb : V.base ≤ V.mb := (h.lay.at_ _ List.mem_cons_self).1
      have hne : ad.block ≠ V.mb := by unfold Rv.base at hmb; omega
      refine (ins_read _ rb fr.regs _ rfl _ _ _ W _ cb T.c T.r T.rc op D A B num nm _ rfl hd.1 (by omega) V.mb 54 _ (mC V.E ⟨cv, 0, 0, tv, G.st, G.rd + 1⟩) T.m T.rm (V.inp.getD G.rd 0) (fun w1 ht => ?_)).mono ?_
      · have h1 := h.tr_ ht
        exact read_some V.E ⟨cv, 0, 0, tv, G.st, G.rd⟩ w1 V.mb h1.top.m ad _ V.ci (by rw [hV.hiv, hAI]) hrd (by have := hV.len; omega) _ (pw_cell_below h1.below hcell) hne
      · rintro e w' ⟨he, hg, hr, ht⟩
        refine ⟨he, cv, tv, ?_⟩
        have e2 : V.frC rb { fr with regs := put32 fr.regs D (V.inp.getD G.rd 0) } = V.frC rb fr := by unfold Rv.frC; rw [put32_length]
        rw [LL_cons, e2]
        exact Hp.two h hg hr ht
    · have e1 : insF V.GS V.inp ⟨8, op, D, A, B, num, nm, args⟩ fr.regs G = .go (put32 fr.regs D 0) G := by
        unfold insF; simp only [hrd]; rfl
      rw [e1]
      refine (ins_read _ rb fr.regs _ rfl _ _ _ W _ cb T.c T.r T.rc op D A B num nm _ rfl hd.1 (by omega) V.mb 54 _ (mC V.E ⟨cv, 0, 0, tv, G.st, G.rd⟩) T.m T.rm 0 (fun w1 ht => ?_)).mono ?_
      · have h1 := h.tr_ ht
        refine (read_none V.E ⟨cv, 0, 0, tv, G.st, G.rd⟩ w1 V.mb h1.top.m V.AI _ V.ci hV.hiv (by show V.inp.length ≤ G.rd; omega)).mono ?_
        rintro e w' ⟨he, ht2⟩
        exact ⟨he, ht2.blk h1.top.m (fun h => h), ht2.mono (fun _ h => h.elim)⟩
      · rintro e w' ⟨he, hg, hr, ht⟩
        refine ⟨he, cv, tv, ?_⟩
        have e2 : V.frC rb { fr with regs := put32 fr.regs D 0 } = V.frC rb fr := by unfold Rv.frC; rw [put32_length]
        rw [LL_cons, e2]
        exact Hp.two h hg hr ht
  · have h9 : k = 9 := by omega
    subst h9
    have ha := hX.a (by simp)
    simp only at ha
    have e1 : insF V.GS V.inp ⟨9, op, D, A, B, num, nm, args⟩ fr.regs G = .go fr.regs { G with tr := G.tr ++ [get32 fr.regs A] } := rfl
    rw [e1]
    have hfr : ∀ k, W.heap.size ≤ k → (V.ok (keysOf (V.LL ((cb, rb, fr) :: rest) G 0 0 cv tv)) k ∧ cv.ownBlock ≠ some k) := by
      intro k hk
      refine ⟨⟨by have := h.fm.2.1; omega, by have := h.wm.2.1; omega, fun hm => ?_⟩, fun e => by have := (own_ge1 h.calls k e).2; omega⟩
      obtain ⟨b, hb, e⟩ := List.mem_map.1 hm
      have := h.lay.lt hb
      omega
    have hmb : V.base ≤ V.mb := (h.lay.at_ _ List.mem_cons_self).1
    refine (ins_print _ rb fr.regs _ rfl _ _ _ W _ cb T.c T.r T.rc op D A B num nm _ rfl ha.1 (by omega) V.E ⟨cv, 0, 0, tv, G.st, G.rd⟩ V.mb V.base T.m rfl (fun k => V.ok (keysOf (V.LL ((cb, rb, fr) :: rest) G 0 0 cv tv)) k ∧ cv.ownBlock ≠ some k) G.tr (h.trace_in _ (fun k hk => ⟨h.tvk k hk, fun e => h.apart k e hk⟩)) h.base_le hmb hfr (fun k hk e => hk.1.2.2 (by rw [e]; exact List.mem_cons_self)) htr).mono ?_
    rintro e w' ⟨he, tv2, g1, g2, g3⟩
    exact ⟨he, cv, tv2, Hp.printed h g1 g2 g3⟩
end Go.Proofs.Ytabkinlpbefjgaa.L

namespace Go.Proofs.Ytabkinlpbefjgaa.L
open Go.RowKit Go.Proofs.Ytabkinlpbefjgaa.X Go.Proofs.YtabkinlpbefjgaaW.PrintWords Go.Proofs.YtabkinlpbefjgaaW.PrintLast Go.Proofs.YtabkinlpbefjgaaW.PrintMore
attribute [local go_sem] max2_int min2_int max_two min_two max_three min_three max_four min_four   -- for this text's walks alone
set_option linter.unusedVariables false
set_option linter.unusedSimpArgs false
open Go.Proofs.Ytabkinlpbefjgaa.Pure
structure Qv where
  w0 : World
  mb : Nat
  db : Nat
  cD : Nat
  bs : List Nat
  AG : Option Addr
  cG : Nat
  GS : List S57
  AF : Option Addr
  cF : Nat
  F : List S47
  AI : Option Addr
  cI : Nat
  inp : List Int
  fuel : Int
  dv : Value
def Qv.E (V : Qv) : RE := ⟨.slice V.AG V.GS.length V.cG, .slice V.AF V.F.length V.cF, V.dv, .slice V.AI V.inp.length V.cI, V.fuel⟩
def Qv.base (V : Qv) : Nat := V.w0.heap.size
def Qv.own (V : Qv) (tv : Value) (q : Nat) : Prop := q = V.mb ∨ q ∈ V.bs ∨ some q = tv.ownBlock
def Qv.ok (V : Qv) (k : Nat) : Prop := k ≠ V.mb ∧ k ≠ V.db ∧ k ∉ V.bs
structure QvOk (V : Qv) : Prop where
  hG : Kd.C k57 V.w0 V.AG V.GS.length V.GS
  hcG : V.GS.length ≤ V.cG
  hF : Kd.C k47 V.w0 V.AF V.F.length V.F
  hcF : V.F.length ≤ V.cF
  hI : (Kd.int .i32).C V.w0 V.AI V.inp.length V.inp
  hcI : V.inp.length ≤ V.cI
  mid : OkMid V.F V.GS
  w32 : ∀ v ∈ V.inp, W32 v
  len : V.inp.length ≤ 1000000
  fu : V.fuel ≤ 100000
  dv : 0 < V.GS.length → V.dv = .slice (some ⟨V.db, 0, none⟩) V.GS.length V.cD
  dc : V.GS.length ≤ V.cD
  bsl : V.bs.length = V.GS.length
  mbs : V.mb ∉ V.bs
  dbs : V.db ∉ V.bs
  mdb : V.mb ≠ V.db
  bsn : V.bs.Nodup
  gem : V.base ≤ V.mb
  geb : ∀ b ∈ V.bs, V.base ≤ b
structure QInv (V : Qv) (W : World) (G : Gl) (c en va : Int) (tv : Value) : Prop where
  below : Below V.base V.w0 W
  m : W.heap[V.mb]? = some (Obj.cells (rC V.E ⟨c, en, va, tv, G.st, G.rd⟩) 61 (0, 0))
  dat : ∀ j b, V.bs[j]? = some b → W.cell? ⟨V.db, j, none⟩ = some (Value.slice (some ⟨b, 0, none⟩) (G.words.getD j []).length (G.words.getD j []).length)
  words : ∀ j b, V.bs[j]? = some b → W.heap[b]? = some (Obj.cells (row32 (G.words.getD j [])) 21 (0, 0))
  tr : (Kd.int .i32).R 21 W V.base V.ok tv G.tr
  gl : OkGl V.GS G
  trl : G.tr.length ≤ G.st
  stl : G.st ≤ 100000
  dbl : V.db < W.heap.size
structure Off (V : Qv) (W : World) (tv : Value) (k : Nat) : Prop where
  lt : k < W.heap.size
  ge : V.base ≤ k
  mb : k ≠ V.mb
  db : k ≠ V.db
  bs : k ∉ V.bs
  tv : some k ≠ tv.ownBlock
def TvOk (W : World) (tv tv' : Value) : Prop := tv'.ownBlock = tv.ownBlock ∨ ∃ b, tv'.ownBlock = some b ∧ W.heap.size ≤ b
theorem TvOk.refl (W : World) (tv : Value) : TvOk W tv tv := .inl rfl
theorem TvOk.trans {W W1 : World} {t0 t1 t2 : Value} (h : TvOk W t0 t1) (h2 : TvOk W1 t1 t2) (hs : W.heap.size ≤ W1.heap.size) : TvOk W t0 t2 := by
  rcases h2 with h2 | ⟨b, h2, h3⟩
  · rcases h with h | ⟨b, h, h4⟩
    · exact .inl (h2.trans h)
    · exact .inr ⟨b, h2.trans h, h4⟩
  · exact .inr ⟨b, h2, Nat.le_trans hs h3⟩
theorem Off.step {V : Qv} {W W' : World} {tv tv' : Value} {k : Nat} (h : Off V W tv k) (hs : W.heap.size ≤ W'.heap.size) (hv : TvOk W tv tv') : Off V W' tv' k := by
  refine ⟨Nat.lt_of_lt_of_le h.lt hs, h.ge, h.mb, h.db, h.bs, fun e => ?_⟩
  rcases hv with hv | ⟨b, hb, hle⟩
  · exact h.tv (e.trans hv)
  · rw [hb] at e
    injection e with e
    have := h.lt
    omega
theorem Off.kept {V : Qv} {W W' : World} {tv : Value} {k : Nat} (h : Off V W tv k) (ht : Tr (V.own tv) W W') : W'.heap[k]? = W.heap[k]? :=
  ht.keep k h.lt (fun hq => hq.elim h.mb (fun hq => hq.elim h.bs h.tv))
theorem QInv.off {V : Qv} (hV : QvOk V) {W W' : World} {G : Gl} {c en va : Int} {tv : Value} (h : QInv V W G c en va tv) {k : Nat} (hk : W.heap.size ≤ k) (hk2 : k < W'.heap.size) : Off V W' tv k := by
  refine ⟨hk2, Nat.le_trans h.below.size hk, ?_, by have := h.dbl; omega, ?_, ?_⟩
  · have := blk_lt h.m; omega
  · intro hm
    obtain ⟨j, hj⟩ := List.getElem?_of_mem hm
    have := blk_lt (h.words j k hj)
    omega
  · intro e
    have := own_ge1 h.tr k e.symm
    omega
theorem QInv.keep {V : Qv} {W W' : World} {G : Gl} {c en va : Int} {tv : Value} {S : Nat → Prop} (h : QInv V W G c en va tv) (ht : Tr S W W') (hS : ∀ q, S q → V.base ≤ q ∧ q ≠ V.mb ∧ q ≠ V.db ∧ q ∉ V.bs ∧ some q ≠ tv.ownBlock) : QInv V W' G c en va tv := by
  refine ⟨h.below.trans (ht.to_below h.below.size (fun k hk => (hS k hk).1)), ht.blk h.m (fun hq => (hS _ hq).2.1 rfl), fun j b hj => ht.cell (h.dat j b hj) (fun hq => (hS _ hq).2.2.1 rfl), fun j b hj => ht.blk (h.words j b hj) (fun hq => (hS _ hq).2.2.2.1 (List.mem_of_getElem? hj)), ?_, h.gl, h.trl, h.stl, Nat.lt_of_lt_of_le h.dbl ht.size⟩
  have h1 := Kd.R_reok rfl h.tr (ok := fun k => tv.ownBlock = some k) (fun _ h => h)
  have h2 := Kd.R_step h1 (fun k hk hlt => ht.keep k hlt (fun hq => (hS k hq).2.2.2.2 hk.symm))
  exact Kd.R_reok rfl h2 (fun k hk => h.tr.1 k hk)
theorem QInv.keep_ {V : Qv} {W W' : World} {G : Gl} {c en va : Int} {tv : Value} (h : QInv V W G c en va tv) (hb : Below W.heap.size W W') : QInv V W' G c en va tv := h.keep (Tr.of_below hb nil_) (fun _ hq => hq.elim)
theorem QInv.mach {V : Qv} (hV : QvOk V) {W W' : World} {G G' : Gl} {c en va c' en' va' : Int} {tv : Value} (h : QInv V W G c en va tv) (ht : Turned W W' V.mb (rC V.E ⟨c', en', va', tv, G'.st, G'.rd⟩) 61) (hw : G'.words = G.words) (htr : G'.tr = G.tr) (hl : G.tr.length ≤ G'.st) (hs : G'.st ≤ 100000) : QInv V W' G' c' en' va' tv := by
  refine ⟨h.below.trans (ht.2.to_below h.below.size (fun k hk => by rw [show k = V.mb from hk]; exact hV.gem)), ht.1, fun j b hj => ?_, fun j b hj => ?_, ?_, ⟨by rw [hw]; exact h.gl.words, by rw [hw]; exact h.gl.w32⟩, by rw [htr]; exact hl, hs, Nat.lt_of_lt_of_le h.dbl ht.2.size⟩
  · rw [hw]; exact ht.2.cell (h.dat j b hj) (fun hq => hV.mdb (show V.db = V.mb from hq).symm)
  · rw [hw]; exact ht.2.blk (h.words j b hj) (fun hq => hV.mbs ((show b = V.mb from hq) ▸ List.mem_of_getElem? hj))
  · rw [htr]
    exact Kd.R_step h.tr (fun k hk hlt => ht.2.keep k hlt (fun hq => hk.1 hq))
def Reach (V : Qv) (s t : SR) : Prop := ∃ k, runS V.F V.GS V.inp V.fuel k s = t
theorem qrunS_fin (F : List S47) (GS : List S57) (inp : List Int) (fuel e v : Int) (G : Gl) : ∀ k, runS F GS inp fuel k (.fin e v G) = .fin e v G
  | 0 => rfl
  | _ + 1 => rfl
theorem qrunS_0 (F : List S47) (GS : List S57) (inp : List Int) (fuel : Int) (s : SR) : runS F GS inp fuel 0 s = s := by cases s <;> rfl
theorem qrunS_add (F : List S47) (GS : List S57) (inp : List Int) (fuel : Int) : ∀ (a b : Nat) (s : SR), runS F GS inp fuel (a + b) s = runS F GS inp fuel b (runS F GS inp fuel a s)
  | 0, b, s => by rw [Nat.zero_add, qrunS_0]
  | a + 1, b, .go st G => by rw [Nat.succ_add]; exact qrunS_add F GS inp fuel a b _
  | a + 1, b, .fin e v G => by rw [qrunS_fin, qrunS_fin, qrunS_fin]
theorem Reach.refl (V : Qv) (s : SR) : Reach V s s := ⟨0, qrunS_0 _ _ _ _ s⟩
theorem Reach.trans {V : Qv} {s t u : SR} (h : Reach V s t) (h2 : Reach V t u) : Reach V s u := by
  obtain ⟨a, rfl⟩ := h
  obtain ⟨b, rfl⟩ := h2
  exact ⟨a + b, qrunS_add _ _ _ _ a b s⟩
theorem Reach.one (V : Qv) (fr : Fr) (q : List Fr) (G : Gl) : Reach V (.go (fr :: q) G) (stepC V.F V.GS V.inp V.fuel fr q G) := ⟨1, by show runS V.F V.GS V.inp V.fuel 0 (stepS V.F V.GS V.inp V.fuel (fr :: q) G) = _; rw [qrunS_0]; rfl⟩
theorem Reach.end_ {V : Qv} {s : SR} {n : Nat} {e v e' v' : Int} {G G' : Gl} (h : Reach V s (.fin e v G)) (h2 : runS V.F V.GS V.inp V.fuel n s = .fin e' v' G') : e' = e ∧ v' = v ∧ G' = G := by
  obtain ⟨k, hk⟩ := h
  have h3 : runS V.F V.GS V.inp V.fuel (k + n) s = .fin e v G := by rw [qrunS_add, hk, qrunS_fin]
  have h4 : runS V.F V.GS V.inp V.fuel (n + k) s = .fin e' v' G' := by rw [qrunS_add, h2, qrunS_fin]
  rw [Nat.add_comm, h4] at h3
  injection h3 with a b c
  exact ⟨a, b, c⟩
def QOut (V : Qv) (W : World) (rb : Nat) (G : Gl) (c va : Int) (tv : Value) (ir : IR) (w' : World) : Prop := ∃ tv', Tr (fun q => q = rb ∨ V.own tv q) W w' ∧ TvOk W tv tv' ∧ match ir with
  | .go r G2 => QInv V w' G2 c 0 va tv' ∧ w'.heap[rb]? = some (.cells (row32 r) 21 (0, 0))
  | .stop e => QInv V w' G c e va tv'
  | .call _ => False
theorem QInv.regs {V : Qv} {W w' : World} {G : Gl} {c va : Int} {tv : Value} {rb : Nat} {r : List Int} (h : QInv V W G c 0 va tv) (ho : Off V W tv rb) (ht : Turned W w' rb (row32 r) 21) : QOut V W rb G c va tv (.go r G) w' :=
  ⟨tv, ht.2.mono (fun q hq => .inl hq), .inl rfl, h.keep ht.2 (fun q hq => by rw [show q = rb from hq]; exact ⟨ho.ge, ho.mb, ho.db, ho.bs, ho.tv⟩), ht.1⟩
end Go.Proofs.Ytabkinlpbefjgaa.L

namespace Go.Proofs.Ytabkinlpbefjgaa.L
open Go.RowKit Go.Proofs.Ytabkinlpbefjgaa.X Go.Proofs.YtabkinlpbefjgaaW.PrintWords Go.Proofs.YtabkinlpbefjgaaW.PrintLast Go.Proofs.YtabkinlpbefjgaaW.PrintMore
attribute [local go_sem] max2_int min2_int max_two min_two max_three min_three max_four min_four   -- for this text's walks alone
set_option linter.unusedVariables false
set_option linter.unusedSimpArgs false
open Go.Proofs.Ytabkinlpbefjgaa.Pure
theorem getD_set_ {l : List (List Int)} {i j : Nat} {v : List Int} (hi : i < l.length) : (l.set i v).getD j [] = if i = j then v else l.getD j [] := by
  by_cases hj : j < l.length
  · exact set_getD hi hj
  · rw [List.getD_eq_getElem?_getD, List.getElem?_eq_none (by rw [List.length_set]; omega), if_neg (by omega), List.getD_eq_getElem?_getD, List.getElem?_eq_none (by omega)]
theorem nodup_ix {l : List Nat} (hn : l.Nodup) {i j b : Nat} (hi : l[i]? = some b) (hj : l[j]? = some b) : i = j := by
  obtain ⟨h1, e1⟩ := List.getElem?_eq_some_iff.1 hi
  obtain ⟨h2, e2⟩ := List.getElem?_eq_some_iff.1 hj
  unfold List.Nodup at hn
  rw [List.pairwise_iff_getElem] at hn
  rcases Nat.lt_trichotomy i j with h | h | h
  · exact absurd (e1.trans e2.symm) (hn i j h1 h2 h)
  · exact h
  · exact absurd (e2.trans e1.symm) (hn j i h2 h1 h)
theorem QInv.word {V : Qv} (hV : QvOk V) {W w' : World} {G : Gl} {c va : Int} {tv : Value} (h : QInv V W G c 0 va tv) {gi b : Nat} (hb : V.bs[gi]? = some b) {ws : List Int} (hl : ws.length = (G.words.getD gi []).length) (hgi : gi < G.words.length) (ht : Turned W w' b (row32 ws) 21) (hgl : OkGl V.GS { G with words := G.words.set gi ws }) : QInv V w' { G with words := G.words.set gi ws } c 0 va tv := by
  have hbm := List.mem_of_getElem? hb
  have hlen : ∀ j, ((G.words.set gi ws).getD j []).length = (G.words.getD j []).length := fun j => by
    rw [getD_set_ hgi]
    by_cases e : gi = j
    · rw [if_pos e, hl, e]
    · rw [if_neg e]
  refine ⟨h.below.trans (ht.2.to_below h.below.size (fun k hk => by rw [show k = b from hk]; exact hV.geb b hbm)), ht.2.blk h.m (fun hq => hV.mbs (by rw [show V.mb = b from hq]; exact hbm)), fun j b' hj => ?_, fun j b' hj => ?_, ?_, hgl, h.trl, h.stl, Nat.lt_of_lt_of_le h.dbl ht.2.size⟩
  · show w'.cell? _ = some (.slice _ ((G.words.set gi ws).getD j []).length ((G.words.set gi ws).getD j []).length)
    rw [hlen]
    exact ht.2.cell (h.dat j b' hj) (fun hq => hV.dbs (by rw [show V.db = b from hq]; exact hbm))
  · show w'.heap[b']? = some (.cells (row32 ((G.words.set gi ws).getD j [])) 21 (0, 0))
    rw [getD_set_ hgi]
    by_cases e : gi = j
    · subst e
      rw [hb] at hj
      injection hj with hj
      subst hj
      rw [if_pos rfl]
      exact ht.1
    · rw [if_neg e]
      refine ht.2.blk (h.words j b' hj) (fun hq => e ?_)
      have hq2 : b' = b := hq
      subst hq2
      exact nodup_ix hV.bsn hb hj
  · exact Kd.R_step h.tr (fun k hk hlt => ht.2.keep k hlt (fun hq => hk.2.2 (by rw [show k = b from hq]; exact hbm)))
theorem Qv.E_eq {V : Qv} (hV : QvOk V) (h : 0 < V.GS.length) : V.E = rE V.AG V.cG V.GS V.AF V.cF V.F V.db V.cD (.slice V.AI V.inp.length V.cI) V.fuel := by
  unfold Qv.E
  rw [hV.dv h]
theorem words_len {V : Qv} {G : Gl} (hG : OkGl V.GS G) : G.words.length = V.GS.length := by
  have := congrArg List.length hG.words
  rwa [List.length_map, List.length_map] at this
def RC (V : Qv) (rb : Nat) (regs : List Int) (x : S44) (av : Value) (W : World) (Q : Ending → World → Prop) : Prop :=
  Calls Try.prog 29 #[.pointer (some ⟨V.mb, 0, none⟩), .slice (some ⟨rb, 0, none⟩) regs.length regs.length, .agg #[.int .i64 x.f0, .int .i64 x.f1, .int .i64 x.f2, .int .i64 x.f3, .int .i64 x.f4, .int .i32 x.f5, .string x.f6, av]] W Q
section
variable {V : Qv} (hV : QvOk V) {W : World} {G : Gl} {c va : Int} {tv : Value} (hQ : QInv V W G c 0 va tv) {rb : Nat} {regs : List Int} (hr : W.heap[rb]? = some (.cells (row32 regs) 21 (0, 0))) (ho : Off V W tv rb) (hw : ∀ v ∈ regs, W32 v) (op D A B num : Int) (nm : ByteArray) (args : List Int) (av : Value) (hav : av.oneCell' = true)
include hV hQ hr ho hw hav
set_option maxHeartbeats 2000000 in
theorem rins_word (k : Int) (hk : k = 5 ∨ k = 6) (hX : OkIns V.F V.GS (regs.length : Int) ⟨k, op, D, A, B, num, nm, args⟩) :
    RC V rb regs ⟨k, op, D, A, B, num, nm, args⟩ av W fun e w' => e = .returned (.tuple #[]) ∧ QOut V W rb G c va tv (insF V.GS V.inp ⟨k, op, D, A, B, num, nm, args⟩ regs G) w' := by
  have hm := hX.mem (by simpa using hk)
  simp only at hm
  have hgi := hm.2
  have hGS : 0 < V.GS.length := by omega
  have hE := Qv.E_eq hV hGS
  have hwl := words_len hQ.gl
  have hgb : glAt V.GS nm < V.bs.length := by rw [hV.bsl]; exact hgi
  obtain ⟨b, hb⟩ : ∃ b, V.bs[glAt V.GS nm]? = some b := ⟨_, List.getElem?_eq_getElem hgb⟩
  have hd := hQ.dat _ b hb
  have hws := hQ.words _ b hb
  have hln : (G.words.getD (glAt V.GS nm) []).length = (max (V.GS.getD (glAt V.GS nm) z57).f1 1).toNat := wlen hQ.gl hgi
  have hsz := hV.mid.size (V.GS.getD (glAt V.GS nm) z57) (by rw [List.getD_eq_getElem?_getD, List.getElem?_eq_getElem hgi]; exact List.getElem_mem hgi)
  have hw0 : 0 < (G.words.getD (glAt V.GS nm) []).length ∧ (G.words.getD (glAt V.GS nm) []).length ≤ 1000000 := by omega
  have hm_ := hQ.m
  rw [hE] at hm_
  have hfew := hV.mid.few.2
  have cG := Kd.C_below hV.hG hQ.below
  have cF := Kd.C_below hV.hF hQ.below
  have hstop : ∀ w', Turned W w' V.mb (rC (rE V.AG V.cG V.GS V.AF V.cF V.F V.db V.cD (.slice V.AI V.inp.length V.cI) V.fuel) ⟨c, 3, va, tv, G.st, G.rd⟩) 61 → QOut V W rb G c va tv (.stop 3) w' := fun w' ht => by
    rw [← hE] at ht
    exact ⟨tv, ht.2.mono (fun q hq => .inr (.inl hq)), .inl rfl, hQ.mach hV ht rfl rfl hQ.trl hQ.stl⟩
  have hput : ∀ (i v : Int), OkGl V.GS { G with words := G.words.set (glAt V.GS nm) (put32 (G.words.getD (glAt V.GS nm) []) i v) } → ∀ w', Turned W w' b (row32 (put32 (G.words.getD (glAt V.GS nm) []) i v)) 21 → QOut V W rb G c va tv (.go regs { G with words := G.words.set (glAt V.GS nm) (put32 (G.words.getD (glAt V.GS nm) []) i v) }) w' := fun i v hgl w' ht =>
    ⟨tv, ht.2.mono (fun q hq => .inr (.inr (.inl (by rw [show q = b from hq]; exact List.mem_of_getElem? hb)))), .inl rfl, hQ.word hV hb (put32_length _ _ _) (by omega) ht hgl, ht.2.blk hr (fun hq => ho.bs (by rw [show rb = b from hq]; exact List.mem_of_getElem? hb))⟩
  by_cases h3 : A < 0
  · rcases hk with rfl | rfl
    · have hD := hX.dst (by simp) (by simp) (by simp)
      simp only at hD
      have e1 : insF V.GS V.inp ⟨5, op, D, A, B, num, nm, args⟩ regs G = .go (put32 regs D (get32 (G.words.getD (glAt V.GS nm) []) 0)) G := by
        unfold insF wordIx; simp only [if_pos h3]; rfl
      rw [e1]
      refine (rins5_neg V.AG V.cG V.GS V.AF V.cF V.F V.db V.cD _ V.fuel c va tv G.st G.rd W V.mb hm_ cG hV.hcG cF hV.hcF hfew rb regs regs.length rfl hr op D A B num nm av hav hgi b _ hd hws hV.dc hw0.2 h3 hw0.1 hD.1 hD.2).mono ?_
      rintro e w' ⟨he, ht⟩
      exact ⟨he, hQ.regs ho ht⟩
    · have hB := hX.b (by simp)
      simp only at hB
      have e1 : insF V.GS V.inp ⟨6, op, D, A, B, num, nm, args⟩ regs G = .go regs { G with words := G.words.set (glAt V.GS nm) (put32 (G.words.getD (glAt V.GS nm) []) 0 (get32 regs B)) } := by
        unfold insF wordIx; simp only [if_pos h3]; rfl
      have hgl := (insF_ok hX hw hQ.gl hV.w32 e1).2.2
      rw [e1]
      refine (rins6_neg V.AG V.cG V.GS V.AF V.cF V.F V.db V.cD _ V.fuel c va tv G.st G.rd W V.mb hm_ cG hV.hcG cF hV.hcF hfew rb regs regs.length rfl hr op D A B num nm av hav hgi b _ hd hws hV.dc hw0.2 h3 hw0.1 hB.1 hB.2).mono ?_
      rintro e w' ⟨he, ht⟩
      exact ⟨he, hput 0 _ hgl w' ht⟩
  · have hA : 0 ≤ A ∧ A < (regs.length : Int) := by omega
    have hW := W32.get hw A
    by_cases hin : 0 ≤ get32 regs A ∧ get32 regs A < ((G.words.getD (glAt V.GS nm) []).length : Int)
    · rcases hk with rfl | rfl
      · have hD := hX.dst (by simp) (by simp) (by simp)
        simp only at hD
        have e1 : insF V.GS V.inp ⟨5, op, D, A, B, num, nm, args⟩ regs G = .go (put32 regs D (get32 (G.words.getD (glAt V.GS nm) []) (get32 regs A))) G := by
          unfold insF wordIx; simp only [if_neg h3, if_pos hin]; rfl
        rw [e1]
        refine (rins5_in V.AG V.cG V.GS V.AF V.cF V.F V.db V.cD _ V.fuel c va tv G.st G.rd W V.mb hm_ cG hV.hcG cF hV.hcF hfew rb regs regs.length rfl hr op D A B num nm av hav hgi b _ hd hws hV.dc hw0.2 hA.1 hA.2 hin.1 hin.2 hD.1 hD.2).mono ?_
        rintro e w' ⟨he, ht⟩
        exact ⟨he, hQ.regs ho ht⟩
      · have hB := hX.b (by simp)
        simp only at hB
        have e1 : insF V.GS V.inp ⟨6, op, D, A, B, num, nm, args⟩ regs G = .go regs { G with words := G.words.set (glAt V.GS nm) (put32 (G.words.getD (glAt V.GS nm) []) (get32 regs A) (get32 regs B)) } := by
          unfold insF wordIx; simp only [if_neg h3, if_pos hin]; rfl
        have hgl := (insF_ok hX hw hQ.gl hV.w32 e1).2.2
        rw [e1]
        refine (rins6_in V.AG V.cG V.GS V.AF V.cF V.F V.db V.cD _ V.fuel c va tv G.st G.rd W V.mb hm_ cG hV.hcG cF hV.hcF hfew rb regs regs.length rfl hr op D A B num nm av hav hgi b _ hd hws hV.dc hw0.2 hA.1 hA.2 hin.1 hin.2 hB.1 hB.2).mono ?_
        rintro e w' ⟨he, ht⟩
        exact ⟨he, hput _ _ hgl w' ht⟩
    · have e5 : insF V.GS V.inp ⟨5, op, D, A, B, num, nm, args⟩ regs G = .stop 3 := by unfold insF wordIx; simp only [if_neg h3, if_neg hin]; rfl
      have e6 : insF V.GS V.inp ⟨6, op, D, A, B, num, nm, args⟩ regs G = .stop 3 := by unfold insF wordIx; simp only [if_neg h3, if_neg hin]; rfl
      by_cases hlo : get32 regs A < 0
      · rcases hk with rfl | rfl
        · rw [e5]
          refine (rins5_low V.AG V.cG V.GS V.AF V.cF V.F V.db V.cD _ V.fuel c va tv G.st G.rd W V.mb hm_ cG hV.hcG cF hV.hcF hfew rb regs regs.length rfl hr op D A B num nm av hav hgi b _ hd hws hV.dc hw0.2 hA.1 hA.2 hlo hW.1).mono ?_
          rintro e w' ⟨he, ht⟩
          exact ⟨he, hstop w' ht⟩
        · rw [e6]
          refine (rins6_low V.AG V.cG V.GS V.AF V.cF V.F V.db V.cD _ V.fuel c va tv G.st G.rd W V.mb hm_ cG hV.hcG cF hV.hcF hfew rb regs regs.length rfl hr op D A B num nm av hav hgi b _ hd hws hV.dc hw0.2 hA.1 hA.2 hlo hW.1).mono ?_
          rintro e w' ⟨he, ht⟩
          exact ⟨he, hstop w' ht⟩
      · have hhi : ((G.words.getD (glAt V.GS nm) []).length : Int) ≤ get32 regs A := by omega
        rcases hk with rfl | rfl
        · rw [e5]
          refine (rins5_high V.AG V.cG V.GS V.AF V.cF V.F V.db V.cD _ V.fuel c va tv G.st G.rd W V.mb hm_ cG hV.hcG cF hV.hcF hfew rb regs regs.length rfl hr op D A B num nm av hav hgi b _ hd hws hV.dc hw0.2 hA.1 hA.2 hhi hW.2).mono ?_
          rintro e w' ⟨he, ht⟩
          exact ⟨he, hstop w' ht⟩
        · rw [e6]
          refine (rins6_high V.AG V.cG V.GS V.AF V.cF V.F V.db V.cD _ V.fuel c va tv G.st G.rd W V.mb hm_ cG hV.hcG cF hV.hcF hfew rb regs regs.length rfl hr op D A B num nm av hav hgi b _ hd hws hV.dc hw0.2 hA.1 hA.2 hhi hW.2).mono ?_
          rintro e w' ⟨he, ht⟩
          exact ⟨he, hstop w' ht⟩
end
end Go.Proofs.Ytabkinlpbefjgaa.L

namespace Go.Proofs.Ytabkinlpbefjgaa.L
open Go.RowKit Go.Proofs.Ytabkinlpbefjgaa.X Go.Proofs.YtabkinlpbefjgaaW.PrintWords Go.Proofs.YtabkinlpbefjgaaW.PrintLast Go.Proofs.YtabkinlpbefjgaaW.PrintMore
attribute [local go_sem] max2_int min2_int max_two min_two max_three min_three max_four min_four   -- for this text's walks alone
set_option linter.unusedVariables false
set_option linter.unusedSimpArgs false
open Go.Proofs.Ytabkinlpbefjgaa.Pure
section
variable {V : Qv} (hV : QvOk V) {W : World} {G : Gl} {c va : Int} {tv : Value} (hQ : QInv V W G c 0 va tv) {rb : Nat} {regs : List Int} (hr : W.heap[rb]? = some (.cells (row32 regs) 21 (0, 0))) (ho : Off V W tv rb) (hw : ∀ v ∈ regs, W32 v)
include hV hQ hr ho hw
set_option maxHeartbeats 2000000 in
theorem rins_calls (x : S44) (av : Value) (hav : av.oneCell' = true) (hX : OkIns V.F V.GS (regs.length : Int) x) (h7 : x.f0 ≠ 7) (htl : G.tr.length < G.st) :
    RC V rb regs x av W fun e w' => e = .returned (.tuple #[]) ∧ QOut V W rb G c va tv (insF V.GS V.inp x regs G) w' := by
  obtain ⟨k, op, D, A, B, num, nm, args⟩ := x
  have hk := hX.kind
  simp only at hk h7
  by_cases h56 : k = 5 ∨ k = 6
  · exact rins_word hV hQ hr ho hw op D A B num nm args av hav k h56 hX
  unfold RC
  by_cases h1 : k = 1
  · subst h1
    have hd := hX.dst (by simp) (by simp) (by simp)
    simp only at hd
    refine (rins_num rb regs _ rfl W V.mb hr op D A B num nm av hav hd.1 hd.2).mono ?_
    rintro e w' ⟨he, ht⟩
    exact ⟨he, hQ.regs ho ht⟩
  by_cases h2 : k = 2
  · subst h2
    have hd := hX.dst (by simp) (by simp) (by simp)
    have ha := hX.a (by simp)
    simp only at hd ha
    refine (rins_copy rb regs _ rfl W V.mb hr op D A B num nm av hav hd.1 hd.2 ha.1 ha.2).mono ?_
    rintro e w' ⟨he, ht⟩
    exact ⟨he, hQ.regs ho ht⟩
  by_cases h3 : k = 3
  · subst h3
    have hd := hX.dst (by simp) (by simp) (by simp)
    have ha := hX.a (by simp)
    simp only at hd ha
    refine (rins_un rb regs _ rfl W V.mb hr op D A B num nm av hav hd.1 hd.2 ha.1 ha.2 (W32.get hw _)).mono ?_
    rintro e w' ⟨he, ht⟩
    exact ⟨he, hQ.regs ho ht⟩
  by_cases h4 : k = 4
  · subst h4
    have hd := hX.dst (by simp) (by simp) (by simp)
    have ha := hX.a (by simp)
    have hb := hX.b (by simp)
    simp only at hd ha hb
    by_cases hok : (binV op (get32 regs A) (get32 regs B)).2 = true
    · have e1 : insF V.GS V.inp ⟨4, op, D, A, B, num, nm, args⟩ regs G = .go (put32 regs D (binV op (get32 regs A) (get32 regs B)).1) G := by
        unfold insF; simp only [hok]; rfl
      rw [e1]
      refine (rins_bin rb regs _ rfl W V.mb hr op D A B num nm av hav hd.1 hd.2 ha.1 ha.2 hb.1 hb.2 (W32.get hw _) (W32.get hw _) hok).mono ?_
      rintro e w' ⟨he, ht⟩
      exact ⟨he, hQ.regs ho ht⟩
    · have e1 : insF V.GS V.inp ⟨4, op, D, A, B, num, nm, args⟩ regs G = .stop 2 := by
        unfold insF; simp only [hok]; rfl
      rw [e1]
      refine (rins_div rb regs _ rfl W V.mb V.E c va tv G.st G.rd hQ.m hr op D A B num nm av hav hd.1 hd.2 ha.1 ha.2 hb.1 hb.2 (W32.get hw _) (W32.get hw _) (by simpa using hok)).mono ?_
      rintro e w' ⟨he, ht⟩
      exact ⟨he, tv, ht.2.mono (fun q hq => .inr (.inl hq)), .inl rfl, hQ.mach hV ht rfl rfl hQ.trl hQ.stl⟩
  by_cases h8 : k = 8
  · subst h8
    have hd := hX.dst (by simp) (by simp) (by simp)
    simp only at hd
    have hI := Kd.C_below hV.hI hQ.below
    by_cases hrd : G.rd < V.inp.length
    · have e1 : insF V.GS V.inp ⟨8, op, D, A, B, num, nm, args⟩ regs G = .go (put32 regs D (V.inp.getD G.rd 0)) { G with rd := G.rd + 1 } := by
        unfold insF; simp only [if_pos hrd]; rfl
      rw [e1]
      have hrb : ∀ ad, V.AI = some ad → ad.block ≠ rb := fun ad had e => by
        obtain ⟨a2, h2, hc⟩ := Kd.at_int hV.hI (G.rd : Int) (by omega) (by omega)
        rw [had] at h2
        injection h2 with h2
        subst h2
        have h3 := World.block_lt_of_cell? _ _ hc
        rw [add_block, e] at h3
        exact absurd ho.ge (Nat.not_le_of_lt h3)
      refine (rins_read_yes rb regs _ rfl W V.mb V.E c va tv G.st G.rd hQ.m V.AI V.cI V.inp rfl hI hV.len ho.mb.symm hr op D A B num nm av hav hd.1 hd.2 hrd hrb).mono ?_
      rintro e w' ⟨he, hm, hrow, ht⟩
      refine ⟨he, tv, ht.mono (fun q hq => hq.elim (fun h => .inr (.inl h)) .inl), .inl rfl, ?_, hrow⟩
      refine ⟨hQ.below.trans (ht.to_below hQ.below.size (fun q hq => hq.elim (fun h => by rw [h]; exact hV.gem) (fun h => by rw [h]; exact ho.ge))), hm, fun j b hj => ht.cell (hQ.dat j b hj) (fun hq => hq.elim (fun h => hV.mdb (show V.db = V.mb from h).symm) (fun h => ho.db (show V.db = rb from h).symm)), fun j b hj => ht.blk (hQ.words j b hj) (fun hq => hq.elim (fun h => hV.mbs (h ▸ List.mem_of_getElem? hj)) (fun h => ho.bs (h ▸ List.mem_of_getElem? hj))), ?_, ⟨hQ.gl.words, hQ.gl.w32⟩, hQ.trl, hQ.stl, Nat.lt_of_lt_of_le hQ.dbl ht.size⟩
      have t1 := Kd.R_reok rfl hQ.tr (ok := fun k => tv.ownBlock = some k) (fun _ h => h)
      have t2 := Kd.R_step t1 (fun k hk hlt => ht.keep k hlt (fun hq => hq.elim (fun h => (hQ.tr.1 k hk).1 h) (fun h => ho.tv (h ▸ hk.symm))))
      exact Kd.R_reok rfl t2 (fun k hk => hQ.tr.1 k hk)
    · have e1 : insF V.GS V.inp ⟨8, op, D, A, B, num, nm, args⟩ regs G = .go (put32 regs D 0) G := by
        unfold insF; simp only [if_neg hrd]; rfl
      rw [e1]
      refine (rins_read_no rb regs _ rfl W V.mb V.E c va tv G.st G.rd hQ.m V.AI V.cI V.inp rfl hI hV.len ho.mb.symm hr op D A B num nm av hav hd.1 hd.2 hrd).mono ?_
      rintro e w' ⟨he, ht⟩
      exact ⟨he, hQ.regs ho ht⟩
  · obtain rfl : k = 9 := by omega
    have ha := hX.a (by simp)
    simp only at ha
    have e1 : insF V.GS V.inp ⟨9, op, D, A, B, num, nm, args⟩ regs G = .go regs { G with tr := G.tr ++ [get32 regs A] } := rfl
    rw [e1]
    have hsl := hQ.stl
    have hlt := blk_lt hQ.m
    refine (rins_print rb regs _ rfl W V.mb V.E c va tv G.st G.rd hQ.m hr op D A B num nm av hav ha.1 ha.2 V.base (fun k => k ≠ V.mb ∧ k ∉ V.bs ∧ tv.ownBlock = some k ∨ W.heap.size ≤ k) G.tr (Kd.R_reok rfl hQ.tr (fun k hk => .inl ⟨(hQ.tr.1 k hk).1, (hQ.tr.1 k hk).2.2, hk⟩)) hQ.below.size hV.gem (fun k hk => .inr hk) (fun k hk => hk.elim (fun h => h.1) (fun h => by omega)) (by omega)).mono ?_
    rintro e w' ⟨he, tv', hm, hR, hat, ht⟩
    have hT : TvOk W tv tv' := hat
    have hown : ∀ q, (q = V.mb ∨ some q = tv.ownBlock) → V.own tv q := fun q hq => hq.elim .inl (fun h => .inr (.inr h))
    have hnb : ∀ q, q ∈ V.bs → ¬ (q = V.mb ∨ some q = tv.ownBlock) := fun q hq h => h.elim (fun h => hV.mbs (h ▸ hq)) (fun h => (hQ.tr.1 q h.symm).2.2 hq)
    refine ⟨he, tv', ht.mono (fun q hq => .inr (hown q hq)), hT, ⟨hQ.below.trans (ht.to_below hQ.below.size (fun q hq => hq.elim (fun h => by rw [h]; exact hV.gem) (fun h => (own_ge1 hQ.tr q h.symm).1))), hm, fun j b hj => ht.cell (hQ.dat j b hj) (fun hq => hq.elim (fun h => hV.mdb (show V.db = V.mb from h).symm) (fun h => (hQ.tr.1 V.db h.symm).2.1 rfl)), fun j b hj => ht.blk (hQ.words j b hj) (hnb b (List.mem_of_getElem? hj)), ?_, ⟨hQ.gl.words, hQ.gl.w32⟩, ?_, hsl, Nat.lt_of_lt_of_le hQ.dbl ht.size⟩, ?_⟩
    · refine Kd.R_reok rfl hR (fun k hk => ?_)
      rcases hat with h | ⟨b, hb, hle⟩
      · exact hQ.tr.1 k (h ▸ hk)
      · rw [hb] at hk
        injection hk with hk
        subst hk
        have hdb := hQ.dbl
        refine ⟨by omega, by omega, fun hm2 => ?_⟩
        obtain ⟨j, hj⟩ := List.getElem?_of_mem hm2
        have := blk_lt (hQ.words j b hj)
        omega
    · show (G.tr ++ [get32 regs A]).length ≤ G.st
      rw [List.length_append]
      exact htl
    · exact ht.blk hr (fun hq => hq.elim ho.mb ho.tv)
end
end Go.Proofs.Ytabkinlpbefjgaa.L

