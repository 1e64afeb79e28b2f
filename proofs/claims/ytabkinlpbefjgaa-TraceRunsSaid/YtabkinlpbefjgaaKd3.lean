/- Texts of this seat that a claim bears, put together by this session's own program shake.py: Open. -/
import Derived.Test.YtabkinlpbefjgaaKd1
import Derived.Deep.Slices
import Derived.ProofKit
namespace Go.Proofs.Ytabkinlpbefjgaa.Pure
open Go.RowKit Go.Deep Go.WideShapes Go.ChangeShapes Go.Proofs.YtabkinlpbefjgaaW.PrintWords Go.Proofs.YtabkinlpbefjgaaW.PrintLast
def Opens {α : Type} (P : Program) (t : TypeId) (d : Kd α) (ok : α → Prop) : Prop :=
  d.sz = P.cellsOf t ∧ ∀ {H : Type} {enc : TypeId × Value → H} {w : World} {base : Nat} {spare : Nat → Bool} {held : Bool} {fuel : Nat} {cs : List Value} {x : DataW H × List MemPlace},
    DataW.trod enc P w base spare held fuel t cs = some x → ∃ v, d.K w v cs ∧ ok v
theorem Opens.int {P : Program} {t : TypeId} (k : IntKind) (ht : P.underlying t = some (.int k)) (hs : P.cellsOf t = 1) : Opens P t (Kd.int k) (fun n => (Lit.int k n).wf = true) :=
  ⟨hs.symm, fun h => by obtain ⟨n, hc, _, hw⟩ := DataW.trod_int ht h; exact ⟨n, hc, hw⟩⟩
theorem Opens.bool {P : Program} {t : TypeId} (ht : P.underlying t = some .bool) (hs : P.cellsOf t = 1) : Opens P t Kd.bool (fun _ => True) :=
  ⟨hs.symm, fun h => by obtain ⟨n, hc, _⟩ := DataW.trod_bool ht h; exact ⟨n, hc, trivial⟩⟩
theorem Opens.string {P : Program} {t : TypeId} (ht : P.underlying t = some .string) (hs : P.cellsOf t = 1) : Opens P t Kd.string (fun s => s.size ≤ maxLen) :=
  ⟨hs.symm, fun h => by obtain ⟨n, hc, _, hw⟩ := DataW.trod_string ht h; exact ⟨n, hc, hw⟩⟩
theorem list_of {α : Type} {R : Nat → α → Prop} : ∀ n : Nat, (∀ i, i < n → ∃ v, R i v) → ∃ l : List α, l.length = n ∧ ∀ i v, l[i]? = some v → R i v := by
  intro n
  induction n with
  | zero => exact fun _ => ⟨[], rfl, fun i v h => by simp at h⟩
  | succ n ih =>
    intro h
    obtain ⟨l, hl, hr⟩ := ih (fun i hi => h i (by omega))
    obtain ⟨v, hv⟩ := h n (by omega)
    refine ⟨l ++ [v], by simp [hl], fun i u hu => ?_⟩
    rcases Nat.lt_or_ge i n with c | c
    · rw [List.getElem?_append_left (by omega)] at hu; exact hr i u hu
    · rw [List.getElem?_append_right (by omega)] at hu
      have hi : i - l.length = 0 := by
        have := (List.getElem?_eq_some_iff.1 hu).1
        simp at this; omega
      rw [hi] at hu
      simp at hu
      obtain rfl : i = n := by omega
      exact hu ▸ hv
theorem Opens.row {α : Type} {P : Program} {t e : TypeId} {d : Kd α} {ok : α → Prop} (ht : P.underlying t = some (.slice e)) (he : Opens P e d ok)
    {H : Type} {enc : TypeId × Value → H} {w : World} {base : Nat} {spare : Nat → Bool} {held : Bool} {fuel : Nat} {cs : List Value} {x : DataW H × List MemPlace}
    (h : DataW.trod enc P w base spare held fuel t cs = some x) : ∃ (l : List α) (A : Option Addr) (c : Nat), cs = [.slice A l.length c] ∧ l.length ≤ c ∧ c ≤ maxLen ∧ Kd.C d w A l.length l ∧ ∀ y ∈ l, ok y := by
  rcases open_slice ht h with ⟨hcs, _⟩ | ⟨a, len, cap, m, n, D, Pl, hcs, hb, hl, hm, hmm, hx, hi⟩
  · exact ⟨[], none, 0, hcs, Nat.le_refl _, Nat.zero_le _, ⟨rfl, Nat.zero_le _, fun hn => absurd hn (Nat.lt_irrefl 0)⟩, fun y hy => by cases hy⟩
  · have hlm : len ≤ m := by rw [hmm]; split <;> omega
    obtain ⟨l, hll, hr⟩ := list_of (R := fun i v => ok v ∧ ∃ c, c.length = d.sz ∧ d.K w v c ∧ ∀ j u, c[j]? = some u → w.cell? (a.add (i * d.sz + j)) = some u) len (fun i hi' => by
      obtain ⟨cs', hcells, htr⟩ := hi i (by omega)
      obtain ⟨v, hK, hok⟩ := he.2 htr
      have hlen := d.K_len hK
      obtain ⟨_, hcl, hat⟩ := World.cells?_some hcells
      refine ⟨v, hok, cs', hlen, hK, fun j u hj => ?_⟩
      have hjl : j < P.cellsOf e := by
        have := (List.getElem?_eq_some_iff.1 hj).1
        rw [hlen, he.1] at this
        exact this
      have h2 := hat j hjl
      rw [he.1, ← Go.Deep.add_add, h2, hj])
    refine ⟨l, some a, cap, by rw [hcs, hll], by omega, hm, ⟨rfl, by simp only [maxLen] at hm; omega, fun _ => ⟨a, rfl, fun j p hp => ?_⟩⟩, fun y hy => ?_⟩
    · obtain ⟨_, c, h1, h2, h3⟩ := hr j p hp
      exact ⟨c, h1, h2, h3⟩
    · obtain ⟨i, hi', rfl⟩ := List.getElem_of_mem hy
      exact (hr i _ (List.getElem?_eq_getElem hi')).1
theorem Opens.slice {α : Type} {P : Program} {t e : TypeId} {d : Kd α} {ok : α → Prop} (ht : P.underlying t = some (.slice e)) (hs : P.cellsOf t = 1) (he : Opens P e d ok) : Opens P t (Kd.slice e d) (fun l => l.length ≤ maxLen ∧ ∀ y ∈ l, ok y) :=
  ⟨hs.symm, fun h => by
    obtain ⟨l, A, c, hcs, hl, hm, hC, hok⟩ := Opens.row ht he h
    exact ⟨l, ⟨A, c, hcs, hl, hC⟩, by omega, hok⟩⟩
structure OpensSeq {α : Type} (P : Program) (fs : List Field) (off : Nat) (d : Kd α) (ok : α → Prop) : Prop where
  out : ∀ {H : Type} {enc : TypeId × Value → H} {w : World} {base : Nat} {spare : Nat → Bool} {held : Bool} {fuel : Nat} {cs : List Value}, cs.length = off + d.sz →
    (∀ f ∈ fs, ∃ x, DataW.trod enc P w base spare held fuel f.type ((cs.drop f.offset).take (P.cellsOf f.type)) = some x) → ∃ v, d.K w v (cs.drop off) ∧ ok v
theorem OpensSeq.one {α : Type} {P : Program} {f : Field} {d : Kd α} {ok : α → Prop} (h : Opens P f.type d ok) : OpensSeq P [f] f.offset d ok := by
  constructor
  intro H enc w base spare held fuel cs hl hf
  obtain ⟨x, hx⟩ := hf f (List.mem_cons_self ..)
  obtain ⟨v, hK, hok⟩ := h.2 hx
  rw [List.take_of_length_le (by rw [List.length_drop, hl, ← h.1]; omega)] at hK
  exact ⟨v, hK, hok⟩
theorem OpensSeq.cons {α β : Type} {P : Program} {f : Field} {fs : List Field} {d : Kd α} {d2 : Kd β} {ok : α → Prop} {ok2 : β → Prop} (h : Opens P f.type d ok) {off2 : Nat} (ho : f.offset + P.cellsOf f.type = off2) (h2 : OpensSeq P fs off2 d2 ok2) :
    OpensSeq P (f :: fs) f.offset (Kd.pair d d2) (fun v => ok v.1 ∧ ok2 v.2) := by
  constructor
  intro H enc w base spare held fuel cs hl hf
  obtain ⟨x, hx⟩ := hf f (List.mem_cons_self ..)
  obtain ⟨v, hK, hok⟩ := h.2 hx
  have hsz : (Kd.pair d d2).sz = d.sz + d2.sz := rfl
  obtain ⟨v2, hK2, hok2⟩ := h2.out (H := H) (enc := enc) (w := w) (base := base) (spare := spare) (held := held) (fuel := fuel) (cs := cs) (by rw [hl, hsz, ← ho, h.1]; omega) (fun g hg => hf g (List.mem_cons_of_mem _ hg))
  refine ⟨(v, v2), ⟨_, _, ?_, hK, hK2⟩, hok, hok2⟩
  rw [← ho, ← List.drop_drop, List.take_append_drop]
theorem Opens.struct {α β : Type} {P : Program} {t : TypeId} {fs : Array Field} {d : Kd α} {ok : α → Prop} (ht : P.underlying t = some (.struct fs)) (hs : P.cellsOf t = d.sz) (h : OpensSeq P fs.toList 0 d ok) (f : β → α) (g : α → β) (hfg : ∀ a, f (g a) = a) :
    Opens P t (Kd.iso d f) (fun b => ok (f b)) :=
  ⟨hs.symm, fun hx => by
    obtain ⟨xs, n, _, _, hlen, hxl, hfld⟩ := DataW.trod_struct ht hx
    obtain ⟨v, hK, hok⟩ := h.out (by rw [hlen, hs]; omega) (fun fl hfl => by
      obtain ⟨i, hi, rfl⟩ := List.getElem_of_mem hfl
      have hi2 : i < fs.size := by simpa using hi
      have e := hfld i fs[i] (by rw [Array.getElem?_eq_getElem hi2])
      rw [List.getElem?_eq_getElem (by omega)] at e
      exact ⟨_, by simpa using e⟩)
    rw [List.drop_zero] at hK
    refine ⟨g v, ?_, ?_⟩
    · show d.K _ (f (g v)) _
      rw [hfg]; exact hK
    · show ok (f (g v))
      rw [hfg]; exact hok⟩
end Go.Proofs.Ytabkinlpbefjgaa.Pure

