/- Texts of this seat that a claim bears, put together by this session's own program shake.py: TrA, TrD, TrE, TrF, TrG, TrH. -/
import Derived.Test.YtabkinlpbefjgaaKd6
import Derived.WalkSmall
import Derived.StillTailTactics
namespace Go.Proofs.Ytabkinlpbefjgaa.L
open Go.RowKit Go.Proofs.Ytabkinlpbefjgaa.X Go.Proofs.YtabkinlpbefjgaaW.PrintWords Go.Proofs.YtabkinlpbefjgaaW.PrintLast Go.Proofs.YtabkinlpbefjgaaW.PrintMore
attribute [local go_sem] max2_int min2_int max_two min_two max_three min_three max_four min_four   -- for this text's walks alone
set_option linter.unusedVariables false
set_option linter.unusedSimpArgs false
structure Lay (base : Nat) (W : World) (L : List (Nat × Array Value × TypeId)) : Prop where
  at_ : ∀ b ∈ L, base ≤ b.1 ∧ W.heap[b.1]? = some (.cells b.2.1 b.2.2 (0, 0))
  apart : (L.map (·.1)).Nodup
theorem Lay.lt {base : Nat} {W : World} {L : List (Nat × Array Value × TypeId)} (h : Lay base W L) {b : Nat × Array Value × TypeId} (hb : b ∈ L) : b.1 < W.heap.size := by
  have h1 := (h.at_ b hb).2
  rcases Nat.lt_or_ge b.1 W.heap.size with h2 | h2
  · exact h2
  · rw [Array.getElem?_eq_none h2] at h1; cases h1
theorem Lay.set {base : Nat} {W W' : World} {A B : List (Nat × Array Value × TypeId)} {g : Nat} {cs cs' : Array Value} {t : TypeId} (h : Lay base W (A ++ (g, cs, t) :: B))
    (hk : ∀ k, k ≠ g → k < W.heap.size → W'.heap[k]? = W.heap[k]?) (hg : W'.heap[g]? = some (.cells cs' t (0, 0))) : Lay base W' (A ++ (g, cs', t) :: B) := by
  have ha := h.apart
  rw [List.map_append, List.map_cons] at ha
  have hne : ∀ b, b ∈ A ∨ b ∈ B → b.1 ≠ g := by
    intro b hb e
    rw [List.nodup_append] at ha
    obtain ⟨_, h2, h3⟩ := ha
    rcases hb with hb | hb
    · exact h3 _ (List.mem_map_of_mem hb) _ List.mem_cons_self e
    · exact (List.nodup_cons.1 h2).1 (List.mem_map.2 ⟨b, hb, e⟩)
  refine ⟨fun b hb => ?_, by rw [List.map_append, List.map_cons]; exact ha⟩
  have old : ∀ b, b ∈ A ∨ b ∈ B → base ≤ b.1 ∧ W'.heap[b.1]? = some (.cells b.2.1 b.2.2 (0, 0)) := fun b hb => by
    have hm : b ∈ A ++ (g, cs, t) :: B := by
      rcases hb with hb | hb
      · exact List.mem_append_left _ hb
      · exact List.mem_append_right _ (List.mem_cons_of_mem _ hb)
    exact ⟨(h.at_ b hm).1, (hk b.1 (hne b hb) (h.lt hm)).trans (h.at_ b hm).2⟩
  rcases List.mem_append.1 hb with hb | hb
  · exact old b (.inl hb)
  · rcases List.mem_cons.1 hb with rfl | hb
    · exact ⟨(h.at_ (g, cs, t) (List.mem_append_right _ List.mem_cons_self)).1, hg⟩
    · exact old b (.inr hb)
theorem Lay.keep {base : Nat} {W W' : World} {L : List (Nat × Array Value × TypeId)} (h : Lay base W L) (hk : ∀ b ∈ L, W'.heap[b.1]? = W.heap[b.1]?) : Lay base W' L :=
  ⟨fun b hb => ⟨(h.at_ b hb).1, (hk b hb).trans (h.at_ b hb).2⟩, h.apart⟩
theorem Lay.below {base : Nat} {W W' : World} {L : List (Nat × Array Value × TypeId)} (h : Lay base W L) (hb : Below W.heap.size W W') : Lay base W' L :=
  h.keep fun b hm => hb.block b.1 (h.lt hm)
theorem Lay.new {base : Nat} {W W' : World} {L : List (Nat × Array Value × TypeId)} (h : Lay base W L) (hb : Below W.heap.size W W') {g : Nat} {cs : Array Value} {t : TypeId} (hg : W'.heap[g]? = some (.cells cs t (0, 0))) (hn : W.heap.size ≤ g) (hbase : base ≤ W.heap.size) : Lay base W' ((g, cs, t) :: L) := by
  refine ⟨fun b hm => ?_, ?_⟩
  · rcases List.mem_cons.1 hm with rfl | hm
    · exact ⟨Nat.le_trans hbase hn, hg⟩
    · exact (h.below hb).at_ b hm
  · rw [List.map_cons, List.nodup_cons]
    refine ⟨fun hm => ?_, h.apart⟩
    obtain ⟨b, hb2, e⟩ := List.mem_map.1 hm
    have h2 := h.lt hb2
    have e2 : b.1 = g := e
    omega
end Go.Proofs.Ytabkinlpbefjgaa.L

namespace Go.Proofs.Ytabkinlpbefjgaa.L
open Go.RowKit Go.Proofs.Ytabkinlpbefjgaa.X Go.Proofs.YtabkinlpbefjgaaW.PrintWords Go.Proofs.YtabkinlpbefjgaaW.PrintLast Go.Proofs.YtabkinlpbefjgaaW.PrintMore
attribute [local go_sem] max2_int min2_int max_two min_two max_three min_three max_four min_four   -- for this text's walks alone
set_option linter.unusedVariables false
set_option linter.unusedSimpArgs false
structure Tr (S : Nat → Prop) (W W' : World) : Prop where
  os : W'.os = W.os
  tape : W'.tape = W.tape
  output : W'.output = W.output
  size : W.heap.size ≤ W'.heap.size
  keep : ∀ k, k < W.heap.size → ¬ S k → W'.heap[k]? = W.heap[k]?
def one (g : Nat) : Nat → Prop := fun k => k = g
def nil_ : Nat → Prop := fun _ => False
section
variable {S S' S2 : Nat → Prop} {W W1 W2 : World} {g : Nat}
theorem Tr.refl (S : Nat → Prop) (W : World) : Tr S W W := ⟨rfl, rfl, rfl, Nat.le_refl _, fun _ _ _ => rfl⟩
theorem Tr.drew (h : Tr S W W1) : Tr S W W1.drew := ⟨h.os, h.tape, h.output, h.size, h.keep⟩
theorem Tr.drewN (h : Tr S W W1) (n : Nat) : Tr S W (W1.drewN n) := ⟨h.os, h.tape, h.output, h.size, h.keep⟩
theorem Tr.then_ (h : Tr S W W1) (k : Tr S2 W1 W2) (hs : ∀ k, S2 k → S k ∨ W.heap.size ≤ k) : Tr S W W2 :=
  ⟨k.os.trans h.os, k.tape.trans h.tape, k.output.trans h.output, Nat.le_trans h.size k.size, fun i hi hn =>
    (k.keep i (Nat.lt_of_lt_of_le hi h.size) (fun h2 => (hs i h2).elim hn (fun h3 => by omega))).trans (h.keep i hi hn)⟩
theorem Tr.trans (h : Tr S W W1) (k : Tr S W1 W2) : Tr S W W2 := h.then_ k (fun _ h => .inl h)
theorem Tr.mono (h : Tr S W W1) (hs : ∀ k, S k → S' k) : Tr S' W W1 := ⟨h.os, h.tape, h.output, h.size, fun i hi hn => h.keep i hi (fun hk => hn (hs i hk))⟩
theorem Tr.set (h : Tr S W W1) {p : Addr} (hp : S p.block ∨ W.heap.size ≤ p.block) (u : Value) : Tr S W (W1.setCell p u) :=
  h.then_ (S2 := one p.block) ⟨rfl, rfl, rfl, by simp [World.setCell], fun k _ hn => Below.heap_setCell W1 p u k hn⟩ (fun k hk => by rw [show k = p.block from hk]; exact hp)
theorem Tr.of_below (h : Below W.heap.size W W1) (S : Nat → Prop) : Tr S W W1 := ⟨h.os, h.tape, h.output, h.size, fun k hk _ => h.block k hk⟩
theorem Tr.to_below {B : Nat} (h : Tr S W W1) (hB : B ≤ W.heap.size) (hS : ∀ k, S k → B ≤ k) : Below B W W1 :=
  ⟨h.os, h.tape, h.output, h.size, fun k hk => h.keep k (by omega) (fun hs => by have := hS k hs; omega)⟩
theorem Tr.alloc (h : Tr S W W1) (o : Obj) : Tr S W (W1.alloc o) :=
  h.then_ (S2 := nil_) (Tr.of_below (below_alloc (Below.refl _ _) o) _) (fun _ h => h.elim)
theorem Tr.grown {row : Option Nat} (h : Tr S W W1) (hg : W1.grownBy W2 row) (hr : ∀ k, row = some k → S k ∨ W.heap.size ≤ k) : Tr S W W2 :=
  h.then_ (S2 := fun k => row = some k) ⟨hg.os, hg.tape, hg.output, hg.size, fun i hi hn => hg.block i hi (fun e => hn e.symm)⟩ hr
theorem Tr.kept (h : Tr S W W1) : Kept W W1 S := ⟨h.size, h.keep⟩
theorem Tr.blk (h : Tr S W W1) {k : Nat} {o : Obj} (hb : W.heap[k]? = some o) (hn : ¬ S k) : W1.heap[k]? = some o := (h.keep k (blk_lt hb) hn).trans hb
theorem Tr.cell (h : Tr S W W1) {a : Addr} {v : Value} (hc : W.cell? a = some v) (hn : ¬ S a.block) : W1.cell? a = some v := cell_kept hc h.kept hn
end
theorem Lay.tr {base : Nat} {W W' : World} {L : List (Nat × Array Value × TypeId)} {S : Nat → Prop} (h : Lay base W L) (ht : Tr S W W') (hn : ∀ b ∈ L, ¬ S b.1) : Lay base W' L :=
  h.keep fun b hb => ht.keep b.1 (h.lt hb) (hn b hb)
theorem Lay.turn {base : Nat} {W W' : World} {A B : List (Nat × Array Value × TypeId)} {g : Nat} {cs cs' : Array Value} {t : TypeId} (h : Lay base W (A ++ (g, cs, t) :: B)) (ht : Tr (one g) W W')
    (hg : W'.heap[g]? = some (.cells cs' t (0, 0))) : Lay base W' (A ++ (g, cs', t) :: B) := h.set (fun k hk hlt => ht.keep k hlt hk) hg
structure Env where
  fm : Nat
  wm : Nat
  iv : Value
  fuel : Int
structure MV where
  cv : Value
  en : Int
  va : Int
  tv : Value
  st : Nat
  rd : Nat
def mC (E : Env) (m : MV) : Array Value := #[.map (some E.fm), .map (some E.wm), E.iv, .int .i64 E.fuel, m.cv, .int .i64 m.en, .int .i32 m.va, m.tv, .int .i64 (m.st : Int), .int .i64 (m.rd : Int)]
def Turned (W w' : World) (g : Nat) (cs' : Array Value) (t : TypeId) : Prop := w'.heap[g]? = some (.cells cs' t (0, 0)) ∧ Tr (one g) W w'
theorem one_self (g : Nat) : one g g := rfl
set_option maxHeartbeats 4000000 in
set_option maxRecDepth 100000 in
theorem step_go (E : Env) (m : MV) (W : World) (g : Nat) (hb : W.heap[g]? = some (.cells (mC E m) 54 (0, 0))) (hlt : (m.st : Int) < E.fuel) (hs : m.st < 1000000000) :
    Calls Try.prog 25 #[.pointer (some ⟨g, 0, none⟩)] W fun e w' => e = .returned (.tuple #[]) ∧ Turned W w' g (mC E { m with st := m.st + 1 }) 54 := by
  have cm0 : W.cell? ⟨g, 0, none⟩ = some (.map (some E.fm)) := (blk_cell hb 0).trans rfl; have fm0 := blk_frozen hb 0; have cm1 : W.cell? ⟨g, 1, none⟩ = some (.map (some E.wm)) := (blk_cell hb 1).trans rfl; have fm1 := blk_frozen hb 1; have cm2 : W.cell? ⟨g, 2, none⟩ = some (E.iv) := (blk_cell hb 2).trans rfl; have fm2 := blk_frozen hb 2; have cm3 : W.cell? ⟨g, 3, none⟩ = some (.int .i64 E.fuel) := (blk_cell hb 3).trans rfl; have fm3 := blk_frozen hb 3; have cm4 : W.cell? ⟨g, 4, none⟩ = some (m.cv) := (blk_cell hb 4).trans rfl; have fm4 := blk_frozen hb 4; have cm5 : W.cell? ⟨g, 5, none⟩ = some (.int .i64 m.en) := (blk_cell hb 5).trans rfl; have fm5 := blk_frozen hb 5; have cm6 : W.cell? ⟨g, 6, none⟩ = some (.int .i32 m.va) := (blk_cell hb 6).trans rfl; have fm6 := blk_frozen hb 6; have cm7 : W.cell? ⟨g, 7, none⟩ = some (m.tv) := (blk_cell hb 7).trans rfl; have fm7 := blk_frozen hb 7; have cm8 : W.cell? ⟨g, 8, none⟩ = some (.int .i64 (m.st : Int)) := (blk_cell hb 8).trans rfl; have fm8 := blk_frozen hb 8; have cm9 : W.cell? ⟨g, 9, none⟩ = some (.int .i64 (m.rd : Int)) := (blk_cell hb 9).trans rfl; have fm9 := blk_frozen hb 9
  have HB := Aside0.mk hb
  clear hb
  go_enter Try.func25, Try.ntmps25
  go_wp2
  go_quiet (fail)
  go_wp2
  refine bodyPost_end (v := .tuple #[]) (by simp [results, Try.results25, go_sem]) rfl ⟨rfl, ?_, ?_⟩
  · exact blk_put (blk_drewN HB.out _) 8 _ (by simp [mC])
  · exact ((Tr.refl _ _).drewN _).set (S := one g) (.inl (one_self g)) _
set_option maxHeartbeats 4000000 in
set_option maxRecDepth 100000 in
theorem step_stop (E : Env) (m : MV) (W : World) (g : Nat) (hb : W.heap[g]? = some (.cells (mC E m) 54 (0, 0))) (hlt : E.fuel ≤ (m.st : Int)) (hs : m.st < 1000000000) :
    Calls Try.prog 25 #[.pointer (some ⟨g, 0, none⟩)] W fun e w' => e = .panicked [{ v := .iface 66 (.int .i64 5), recovered := false }] ∧ Tr nil_ W w' := by
  have cm0 : W.cell? ⟨g, 0, none⟩ = some (.map (some E.fm)) := (blk_cell hb 0).trans rfl; have fm0 := blk_frozen hb 0; have cm1 : W.cell? ⟨g, 1, none⟩ = some (.map (some E.wm)) := (blk_cell hb 1).trans rfl; have fm1 := blk_frozen hb 1; have cm2 : W.cell? ⟨g, 2, none⟩ = some (E.iv) := (blk_cell hb 2).trans rfl; have fm2 := blk_frozen hb 2; have cm3 : W.cell? ⟨g, 3, none⟩ = some (.int .i64 E.fuel) := (blk_cell hb 3).trans rfl; have fm3 := blk_frozen hb 3; have cm4 : W.cell? ⟨g, 4, none⟩ = some (m.cv) := (blk_cell hb 4).trans rfl; have fm4 := blk_frozen hb 4; have cm5 : W.cell? ⟨g, 5, none⟩ = some (.int .i64 m.en) := (blk_cell hb 5).trans rfl; have fm5 := blk_frozen hb 5; have cm6 : W.cell? ⟨g, 6, none⟩ = some (.int .i32 m.va) := (blk_cell hb 6).trans rfl; have fm6 := blk_frozen hb 6; have cm7 : W.cell? ⟨g, 7, none⟩ = some (m.tv) := (blk_cell hb 7).trans rfl; have fm7 := blk_frozen hb 7; have cm8 : W.cell? ⟨g, 8, none⟩ = some (.int .i64 (m.st : Int)) := (blk_cell hb 8).trans rfl; have fm8 := blk_frozen hb 8; have cm9 : W.cell? ⟨g, 9, none⟩ = some (.int .i64 (m.rd : Int)) := (blk_cell hb 9).trans rfl; have fm9 := blk_frozen hb 9
  have HB := Aside0.mk hb
  clear hb
  go_enter Try.func25, Try.ntmps25
  go_wp2
  go_quiet (fail)
  go_wp2
  exact ⟨rfl, rfl, (Tr.refl _ _).drewN _⟩
set_option maxHeartbeats 4000000 in
set_option maxRecDepth 100000 in
theorem read_none (E : Env) (m : MV) (W : World) (g : Nat) (hb : W.heap[g]? = some (.cells (mC E m) 54 (0, 0))) (A : Option Addr) (n c : Nat) (hiv : E.iv = .slice A n c) (hlt : n ≤ m.rd) :
    Calls Try.prog 38 #[.pointer (some ⟨g, 0, none⟩)] W fun e w' => e = .returned (.int .i32 0) ∧ Tr nil_ W w' := by
  rw [show mC E m = mC { E with iv := .slice A n c } m from by rw [← hiv]] at hb
  have cm0 : W.cell? ⟨g, 0, none⟩ = some (.map (some E.fm)) := (blk_cell hb 0).trans rfl; have fm0 := blk_frozen hb 0; have cm1 : W.cell? ⟨g, 1, none⟩ = some (.map (some E.wm)) := (blk_cell hb 1).trans rfl; have fm1 := blk_frozen hb 1; have cm2 : W.cell? ⟨g, 2, none⟩ = some (.slice A n c) := (blk_cell hb 2).trans rfl; have fm2 := blk_frozen hb 2; have cm3 : W.cell? ⟨g, 3, none⟩ = some (.int .i64 E.fuel) := (blk_cell hb 3).trans rfl; have fm3 := blk_frozen hb 3; have cm4 : W.cell? ⟨g, 4, none⟩ = some (m.cv) := (blk_cell hb 4).trans rfl; have fm4 := blk_frozen hb 4; have cm5 : W.cell? ⟨g, 5, none⟩ = some (.int .i64 m.en) := (blk_cell hb 5).trans rfl; have fm5 := blk_frozen hb 5; have cm6 : W.cell? ⟨g, 6, none⟩ = some (.int .i32 m.va) := (blk_cell hb 6).trans rfl; have fm6 := blk_frozen hb 6; have cm7 : W.cell? ⟨g, 7, none⟩ = some (m.tv) := (blk_cell hb 7).trans rfl; have fm7 := blk_frozen hb 7; have cm8 : W.cell? ⟨g, 8, none⟩ = some (.int .i64 (m.st : Int)) := (blk_cell hb 8).trans rfl; have fm8 := blk_frozen hb 8; have cm9 : W.cell? ⟨g, 9, none⟩ = some (.int .i64 (m.rd : Int)) := (blk_cell hb 9).trans rfl; have fm9 := blk_frozen hb 9
  clear hb hiv
  go_enter Try.func38, Try.ntmps38
  go_wp2
  go_quiet (fail)
  go_wp2
  go_ret
  exact ⟨rfl, (Tr.refl _ _).drewN _⟩
theorem w64_sub (n : Nat) (h : n ≤ 1000000000) : IntKind.i64.wrap ((n : Int) + 1 - 1) = (n : Int) := by
  rw [Int.add_sub_cancel]; exact IntWalk.i64_in _ (by omega)
theorem add_block (A : Addr) (k : Nat) : (A.add k).block = A.block := by unfold Addr.add; split <;> rfl
set_option maxHeartbeats 4000000 in
set_option maxRecDepth 100000 in
theorem read_some (E : Env) (m : MV) (W : World) (g : Nat) (hb : W.heap[g]? = some (.cells (mC E m) 54 (0, 0))) (A : Addr) (n c : Nat) (hiv : E.iv = .slice (some A) n c) (hlt : m.rd < n) (hn : n ≤ 1000000000) (v : Int)
    (hv : W.cell? (A.add m.rd) = some (.int .i32 v)) (hA : A.block ≠ g) :
    Calls Try.prog 38 #[.pointer (some ⟨g, 0, none⟩)] W fun e w' => e = .returned (.int .i32 v) ∧ Turned W w' g (mC E { m with rd := m.rd + 1 }) 54 := by
  have HB := Aside0.mk hb
  have HIV := Aside0.mk hiv
  rw [show mC E m = mC { E with iv := .slice (some A) n c } m from by rw [← hiv]] at hb
  have cm0 : W.cell? ⟨g, 0, none⟩ = some (.map (some E.fm)) := (blk_cell hb 0).trans rfl; have fm0 := blk_frozen hb 0; have cm1 : W.cell? ⟨g, 1, none⟩ = some (.map (some E.wm)) := (blk_cell hb 1).trans rfl; have fm1 := blk_frozen hb 1; have cm2 : W.cell? ⟨g, 2, none⟩ = some (.slice (some A) n c) := (blk_cell hb 2).trans rfl; have fm2 := blk_frozen hb 2; have cm3 : W.cell? ⟨g, 3, none⟩ = some (.int .i64 E.fuel) := (blk_cell hb 3).trans rfl; have fm3 := blk_frozen hb 3; have cm4 : W.cell? ⟨g, 4, none⟩ = some (m.cv) := (blk_cell hb 4).trans rfl; have fm4 := blk_frozen hb 4; have cm5 : W.cell? ⟨g, 5, none⟩ = some (.int .i64 m.en) := (blk_cell hb 5).trans rfl; have fm5 := blk_frozen hb 5; have cm6 : W.cell? ⟨g, 6, none⟩ = some (.int .i32 m.va) := (blk_cell hb 6).trans rfl; have fm6 := blk_frozen hb 6; have cm7 : W.cell? ⟨g, 7, none⟩ = some (m.tv) := (blk_cell hb 7).trans rfl; have fm7 := blk_frozen hb 7; have cm8 : W.cell? ⟨g, 8, none⟩ = some (.int .i64 (m.st : Int)) := (blk_cell hb 8).trans rfl; have fm8 := blk_frozen hb 8; have cm9 : W.cell? ⟨g, 9, none⟩ = some (.int .i64 (m.rd : Int)) := (blk_cell hb 9).trans rfl; have fm9 := blk_frozen hb 9
  clear hb hiv
  have HA := Aside0.mk hA
  have HV := Aside0.mk hv
  clear hA hv
  go_enter Try.func38, Try.ntmps38
  go_wp2
  go_quiet (fail)
  go_wp2
  clear cm0 fm0 cm1 fm1 cm2 fm2 cm3 fm3 cm4 fm4 cm5 fm5 cm6 fm6 cm7 fm7 cm8 fm8 cm9 fm9
  have ht1 : Tr (one g) W ((W.drewN nq).setCell ⟨g, 9, none⟩ (.int .i64 (↑m.rd + 1))) := ((Tr.refl _ _).drewN _).set (S := one g) (.inl (one_self g)) _
  have hb1 := blk_put (cs' := mC E { m with rd := m.rd + 1 }) (blk_drewN HB.out nq) 9 (.int .i64 (↑m.rd + 1)) (by simp [mC])
  generalize (W.drewN nq).setCell ⟨g, 9, none⟩ (.int .i64 (↑m.rd + 1)) = w1 at ht1 hb1 ⊢
  have c9 : w1.cell? ⟨g, 9, none⟩ = some (.int .i64 (↑m.rd + 1)) := (blk_cell hb1 9).trans (by rfl)
  have f9 := blk_frozen hb1 9
  have c2 : w1.cell? ⟨g, 2, none⟩ = some (.slice (some A) n c) := (blk_cell hb1 2).trans (by rw [← HIV.out]; rfl)
  have f2 := blk_frozen hb1 2
  have cv : w1.cell? (A.add m.rd) = some (.int .i32 v) := ht1.cell HV.out (by rw [add_block]; exact HA.out)
  have q1 := w64_sub m.rd (by omega)
  have HB1 := Aside0.mk hb1
  have HT1 := Aside0.mk ht1
  clear hb1 ht1
  go_quiet (fail)
  go_wp2
  go_ret
  exact ⟨rfl, blk_drewN HB1.out _, HT1.out.drewN _⟩
end Go.Proofs.Ytabkinlpbefjgaa.L

namespace Go.Proofs.Ytabkinlpbefjgaa.L
open Go.RowKit Go.Proofs.Ytabkinlpbefjgaa.X Go.Proofs.YtabkinlpbefjgaaW.PrintWords Go.Proofs.YtabkinlpbefjgaaW.PrintLast Go.Proofs.YtabkinlpbefjgaaW.PrintMore
attribute [local go_sem] max2_int min2_int max_two min_two max_three min_three max_four min_four   -- for this text's walks alone
set_option linter.unusedVariables false
set_option linter.unusedSimpArgs false
def fC (fp : Addr) (rb n : Nat) (blk ins d : Int) : Array Value := #[.pointer (some fp), .slice (some ⟨rb, 0, none⟩) n n, .int .i64 blk, .int .i64 ins, .int .i64 d]
def row32 (l : List Int) : Array Value := (l.map (Value.int .i32)).toArray
def get32 (l : List Int) (i : Int) : Int := l.getD i.toNat 0
def put32 (l : List Int) (i v : Int) : List Int := l.set i.toNat v
theorem row32_size (l : List Int) : (row32 l).size = l.length := by simp [row32]
theorem put32_length (l : List Int) (i v : Int) : (put32 l i v).length = l.length := by simp [put32]
theorem row32_cell {W : World} {g : Nat} {l : List Int} (h : W.heap[g]? = some (.cells (row32 l) 21 (0, 0))) (i : Int) (h0 : 0 ≤ i) (h1 : i < l.length) : W.cell? ⟨g, i.toNat, none⟩ = some (.int .i32 (get32 l i)) := by
  have h2 : i.toNat < l.length := by omega
  rw [blk_cell h]
  simp [row32, get32, h2]
theorem row32_frozen {W : World} {g : Nat} {l : List Int} (h : W.heap[g]? = some (.cells (row32 l) 21 (0, 0))) (i : Int) : W.frozen? ⟨g, i.toNat, none⟩ = false := blk_frozen h _
theorem row32_put {W : World} {g : Nat} {l : List Int} (h : W.heap[g]? = some (.cells (row32 l) 21 (0, 0))) (i v : Int) : (W.setCell ⟨g, i.toNat, none⟩ (.int .i32 v)).heap[g]? = some (.cells (row32 (put32 l i v)) 21 (0, 0)) := by
  refine blk_put h _ _ ?_
  simp [row32, put32, List.map_set]
set_option maxHeartbeats 4000000 in
set_option maxRecDepth 100000 in
theorem end_jump (fp : Addr) (rb n : Nat) (blk ins d : Int) (W : World) (mp : Value) (cb : Nat) (hc : W.heap[cb]? = some (.cells (fC fp rb n blk ins d) 70 (0, 0))) (sv : Value) (hsv : sv.oneCell' = true) (a t0 el : Int) :
    Calls Try.prog 27 #[mp, .pointer (some ⟨cb, 0, none⟩), .agg #[sv, .int .i64 1, .int .i64 a, .int .i64 t0, .int .i64 el]] W fun e w' => e = .returned (.bool false) ∧ Turned W w' cb (fC fp rb n t0 0 d) 70 := by
  have cc0 : W.cell? ⟨cb, 0, none⟩ = some (.pointer (some fp)) := (blk_cell hc 0).trans rfl; have fc0 := blk_frozen hc 0; have cc1 : W.cell? ⟨cb, 1, none⟩ = some (.slice (some ⟨rb, 0, none⟩) n n) := (blk_cell hc 1).trans rfl; have fc1 := blk_frozen hc 1; have cc2 : W.cell? ⟨cb, 2, none⟩ = some (.int .i64 blk) := (blk_cell hc 2).trans rfl; have fc2 := blk_frozen hc 2; have cc3 : W.cell? ⟨cb, 3, none⟩ = some (.int .i64 ins) := (blk_cell hc 3).trans rfl; have fc3 := blk_frozen hc 3; have cc4 : W.cell? ⟨cb, 4, none⟩ = some (.int .i64 d) := (blk_cell hc 4).trans rfl; have fc4 := blk_frozen hc 4
  have HC := Aside0.mk hc
  have hlt := blk_lt hc
  clear hc
  go_enter Try.func27, Try.ntmps27
  go_wp2
  go_ret
  exact ⟨rfl, blk_alloc (blk_put (blk_set HC.out 3 _) 2 _ (by simp [fC])) _, (((Tr.refl (one cb) W).set (.inl (one_self cb)) _).set (.inl (one_self cb)) _).alloc _⟩
set_option maxHeartbeats 4000000 in
set_option maxRecDepth 100000 in
theorem end_branch (fp : Addr) (rb : Nat) (regs : List Int) (n : Nat) (hn : regs.length = n) (blk ins d : Int) (W : World) (mp : Value) (cb : Nat) (hc : W.heap[cb]? = some (.cells (fC fp rb n blk ins d) 70 (0, 0))) (hr : W.heap[rb]? = some (.cells (row32 regs) 21 (0, 0)))
    (hne : rb ≠ cb) (sv : Value) (hsv : sv.oneCell' = true) (a t0 el : Int) (ha0 : 0 ≤ a) (ha1 : a < n) :
    Calls Try.prog 27 #[mp, .pointer (some ⟨cb, 0, none⟩), .agg #[sv, .int .i64 2, .int .i64 a, .int .i64 t0, .int .i64 el]] W fun e w' => e = .returned (.bool false) ∧ Turned W w' cb (fC fp rb n (if get32 regs a = 0 then el else t0) 0 d) 70 := by
  have cc0 : W.cell? ⟨cb, 0, none⟩ = some (.pointer (some fp)) := (blk_cell hc 0).trans rfl; have fc0 := blk_frozen hc 0; have cc1 : W.cell? ⟨cb, 1, none⟩ = some (.slice (some ⟨rb, 0, none⟩) n n) := (blk_cell hc 1).trans rfl; have fc1 := blk_frozen hc 1; have cc2 : W.cell? ⟨cb, 2, none⟩ = some (.int .i64 blk) := (blk_cell hc 2).trans rfl; have fc2 := blk_frozen hc 2; have cc3 : W.cell? ⟨cb, 3, none⟩ = some (.int .i64 ins) := (blk_cell hc 3).trans rfl; have fc3 := blk_frozen hc 3; have cc4 : W.cell? ⟨cb, 4, none⟩ = some (.int .i64 d) := (blk_cell hc 4).trans rfl; have fc4 := blk_frozen hc 4
  have cr := row32_cell hr a ha0 (by omega)
  have fr := row32_frozen hr a
  obtain ⟨v, hv⟩ : ∃ v, get32 regs a = v := ⟨_, rfl⟩
  rw [hv] at cr ⊢
  have HC := Aside0.mk hc
  have hlt := blk_lt hc
  have hlt2 := blk_lt hr
  clear hc hr hv hn
  by_cases h0 : v = 0
  · subst h0
    rw [if_pos rfl]
    have CR := Aside0.mk cr
    go_enter Try.func27, Try.ntmps27
    go_wp2
    clear cc0 fc0 cc1 fc1 cc2 fc2 cc3 fc3 cc4 fc4
    clear cr
    have ht1 : Tr (one cb) W (((W.setCell ⟨cb, 3, none⟩ (.int .i64 0)).setCell ⟨cb, 2, none⟩ (.int .i64 el)).alloc (.cells #[sv, .int .i64 2, .int .i64 a, .int .i64 t0, .int .i64 el] 41)) := (((Tr.refl (one cb) W).set (.inl (one_self cb)) _).set (.inl (one_self cb)) _).alloc _
    have hc1 : (((W.setCell ⟨cb, 3, none⟩ (.int .i64 0)).setCell ⟨cb, 2, none⟩ (.int .i64 el)).alloc (.cells #[sv, .int .i64 2, .int .i64 a, .int .i64 t0, .int .i64 el] 41)).heap[cb]? = some (.cells (fC fp rb n el 0 d) 70 (0, 0)) := blk_alloc (blk_put (blk_set HC.out 3 _) 2 _ (by simp [fC])) _
    have hb1 : (((W.setCell ⟨cb, 3, none⟩ (.int .i64 0)).setCell ⟨cb, 2, none⟩ (.int .i64 el)).alloc (.cells #[sv, .int .i64 2, .int .i64 a, .int .i64 t0, .int .i64 el] 41)).heap[W.heap.size]? = some (.cells #[sv, .int .i64 2, .int .i64 a, .int .i64 t0, .int .i64 el] 41 (0, 0)) := by simpa [World.setCell] using blk_new ((W.setCell ⟨cb, 3, none⟩ (.int .i64 0)).setCell ⟨cb, 2, none⟩ (.int .i64 el)) (.cells #[sv, .int .i64 2, .int .i64 a, .int .i64 t0, .int .i64 el] 41)
    generalize ((W.setCell ⟨cb, 3, none⟩ (.int .i64 0)).setCell ⟨cb, 2, none⟩ (.int .i64 el)).alloc (.cells #[sv, .int .i64 2, .int .i64 a, .int .i64 t0, .int .i64 el] 41) = w1 at ht1 hc1 hb1 ⊢
    have cr := ht1.cell CR.out hne
    have c11 : w1.cell? ⟨cb, 1, none⟩ = some (.slice (some ⟨rb, 0, none⟩) n n) := (blk_cell hc1 1).trans rfl
    have f11 := blk_frozen hc1 1
    have c12 : w1.cell? ⟨cb, 2, none⟩ = some (.int .i64 el) := (blk_cell hc1 2).trans rfl
    have f12 := blk_frozen hc1 2
    have c22 : w1.cell? ⟨W.heap.size, 2, none⟩ = some (.int .i64 a) := (blk_cell hb1 2).trans rfl
    have c23 : w1.cell? ⟨W.heap.size, 3, none⟩ = some (.int .i64 t0) := (blk_cell hb1 3).trans rfl
    have HC1 := Aside0.mk hc1
    have HT1 := Aside0.mk ht1
    clear hc1 ht1 hb1
    go_quiet (fail)
    go_wp2
    go_ret
    exact ⟨rfl, blk_drewN HC1.out _, HT1.out.drewN _⟩
  · rw [if_neg h0]
    have q0 : (v != 0) = true := by rw [bne_iff_ne]; exact h0
    clear h0
    have CR := Aside0.mk cr
    go_enter Try.func27, Try.ntmps27
    go_wp2
    clear cc0 fc0 cc1 fc1 cc2 fc2 cc3 fc3 cc4 fc4
    clear cr
    have ht1 : Tr (one cb) W (((W.setCell ⟨cb, 3, none⟩ (.int .i64 0)).setCell ⟨cb, 2, none⟩ (.int .i64 el)).alloc (.cells #[sv, .int .i64 2, .int .i64 a, .int .i64 t0, .int .i64 el] 41)) := (((Tr.refl (one cb) W).set (.inl (one_self cb)) _).set (.inl (one_self cb)) _).alloc _
    have hc1 : (((W.setCell ⟨cb, 3, none⟩ (.int .i64 0)).setCell ⟨cb, 2, none⟩ (.int .i64 el)).alloc (.cells #[sv, .int .i64 2, .int .i64 a, .int .i64 t0, .int .i64 el] 41)).heap[cb]? = some (.cells (fC fp rb n el 0 d) 70 (0, 0)) := blk_alloc (blk_put (blk_set HC.out 3 _) 2 _ (by simp [fC])) _
    have hb1 : (((W.setCell ⟨cb, 3, none⟩ (.int .i64 0)).setCell ⟨cb, 2, none⟩ (.int .i64 el)).alloc (.cells #[sv, .int .i64 2, .int .i64 a, .int .i64 t0, .int .i64 el] 41)).heap[W.heap.size]? = some (.cells #[sv, .int .i64 2, .int .i64 a, .int .i64 t0, .int .i64 el] 41 (0, 0)) := by simpa [World.setCell] using blk_new ((W.setCell ⟨cb, 3, none⟩ (.int .i64 0)).setCell ⟨cb, 2, none⟩ (.int .i64 el)) (.cells #[sv, .int .i64 2, .int .i64 a, .int .i64 t0, .int .i64 el] 41)
    generalize ((W.setCell ⟨cb, 3, none⟩ (.int .i64 0)).setCell ⟨cb, 2, none⟩ (.int .i64 el)).alloc (.cells #[sv, .int .i64 2, .int .i64 a, .int .i64 t0, .int .i64 el] 41) = w1 at ht1 hc1 hb1 ⊢
    have cr := ht1.cell CR.out hne
    have c11 : w1.cell? ⟨cb, 1, none⟩ = some (.slice (some ⟨rb, 0, none⟩) n n) := (blk_cell hc1 1).trans rfl
    have f11 := blk_frozen hc1 1
    have c12 : w1.cell? ⟨cb, 2, none⟩ = some (.int .i64 el) := (blk_cell hc1 2).trans rfl
    have f12 := blk_frozen hc1 2
    have c22 : w1.cell? ⟨W.heap.size, 2, none⟩ = some (.int .i64 a) := (blk_cell hb1 2).trans rfl
    have c23 : w1.cell? ⟨W.heap.size, 3, none⟩ = some (.int .i64 t0) := (blk_cell hb1 3).trans rfl
    have HC1 := Aside0.mk hc1
    have HT1 := Aside0.mk ht1
    clear hc1 ht1 hb1
    go_quiet (fail)
    go_wp2
    go_ret
    exact ⟨rfl, blk_put (blk_drewN HC1.out _) 2 _ (by simp [fC]), (HT1.out.drewN _).set (S := one cb) (.inl (one_self cb)) _⟩
end Go.Proofs.Ytabkinlpbefjgaa.L

namespace Go.Proofs.Ytabkinlpbefjgaa.L
open Go.RowKit Go.Proofs.Ytabkinlpbefjgaa.X Go.Proofs.YtabkinlpbefjgaaW.PrintWords Go.Proofs.YtabkinlpbefjgaaW.PrintLast Go.Proofs.YtabkinlpbefjgaaW.PrintMore
attribute [local go_sem] max2_int min2_int max_two min_two max_three min_three max_four min_four   -- for this text's walks alone
set_option linter.unusedVariables false
set_option linter.unusedSimpArgs false
def kptr : Kd Nat := Kd.scalar (fun g : Nat => .pointer (some ⟨g, 0, none⟩)) (fun _ => rfl)
set_option maxHeartbeats 4000000 in
set_option maxRecDepth 100000 in
theorem leave_main (E : Env) (m : MV) (W : World) (g : Nat) (ab cap : Nat) (hcv : m.cv = .slice (some ⟨ab, 0, none⟩) 1 cap) (hcap : 1 ≤ cap) (hb : W.heap[g]? = some (.cells (mC E m) 54 (0, 0))) (cp : Value) (v : Int) :
    Calls Try.prog 39 #[.pointer (some ⟨g, 0, none⟩), cp, .int .i32 v] W fun e w' => e = .returned (.bool true) ∧ Turned W w' g (mC E { m with cv := .slice (some ⟨ab, 0, none⟩) 0 cap, va := v }) 54 := by
  have HB := Aside0.mk hb
  rw [show mC E m = mC E { m with cv := .slice (some ⟨ab, 0, none⟩) 1 cap } from by rw [← hcv]] at hb
  have cm0 : W.cell? ⟨g, 0, none⟩ = some (.map (some E.fm)) := (blk_cell hb 0).trans rfl; have fm0 := blk_frozen hb 0; have cm1 : W.cell? ⟨g, 1, none⟩ = some (.map (some E.wm)) := (blk_cell hb 1).trans rfl; have fm1 := blk_frozen hb 1; have cm2 : W.cell? ⟨g, 2, none⟩ = some (E.iv) := (blk_cell hb 2).trans rfl; have fm2 := blk_frozen hb 2; have cm3 : W.cell? ⟨g, 3, none⟩ = some (.int .i64 E.fuel) := (blk_cell hb 3).trans rfl; have fm3 := blk_frozen hb 3; have cm4 : W.cell? ⟨g, 4, none⟩ = some (.slice (some ⟨ab, 0, none⟩) 1 cap) := (blk_cell hb 4).trans rfl; have fm4 := blk_frozen hb 4; have cm5 : W.cell? ⟨g, 5, none⟩ = some (.int .i64 m.en) := (blk_cell hb 5).trans rfl; have fm5 := blk_frozen hb 5; have cm6 : W.cell? ⟨g, 6, none⟩ = some (.int .i32 m.va) := (blk_cell hb 6).trans rfl; have fm6 := blk_frozen hb 6; have cm7 : W.cell? ⟨g, 7, none⟩ = some (m.tv) := (blk_cell hb 7).trans rfl; have fm7 := blk_frozen hb 7; have cm8 : W.cell? ⟨g, 8, none⟩ = some (.int .i64 (m.st : Int)) := (blk_cell hb 8).trans rfl; have fm8 := blk_frozen hb 8; have cm9 : W.cell? ⟨g, 9, none⟩ = some (.int .i64 (m.rd : Int)) := (blk_cell hb 9).trans rfl; have fm9 := blk_frozen hb 9
  clear hb hcv
  have q0 : IntKind.i64.wrap 0 = 0 := by decide
  go_enter Try.func39, Try.ntmps39
  go_wp2
  go_still_tail 14, (by kernel_rfl)
  go_wp2
  go_ret
  refine ⟨rfl, ?_, ?_⟩
  · exact blk_drew (blk_put (blk_set HB.out 4 _) 6 _ (by simp [mC]))
  · exact (((Tr.refl (one g) W).set (.inl (one_self g)) _).set (.inl (one_self g)) _).drew
set_option maxHeartbeats 4000000 in
set_option maxRecDepth 100000 in
theorem leave_none (E : Env) (m : MV) (W : World) (g : Nat) (ab k cap : Nat) (hcv : m.cv = .slice (some ⟨ab, 0, none⟩) (k + 1) cap) (hk : 0 < k) (hk2 : k ≤ 100) (hcap : k + 1 ≤ cap) (hb : W.heap[g]? = some (.cells (mC E m) 54 (0, 0))) (cb : Nat) (fp : Addr) (rb n : Nat) (blk ins d : Int) (hc : W.heap[cb]? = some (.cells (fC fp rb n blk ins d) 70 (0, 0))) (hne : cb ≠ g) (hd : d < 0) (v : Int) :
    Calls Try.prog 39 #[.pointer (some ⟨g, 0, none⟩), .pointer (some ⟨cb, 0, none⟩), .int .i32 v] W fun e w' => e = .returned (.bool false) ∧ Turned W w' g (mC E { m with cv := .slice (some ⟨ab, 0, none⟩) k cap }) 54 := by
  have HB := Aside0.mk hb
  rw [show mC E m = mC E { m with cv := .slice (some ⟨ab, 0, none⟩) (k + 1) cap } from by rw [← hcv]] at hb
  have cm0 : W.cell? ⟨g, 0, none⟩ = some (.map (some E.fm)) := (blk_cell hb 0).trans rfl; have fm0 := blk_frozen hb 0; have cm1 : W.cell? ⟨g, 1, none⟩ = some (.map (some E.wm)) := (blk_cell hb 1).trans rfl; have fm1 := blk_frozen hb 1; have cm2 : W.cell? ⟨g, 2, none⟩ = some (E.iv) := (blk_cell hb 2).trans rfl; have fm2 := blk_frozen hb 2; have cm3 : W.cell? ⟨g, 3, none⟩ = some (.int .i64 E.fuel) := (blk_cell hb 3).trans rfl; have fm3 := blk_frozen hb 3; have cm4 : W.cell? ⟨g, 4, none⟩ = some (.slice (some ⟨ab, 0, none⟩) (k + 1) cap) := (blk_cell hb 4).trans rfl; have fm4 := blk_frozen hb 4; have cm5 : W.cell? ⟨g, 5, none⟩ = some (.int .i64 m.en) := (blk_cell hb 5).trans rfl; have fm5 := blk_frozen hb 5; have cm6 : W.cell? ⟨g, 6, none⟩ = some (.int .i32 m.va) := (blk_cell hb 6).trans rfl; have fm6 := blk_frozen hb 6; have cm7 : W.cell? ⟨g, 7, none⟩ = some (m.tv) := (blk_cell hb 7).trans rfl; have fm7 := blk_frozen hb 7; have cm8 : W.cell? ⟨g, 8, none⟩ = some (.int .i64 (m.st : Int)) := (blk_cell hb 8).trans rfl; have fm8 := blk_frozen hb 8; have cm9 : W.cell? ⟨g, 9, none⟩ = some (.int .i64 (m.rd : Int)) := (blk_cell hb 9).trans rfl; have fm9 := blk_frozen hb 9
  have cc0 : W.cell? ⟨cb, 0, none⟩ = some (.pointer (some fp)) := (blk_cell hc 0).trans rfl; have fc0 := blk_frozen hc 0; have cc1 : W.cell? ⟨cb, 1, none⟩ = some (.slice (some ⟨rb, 0, none⟩) n n) := (blk_cell hc 1).trans rfl; have fc1 := blk_frozen hc 1; have cc2 : W.cell? ⟨cb, 2, none⟩ = some (.int .i64 blk) := (blk_cell hc 2).trans rfl; have fc2 := blk_frozen hc 2; have cc3 : W.cell? ⟨cb, 3, none⟩ = some (.int .i64 ins) := (blk_cell hc 3).trans rfl; have fc3 := blk_frozen hc 3; have cc4 : W.cell? ⟨cb, 4, none⟩ = some (.int .i64 d) := (blk_cell hc 4).trans rfl; have fc4 := blk_frozen hc 4
  clear hb hcv hc
  have q0 : IntKind.i64.wrap (k : Int) = (k : Int) := IntWalk.i64_in _ (by omega)
  have hcap2 : k ≤ cap := by omega
  have hcap3 : (k : Int) ≤ (cap : Int) := by omega
  have q1 : ((k : Int) == 0) = false := by rw [beq_eq_false_iff_ne]; omega
  go_enter Try.func39, Try.ntmps39
  go_wp2
  go_still_tail 14, (by kernel_rfl)
  go_wp2
  clear cm0 fm0 cm1 fm1 cm2 fm2 cm3 fm3 cm4 fm4 cm5 fm5 cm6 fm6 cm7 fm7 cm8 fm8 cm9 fm9
  clear cc0 fc0 cc1 fc1 cc2 fc2 cc3 fc3 cc4 fc4
  go_ret
  refine ⟨rfl, ?_, ?_⟩
  · exact blk_drew (blk_put HB.out 4 _ (by simp [mC]))
  · exact ((Tr.refl (one g) W).set (.inl (one_self g)) _).drew
set_option maxHeartbeats 4000000 in
set_option maxRecDepth 100000 in
theorem leave_give (E : Env) (m : MV) (W : World) (g : Nat) (ab k cap : Nat) (hcv : m.cv = .slice (some ⟨ab, 0, none⟩) (k + 1) cap) (hk : 0 < k) (hk2 : k ≤ 100) (hcap : k + 1 ≤ cap) (hb : W.heap[g]? = some (.cells (mC E m) 54 (0, 0))) (cb : Nat) (fp : Addr) (rb n : Nat) (blk ins d : Int) (hc : W.heap[cb]? = some (.cells (fC fp rb n blk ins d) 70 (0, 0))) (hne : cb ≠ g) (hd : 0 ≤ d) (v : Int) (cb2 : Nat) (hat : W.cell? ⟨ab, k - 1, none⟩ = some (.pointer (some ⟨cb2, 0, none⟩))) (hab : ab ≠ g) (fp2 : Addr) (rb2 n2 : Nat) (blk2 ins2 d2 : Int) (hc2 : W.heap[cb2]? = some (.cells (fC fp2 rb2 n2 blk2 ins2 d2) 70 (0, 0))) (hne2 : cb2 ≠ g)
    (regs2 : List Int) (hr2 : W.heap[rb2]? = some (.cells (row32 regs2) 21 (0, 0))) (hn2 : regs2.length = n2) (hrg : rb2 ≠ g) (hdn : d < n2) :
    Calls Try.prog 39 #[.pointer (some ⟨g, 0, none⟩), .pointer (some ⟨cb, 0, none⟩), .int .i32 v] W fun e w' => e = .returned (.bool false) ∧ w'.heap[g]? = some (.cells (mC E { m with cv := .slice (some ⟨ab, 0, none⟩) k cap }) 54 (0, 0)) ∧ w'.heap[rb2]? = some (.cells (row32 (put32 regs2 d v)) 21 (0, 0)) ∧ Tr (fun q => q = g ∨ q = rb2) W w' := by
  have HB := Aside0.mk hb
  rw [show mC E m = mC E { m with cv := .slice (some ⟨ab, 0, none⟩) (k + 1) cap } from by rw [← hcv]] at hb
  have cm0 : W.cell? ⟨g, 0, none⟩ = some (.map (some E.fm)) := (blk_cell hb 0).trans rfl; have fm0 := blk_frozen hb 0; have cm1 : W.cell? ⟨g, 1, none⟩ = some (.map (some E.wm)) := (blk_cell hb 1).trans rfl; have fm1 := blk_frozen hb 1; have cm2 : W.cell? ⟨g, 2, none⟩ = some (E.iv) := (blk_cell hb 2).trans rfl; have fm2 := blk_frozen hb 2; have cm3 : W.cell? ⟨g, 3, none⟩ = some (.int .i64 E.fuel) := (blk_cell hb 3).trans rfl; have fm3 := blk_frozen hb 3; have cm4 : W.cell? ⟨g, 4, none⟩ = some (.slice (some ⟨ab, 0, none⟩) (k + 1) cap) := (blk_cell hb 4).trans rfl; have fm4 := blk_frozen hb 4; have cm5 : W.cell? ⟨g, 5, none⟩ = some (.int .i64 m.en) := (blk_cell hb 5).trans rfl; have fm5 := blk_frozen hb 5; have cm6 : W.cell? ⟨g, 6, none⟩ = some (.int .i32 m.va) := (blk_cell hb 6).trans rfl; have fm6 := blk_frozen hb 6; have cm7 : W.cell? ⟨g, 7, none⟩ = some (m.tv) := (blk_cell hb 7).trans rfl; have fm7 := blk_frozen hb 7; have cm8 : W.cell? ⟨g, 8, none⟩ = some (.int .i64 (m.st : Int)) := (blk_cell hb 8).trans rfl; have fm8 := blk_frozen hb 8; have cm9 : W.cell? ⟨g, 9, none⟩ = some (.int .i64 (m.rd : Int)) := (blk_cell hb 9).trans rfl; have fm9 := blk_frozen hb 9
  have cc0 : W.cell? ⟨cb, 0, none⟩ = some (.pointer (some fp)) := (blk_cell hc 0).trans rfl; have fc0 := blk_frozen hc 0; have cc1 : W.cell? ⟨cb, 1, none⟩ = some (.slice (some ⟨rb, 0, none⟩) n n) := (blk_cell hc 1).trans rfl; have fc1 := blk_frozen hc 1; have cc2 : W.cell? ⟨cb, 2, none⟩ = some (.int .i64 blk) := (blk_cell hc 2).trans rfl; have fc2 := blk_frozen hc 2; have cc3 : W.cell? ⟨cb, 3, none⟩ = some (.int .i64 ins) := (blk_cell hc 3).trans rfl; have fc3 := blk_frozen hc 3; have cc4 : W.cell? ⟨cb, 4, none⟩ = some (.int .i64 d) := (blk_cell hc 4).trans rfl; have fc4 := blk_frozen hc 4
  clear hb hcv hc
  have q0 : IntKind.i64.wrap (k : Int) = (k : Int) := IntWalk.i64_in _ (by omega)
  have hcap2 : k ≤ cap := by omega
  have hcap3 : (k : Int) ≤ (cap : Int) := by omega
  have q1 : ((k : Int) == 0) = false := by rw [beq_eq_false_iff_ne]; omega
  have q2 : IntKind.i64.wrap ((k : Int) - 1) = (k : Int) - 1 := IntWalk.i64_in _ (by omega)
  have q3 : ((k : Int) - 1).toNat = k - 1 := by omega
  have q4 : 0 ≤ (k : Int) - 1 := by omega
  have q6 : 1 ≤ (k : Int) := by omega
  have q7 : 1 ≤ k := by omega
  have q5 : (k : Int) - 1 < (k : Int) := by omega
  have c21 : W.cell? ⟨cb2, 1, none⟩ = some (.slice (some ⟨rb2, 0, none⟩) n2 n2) := (blk_cell hc2 1).trans rfl
  have f21 := blk_frozen hc2 1
  have cr := row32_cell hr2 d hd (by omega)
  have fr := row32_frozen hr2 d
  have HR := Aside0.mk hr2
  have HCD := Aside0.mk cc4
  clear hc2 hr2 hn2
  go_enter Try.func39, Try.ntmps39
  go_wp2
  go_still_tail 14, (by kernel_rfl)
  go_wp2
  clear cm0 fm0 cm1 fm1 cm2 fm2 cm3 fm3 cm4 fm4 cm5 fm5 cm6 fm6 cm7 fm7 cm8 fm8 cm9 fm9
  clear cc0 fc0 cc1 fc1 cc2 fc2 cc3 fc3 cc4 fc4
  clear f21 fr
  have ht1 : Tr (one g) W ((W.setCell ⟨g, 4, none⟩ (.slice (some ⟨ab, 0, none⟩) k cap)).drew) := ((Tr.refl (one g) W).set (.inl (one_self g)) _).drew
  have hb1 : ((W.setCell ⟨g, 4, none⟩ (.slice (some ⟨ab, 0, none⟩) k cap)).drew).heap[g]? = some (.cells (mC E { m with cv := .slice (some ⟨ab, 0, none⟩) k cap }) 54 (0, 0)) := blk_drew (blk_put HB.out 4 _ (by simp [mC]))
  generalize (W.setCell ⟨g, 4, none⟩ (.slice (some ⟨ab, 0, none⟩) k cap)).drew = w1 at ht1 hb1 ⊢
  have e21 := ht1.cell c21 hne2
  have eat := ht1.cell hat hab
  have er := ht1.cell cr hrg
  have hr1 := ht1.blk HR.out hrg
  have gr := row32_frozen hr1 d
  have ecv : w1.cell? ⟨g, 4, none⟩ = some (.slice (some ⟨ab, 0, none⟩) k cap) := (blk_cell hb1 4).trans rfl
  have ed := ht1.cell HCD.out hne
  clear c21 hat cr
  have HB1 := Aside0.mk hb1
  have HT1 := Aside0.mk ht1
  have HR1 := Aside0.mk hr1
  clear hb1 ht1 hr1
  go_still_tail 21, (by kernel_rfl)
  go_wp2
  go_ret
  refine ⟨rfl, ?_, ?_, ?_⟩
  · exact blk_drew (blk_far HB1.out (fun h => hrg h.symm) _)
  · exact blk_drew (row32_put HR1.out d v)
  · exact ((HT1.out.mono (fun q hq => .inl hq)).set (S := fun q => q = g ∨ q = rb2) (.inl (.inr rfl)) _).drew
end Go.Proofs.Ytabkinlpbefjgaa.L

namespace Go.Proofs.Ytabkinlpbefjgaa.L
open Go.RowKit Go.Proofs.Ytabkinlpbefjgaa.X Go.Proofs.YtabkinlpbefjgaaW.PrintWords Go.Proofs.YtabkinlpbefjgaaW.PrintLast Go.Proofs.YtabkinlpbefjgaaW.PrintMore
attribute [local go_sem] max2_int min2_int max_two min_two max_three min_three max_four min_four   -- for this text's walks alone
set_option linter.unusedVariables false
set_option linter.unusedSimpArgs false
set_option maxHeartbeats 4000000 in
set_option maxRecDepth 100000 in
theorem end_ret (fp : Addr) (rb : Nat) (regs : List Int) (n : Nat) (hn : regs.length = n) (blk ins d : Int) (W : World) (mp : Value) (cb : Nat) (hc : W.heap[cb]? = some (.cells (fC fp rb n blk ins d) 70 (0, 0))) (hr : W.heap[rb]? = some (.cells (row32 regs) 21 (0, 0)))
    (hne : rb ≠ cb) (sv : Value) (hsv : sv.oneCell' = true) (a t0 el : Int) (ha0 : 0 ≤ a) (ha1 : a < n) (b : Bool) (P : World → Prop)
    (hL : ∀ w1, Turned W w1 cb (fC fp rb n blk 0 d) 70 → Calls Try.prog 39 #[mp, .pointer (some ⟨cb, 0, none⟩), .int .i32 (get32 regs a)] w1 fun e w' => e = .returned (.bool b) ∧ P w') :
    Calls Try.prog 27 #[mp, .pointer (some ⟨cb, 0, none⟩), .agg #[sv, .int .i64 3, .int .i64 a, .int .i64 t0, .int .i64 el]] W fun e w' => e = .returned (.bool b) ∧ P w' := by
  have cc0 : W.cell? ⟨cb, 0, none⟩ = some (.pointer (some fp)) := (blk_cell hc 0).trans rfl; have fc0 := blk_frozen hc 0; have cc1 : W.cell? ⟨cb, 1, none⟩ = some (.slice (some ⟨rb, 0, none⟩) n n) := (blk_cell hc 1).trans rfl; have fc1 := blk_frozen hc 1; have cc2 : W.cell? ⟨cb, 2, none⟩ = some (.int .i64 blk) := (blk_cell hc 2).trans rfl; have fc2 := blk_frozen hc 2; have cc3 : W.cell? ⟨cb, 3, none⟩ = some (.int .i64 ins) := (blk_cell hc 3).trans rfl; have fc3 := blk_frozen hc 3; have cc4 : W.cell? ⟨cb, 4, none⟩ = some (.int .i64 d) := (blk_cell hc 4).trans rfl; have fc4 := blk_frozen hc 4
  have cr := row32_cell hr a ha0 (by omega)
  obtain ⟨v, hv⟩ : ∃ v, get32 regs a = v := ⟨_, rfl⟩
  rw [hv] at cr hL
  have HC := Aside0.mk hc
  have hlt := blk_lt hc
  have hlt2 := blk_lt hr
  have HL := Aside0.mk hL
  clear hc hr hv hn hL
  have CR := Aside0.mk cr
  go_enter Try.func27, Try.ntmps27
  go_wp2
  clear cc0 fc0 cc1 fc1 cc2 fc2 cc3 fc3 cc4 fc4
  clear cr
  have ht1 : Tr (one cb) W ((W.setCell ⟨cb, 3, none⟩ (.int .i64 0)).alloc (.cells #[sv, .int .i64 3, .int .i64 a, .int .i64 t0, .int .i64 el] 41)) := ((Tr.refl (one cb) W).set (.inl (one_self cb)) _).alloc _
  have hc1 : ((W.setCell ⟨cb, 3, none⟩ (.int .i64 0)).alloc (.cells #[sv, .int .i64 3, .int .i64 a, .int .i64 t0, .int .i64 el] 41)).heap[cb]? = some (.cells (fC fp rb n blk 0 d) 70 (0, 0)) := blk_alloc (blk_put HC.out 3 _ (by simp [fC])) _
  have hb1 : ((W.setCell ⟨cb, 3, none⟩ (.int .i64 0)).alloc (.cells #[sv, .int .i64 3, .int .i64 a, .int .i64 t0, .int .i64 el] 41)).heap[W.heap.size]? = some (.cells #[sv, .int .i64 3, .int .i64 a, .int .i64 t0, .int .i64 el] 41 (0, 0)) := by simpa [World.setCell] using blk_new (W.setCell ⟨cb, 3, none⟩ (.int .i64 0)) (.cells #[sv, .int .i64 3, .int .i64 a, .int .i64 t0, .int .i64 el] 41)
  generalize (W.setCell ⟨cb, 3, none⟩ (.int .i64 0)).alloc (.cells #[sv, .int .i64 3, .int .i64 a, .int .i64 t0, .int .i64 el] 41) = w1 at ht1 hc1 hb1 ⊢
  have cr := ht1.cell CR.out hne
  have c11 : w1.cell? ⟨cb, 1, none⟩ = some (.slice (some ⟨rb, 0, none⟩) n n) := (blk_cell hc1 1).trans rfl
  have c22 : w1.cell? ⟨W.heap.size, 2, none⟩ = some (.int .i64 a) := (blk_cell hb1 2).trans rfl
  have HC1 := Aside0.mk hc1
  have HT1 := Aside0.mk ht1
  clear hc1 ht1 hb1
  go_still_tail 10, (by kernel_rfl)
  go_wp2_with (go_at_call 39; (with_reducible refine (HL.out _ ?hL).mono ?_); (case hL => exact ⟨blk_drew HC1.out, HT1.out.drew⟩); rintro e w2 ⟨rfl, hp⟩; have HP := Aside0.mk hp; clear hp)
  go_ret
  exact ⟨rfl, HP.out⟩
end Go.Proofs.Ytabkinlpbefjgaa.L

namespace Go.Proofs.Ytabkinlpbefjgaa.L
open Go.RowKit Go.Proofs.Ytabkinlpbefjgaa.X Go.Proofs.YtabkinlpbefjgaaW.PrintWords Go.Proofs.YtabkinlpbefjgaaW.PrintLast Go.Proofs.YtabkinlpbefjgaaW.PrintMore
attribute [local go_sem] max2_int min2_int max_two min_two max_three min_three max_four min_four   -- for this text's walks alone
set_option linter.unusedVariables false
set_option linter.unusedSimpArgs false
def MapAt (t : TypeId) (b : Nat) (W : World) (key : ByteArray) (v : Value) : Prop := ∀ W' : World, W'.heap[b]? = W.heap[b]? → (Instr.lookup t (.map (some b)) (.string key) false).run Try.prog W' = .ok v W'
def xC (x : S44) (av : Value) : Array Value := #[.int .i64 x.f0, .int .i64 x.f1, .int .i64 x.f2, .int .i64 x.f3, .int .i64 x.f4, .int .i32 x.f5, .string x.f6, av]
set_option maxHeartbeats 4000000 in
set_option maxRecDepth 100000 in
theorem word_no (E : Env) (m : MV) (W : World) (g : Nat) (hb : W.heap[g]? = some (.cells (mC E m) 54 (0, 0))) (cp : Value) (x : S44) (av : Value) (hav : av.oneCell' = true) (wb n : Nat) (hm : MapAt 51 E.wm W x.f6 (.slice (some ⟨wb, 0, none⟩) n n)) (hmlt : E.wm < W.heap.size)
    (hx : x.f3 < 0) (hn : 0 < n) :
    Calls Try.prog 37 #[.pointer (some ⟨g, 0, none⟩), cp, .agg (xC x av)] W fun e w' => e = .returned (.pointer (some ⟨wb, 0, none⟩)) ∧ Tr nil_ W w' := by
  have hlt := blk_lt hb
  have HB := Aside0.mk hb
  have HM := Aside0.mk hm
  clear hm hb
  unfold xC
  go_enter Try.func37, Try.ntmps37
  go_wp2
  have ht1 : Tr nil_ W (W.alloc (.cells #[.int .i64 x.f0, .int .i64 x.f1, .int .i64 x.f2, .int .i64 x.f3, .int .i64 x.f4, .int .i32 x.f5, .string x.f6, av] 44)) := (Tr.refl nil_ W).alloc _
  have hb1 : (W.alloc (.cells #[.int .i64 x.f0, .int .i64 x.f1, .int .i64 x.f2, .int .i64 x.f3, .int .i64 x.f4, .int .i32 x.f5, .string x.f6, av] 44)).heap[g]? = some (.cells (mC E m) 54 (0, 0)) := blk_alloc HB.out _
  have hx1 : (W.alloc (.cells #[.int .i64 x.f0, .int .i64 x.f1, .int .i64 x.f2, .int .i64 x.f3, .int .i64 x.f4, .int .i32 x.f5, .string x.f6, av] 44)).heap[W.heap.size]? = some (.cells (xC x av) 44 (0, 0)) := blk_new _ _
  have hm1 : (W.alloc (.cells #[.int .i64 x.f0, .int .i64 x.f1, .int .i64 x.f2, .int .i64 x.f3, .int .i64 x.f4, .int .i32 x.f5, .string x.f6, av] 44)).heap[E.wm]? = W.heap[E.wm]? := Below.heap_alloc _ _ _ hmlt
  generalize W.alloc (.cells #[.int .i64 x.f0, .int .i64 x.f1, .int .i64 x.f2, .int .i64 x.f3, .int .i64 x.f4, .int .i32 x.f5, .string x.f6, av] 44) = w1 at ht1 hb1 hx1 hm1 ⊢
  have c1 : w1.cell? ⟨g, 1, none⟩ = some (.map (some E.wm)) := (blk_cell hb1 1).trans rfl
  have c6 : w1.cell? ⟨W.heap.size, 6, none⟩ = some (.string x.f6) := (blk_cell hx1 6).trans rfl
  have c3 : w1.cell? ⟨W.heap.size, 3, none⟩ = some (.int .i64 x.f3) := (blk_cell hx1 3).trans rfl
  have c0 : ∀ k, (Instr.lookup 51 (.map (some E.wm)) (.string x.f6) false).run Try.prog (w1.drewN k) = .ok (.slice (some ⟨wb, 0, none⟩) n n) (w1.drewN k) := fun k => HM.out _ hm1
  have HT1 := Aside0.mk ht1
  clear ht1 hb1 hx1 hm1
  go_quiet (fail)
  go_wp2
  go_ret
  exact ⟨rfl, HT1.out.drewN _⟩
set_option maxHeartbeats 4000000 in
set_option maxRecDepth 100000 in
theorem word_at (E : Env) (m : MV) (W : World) (g : Nat) (hb : W.heap[g]? = some (.cells (mC E m) 54 (0, 0))) (cb : Nat) (fp : Addr) (rb n0 : Nat) (blk ins d : Int) (hc : W.heap[cb]? = some (.cells (fC fp rb n0 blk ins d) 70 (0, 0))) (regs : List Int) (hr : W.heap[rb]? = some (.cells (row32 regs) 21 (0, 0))) (hn0 : regs.length = n0) (x : S44) (av : Value) (hav : av.oneCell' = true) (wb n : Nat) (hm : MapAt 51 E.wm W x.f6 (.slice (some ⟨wb, 0, none⟩) n n)) (hmlt : E.wm < W.heap.size)
    (hx0 : 0 ≤ x.f3) (hx1 : x.f3 < n0) (hi0 : 0 ≤ get32 regs x.f3) (hi1 : get32 regs x.f3 < n) (hnb : n ≤ 1000000) (hw0 : -2147483648 ≤ get32 regs x.f3) (hw1 : get32 regs x.f3 ≤ 2147483647) :
    Calls Try.prog 37 #[.pointer (some ⟨g, 0, none⟩), .pointer (some ⟨cb, 0, none⟩), .agg (xC x av)] W fun e w' => e = .returned (.pointer (some ⟨wb, (get32 regs x.f3).toNat, none⟩)) ∧ Tr nil_ W w' := by
  have cc0 : W.cell? ⟨cb, 0, none⟩ = some (.pointer (some fp)) := (blk_cell hc 0).trans rfl; have fc0 := blk_frozen hc 0; have cc1 : W.cell? ⟨cb, 1, none⟩ = some (.slice (some ⟨rb, 0, none⟩) n0 n0) := (blk_cell hc 1).trans rfl; have fc1 := blk_frozen hc 1; have cc2 : W.cell? ⟨cb, 2, none⟩ = some (.int .i64 blk) := (blk_cell hc 2).trans rfl; have fc2 := blk_frozen hc 2; have cc3 : W.cell? ⟨cb, 3, none⟩ = some (.int .i64 ins) := (blk_cell hc 3).trans rfl; have fc3 := blk_frozen hc 3; have cc4 : W.cell? ⟨cb, 4, none⟩ = some (.int .i64 d) := (blk_cell hc 4).trans rfl; have fc4 := blk_frozen hc 4
  have cr := row32_cell hr x.f3 hx0 (by omega)
  have hltc := blk_lt hc
  have hltr := blk_lt hr
  obtain ⟨v, hv⟩ : ∃ v, get32 regs x.f3 = v := ⟨_, rfl⟩
  rw [hv] at cr hi0 hi1 hw0 hw1 ⊢
  clear hc hr hn0 hv
  have hlt := blk_lt hb
  have HB := Aside0.mk hb
  have HM := Aside0.mk hm
  clear hm hb
  unfold xC
  go_enter Try.func37, Try.ntmps37
  go_wp2
  have ht1 : Tr nil_ W (W.alloc (.cells #[.int .i64 x.f0, .int .i64 x.f1, .int .i64 x.f2, .int .i64 x.f3, .int .i64 x.f4, .int .i32 x.f5, .string x.f6, av] 44)) := (Tr.refl nil_ W).alloc _
  have hb1 : (W.alloc (.cells #[.int .i64 x.f0, .int .i64 x.f1, .int .i64 x.f2, .int .i64 x.f3, .int .i64 x.f4, .int .i32 x.f5, .string x.f6, av] 44)).heap[g]? = some (.cells (mC E m) 54 (0, 0)) := blk_alloc HB.out _
  have hx1 : (W.alloc (.cells #[.int .i64 x.f0, .int .i64 x.f1, .int .i64 x.f2, .int .i64 x.f3, .int .i64 x.f4, .int .i32 x.f5, .string x.f6, av] 44)).heap[W.heap.size]? = some (.cells (xC x av) 44 (0, 0)) := blk_new _ _
  have hm1 : (W.alloc (.cells #[.int .i64 x.f0, .int .i64 x.f1, .int .i64 x.f2, .int .i64 x.f3, .int .i64 x.f4, .int .i32 x.f5, .string x.f6, av] 44)).heap[E.wm]? = W.heap[E.wm]? := Below.heap_alloc _ _ _ hmlt
  generalize W.alloc (.cells #[.int .i64 x.f0, .int .i64 x.f1, .int .i64 x.f2, .int .i64 x.f3, .int .i64 x.f4, .int .i32 x.f5, .string x.f6, av] 44) = w1 at ht1 hb1 hx1 hm1 ⊢
  have e1 := ht1.cell cc1 (fun h => h)
  have er := ht1.cell cr (fun h => h)
  clear cc0 fc0 cc1 fc1 cc2 fc2 cc3 fc3 cc4 fc4
  clear cr
  have c1 : w1.cell? ⟨g, 1, none⟩ = some (.map (some E.wm)) := (blk_cell hb1 1).trans rfl
  have c6 : w1.cell? ⟨W.heap.size, 6, none⟩ = some (.string x.f6) := (blk_cell hx1 6).trans rfl
  have c3 : w1.cell? ⟨W.heap.size, 3, none⟩ = some (.int .i64 x.f3) := (blk_cell hx1 3).trans rfl
  have c0 : ∀ k, (Instr.lookup 51 (.map (some E.wm)) (.string x.f6) false).run Try.prog (w1.drewN k) = .ok (.slice (some ⟨wb, 0, none⟩) n n) (w1.drewN k) := fun k => HM.out _ hm1
  have HT1 := Aside0.mk ht1
  clear ht1 hb1 hx1 hm1
  go_quiet (fail)
  go_wp2
  go_quiet (fail)
  go_wp2
  go_ret
  exact ⟨rfl, HT1.out.drewN _⟩
set_option maxHeartbeats 4000000 in
set_option maxRecDepth 100000 in
theorem word_out (E : Env) (m : MV) (W : World) (g : Nat) (hb : W.heap[g]? = some (.cells (mC E m) 54 (0, 0))) (cb : Nat) (fp : Addr) (rb n0 : Nat) (blk ins d : Int) (hc : W.heap[cb]? = some (.cells (fC fp rb n0 blk ins d) 70 (0, 0))) (regs : List Int) (hr : W.heap[rb]? = some (.cells (row32 regs) 21 (0, 0))) (hn0 : regs.length = n0) (x : S44) (av : Value) (hav : av.oneCell' = true) (wb n : Nat) (hm : MapAt 51 E.wm W x.f6 (.slice (some ⟨wb, 0, none⟩) n n)) (hmlt : E.wm < W.heap.size)
    (hx0 : 0 ≤ x.f3) (hx1 : x.f3 < n0) (hi : get32 regs x.f3 < 0 ∨ n ≤ get32 regs x.f3) (hnb : n ≤ 1000000) (hw0 : -2147483648 ≤ get32 regs x.f3) (hw1 : get32 regs x.f3 ≤ 2147483647) :
    Calls Try.prog 37 #[.pointer (some ⟨g, 0, none⟩), .pointer (some ⟨cb, 0, none⟩), .agg (xC x av)] W fun e w' => e = .panicked [{ v := .iface 66 (.int .i64 3), recovered := false }] ∧ Tr nil_ W w' := by
  have cc0 : W.cell? ⟨cb, 0, none⟩ = some (.pointer (some fp)) := (blk_cell hc 0).trans rfl; have fc0 := blk_frozen hc 0; have cc1 : W.cell? ⟨cb, 1, none⟩ = some (.slice (some ⟨rb, 0, none⟩) n0 n0) := (blk_cell hc 1).trans rfl; have fc1 := blk_frozen hc 1; have cc2 : W.cell? ⟨cb, 2, none⟩ = some (.int .i64 blk) := (blk_cell hc 2).trans rfl; have fc2 := blk_frozen hc 2; have cc3 : W.cell? ⟨cb, 3, none⟩ = some (.int .i64 ins) := (blk_cell hc 3).trans rfl; have fc3 := blk_frozen hc 3; have cc4 : W.cell? ⟨cb, 4, none⟩ = some (.int .i64 d) := (blk_cell hc 4).trans rfl; have fc4 := blk_frozen hc 4
  have cr := row32_cell hr x.f3 hx0 (by omega)
  have hltc := blk_lt hc
  have hltr := blk_lt hr
  obtain ⟨v, hv⟩ : ∃ v, get32 regs x.f3 = v := ⟨_, rfl⟩
  rw [hv] at cr hi hw0 hw1
  clear hc hr hn0 hv
  have hlt := blk_lt hb
  have HB := Aside0.mk hb
  have HM := Aside0.mk hm
  clear hm hb
  unfold xC
  go_enter Try.func37, Try.ntmps37
  go_wp2
  have ht1 : Tr nil_ W (W.alloc (.cells #[.int .i64 x.f0, .int .i64 x.f1, .int .i64 x.f2, .int .i64 x.f3, .int .i64 x.f4, .int .i32 x.f5, .string x.f6, av] 44)) := (Tr.refl nil_ W).alloc _
  have hb1 : (W.alloc (.cells #[.int .i64 x.f0, .int .i64 x.f1, .int .i64 x.f2, .int .i64 x.f3, .int .i64 x.f4, .int .i32 x.f5, .string x.f6, av] 44)).heap[g]? = some (.cells (mC E m) 54 (0, 0)) := blk_alloc HB.out _
  have hx1 : (W.alloc (.cells #[.int .i64 x.f0, .int .i64 x.f1, .int .i64 x.f2, .int .i64 x.f3, .int .i64 x.f4, .int .i32 x.f5, .string x.f6, av] 44)).heap[W.heap.size]? = some (.cells (xC x av) 44 (0, 0)) := blk_new _ _
  have hm1 : (W.alloc (.cells #[.int .i64 x.f0, .int .i64 x.f1, .int .i64 x.f2, .int .i64 x.f3, .int .i64 x.f4, .int .i32 x.f5, .string x.f6, av] 44)).heap[E.wm]? = W.heap[E.wm]? := Below.heap_alloc _ _ _ hmlt
  generalize W.alloc (.cells #[.int .i64 x.f0, .int .i64 x.f1, .int .i64 x.f2, .int .i64 x.f3, .int .i64 x.f4, .int .i32 x.f5, .string x.f6, av] 44) = w1 at ht1 hb1 hx1 hm1 ⊢
  have e1 := ht1.cell cc1 (fun h => h)
  have er := ht1.cell cr (fun h => h)
  clear cc0 fc0 cc1 fc1 cc2 fc2 cc3 fc3 cc4 fc4
  clear cr
  have c1 : w1.cell? ⟨g, 1, none⟩ = some (.map (some E.wm)) := (blk_cell hb1 1).trans rfl
  have c6 : w1.cell? ⟨W.heap.size, 6, none⟩ = some (.string x.f6) := (blk_cell hx1 6).trans rfl
  have c3 : w1.cell? ⟨W.heap.size, 3, none⟩ = some (.int .i64 x.f3) := (blk_cell hx1 3).trans rfl
  have c0 : ∀ k, (Instr.lookup 51 (.map (some E.wm)) (.string x.f6) false).run Try.prog (w1.drewN k) = .ok (.slice (some ⟨wb, 0, none⟩) n n) (w1.drewN k) := fun k => HM.out _ hm1
  have HT1 := Aside0.mk ht1
  clear ht1 hb1 hx1 hm1
  go_quiet (fail)
  go_wp2
  go_quiet (fail)
  rcases hi with hi | hi
  · go_wp2
    exact ⟨rfl, rfl, HT1.out.drewN _⟩
  · have hi2 : 0 ≤ v := by omega
    go_wp2
    exact ⟨rfl, rfl, HT1.out.drewN _⟩
end Go.Proofs.Ytabkinlpbefjgaa.L

