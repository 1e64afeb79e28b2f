/- Add: what a Hash holds behind it: the walk; at most 10^8 bytes each, the bytes are bytes. -/
import Derived.Test.YtijjopioamdahaaProg
import Derived.Below
import Derived.Deep.Draws
import Derived.Deep.AppendLies
import Derived.Maps.AppendAt
import Derived.OwnWalk
import Derived.Laws.BytesArg
import Derived.Laws.MakeOwn
import Derived.Laws.OwnMore
import Derived.Deep.OwnRows
import Derived.Tactics
import Derived.Lib.ConvBytes
import Derived.Laws.Slices
import Derived.WalkKit
import Derived.KernelRfl
import Derived.RowKit3
import Derived.Deep.LoopGhost
import Derived.Deep.QuietTactic
import Derived.BigQuiet
import Derived.WideLaws
import Derived.Deep.DeepCutAuto
import Derived.Deep.CutBlock
import Derived.Deep.RegionHeld3
import Derived.Laws.Rows
import Derived.Lib.AppendStr
import Derived.ArgAppend
import Derived.Laws.IdiomCopy
import Derived.OrdersHeld
import Derived.Laws.BitsLemmas
import Derived.RowKit
import Derived.Test.YtijjopioamdahaaWWords
import Derived.Test.YtijjopioamdahaaWLast
import Derived.Test.YtijjopioamdahaaWTab
import Derived.Test.YtijjopioamdahaaWQPut
import Derived.Test.YtijjopioamdahaaWApart
import Derived.Test.YtijjopioamdahaaWArr
import Derived.Test.YtijjopioamdahaaWZeros
import Derived.Test.YtijjopioamdahaaWFoot
import Derived.Test.YtijjopioamdahaaWKept
import Derived.Test.YtijjopioamdahaaWShare
import Derived.Test.YtijjopioamdahaaWN
import Derived.Test.YtijjopioamdahaaWEqStruct
import Derived.Test.YtijjopioamdahaaWGuard
import Derived.Test.YtijjopioamdahaaWNEv
import Derived.Test.YtijjopioamdahaaWMore
import Derived.Test.YtijjopioamdahaaX1
import Derived.Test.YtijjopioamdahaaDgA
import Derived.Test.YtijjopioamdahaaDgB
import Derived.Test.YtijjopioamdahaaDgC
import Derived.Test.YtijjopioamdahaaDgD
import Derived.Test.YtijjopioamdahaaDgE
import Derived.Deep.RegionLawGrows
import Derived.Deep.Upon
import Derived.Deep.MidRow
namespace Go.Proofs.Ytijjopioamdahaa.D
open Go.RowKit Go.Proofs.Ytijjopioamdahaa.X Go.Proofs.YtijjopioamdahaaW.PrintWords Go.Proofs.YtijjopioamdahaaW.PrintLast Go.Proofs.YtijjopioamdahaaW.PrintMore
attribute [local go_sem] max2_int min2_int max_two min_two max_three min_three max_four min_four   -- for this text's walks alone
set_option linter.unusedVariables false
set_option linter.unusedSimpArgs false
theorem gr_trans {w w1 w2 : World} {g : Nat} (h : w.grownBy w1 (some g)) (k : w1.grownBy w2 (some g)) : w.grownBy w2 (some g) :=
  ⟨k.os.trans h.os, k.tape.trans h.tape, k.output.trans h.output, Nat.le_trans h.size k.size, fun i hi hne => (k.block i (Nat.lt_of_lt_of_le hi h.size) hne).trans (h.block i hi hne)⟩
theorem gr_set (w : World) (g j : Nat) (v : Value) : w.grownBy (w.setCell ⟨g, j, none⟩ v) (some g) :=
  ⟨rfl, rfl, rfl, by simp [World.setCell], fun i _ hne => heap_setCell_other w ⟨g, j, none⟩ i v (fun e => hne (by rw [e]))⟩
theorem gr_drew {w w1 : World} {g : Nat} (h : w.grownBy w1 (some g)) : w.grownBy w1.drew (some g) := ⟨h.os, h.tape, h.output, h.size, h.block⟩
theorem gr_below {w w1 : World} {g : Nat} (h : Below w.heap.size w w1) : w.grownBy w1 (some g) := grown_of_below h _
theorem gr_none {w w1 : World} {g : Nat} (h : w.grownBy w1 none) : w.grownBy w1 (some g) := ⟨h.os, h.tape, h.output, h.size, fun i hi _ => h.block i hi (by simp)⟩
theorem hc_no8 (S : List Int) (A : Option Addr) (m c : Nat) (n x : Int) (i : Nat) : (hcells S (.slice A m c) n)[i]? ≠ some (.int .u8 x) := by
  unfold hcells
  rw [List.getElem?_toArray]
  intro h
  have hm := List.mem_of_getElem? h
  simp [nums] at hm
/-- A slice of bytes isn't a part of a Hash: it reads on where only that Hash was written. -/
theorem C_keep {w w' : World} {g : Nat} {S : List Int} {A0 : Option Addr} {m0 c0 : Nat} {n0 : Int} (hgr : w.grownBy w' (some g)) (hg : w.heap[g]? = some (.cells (hcells S (.slice A0 m0 c0) n0) 50 (0, 0))) {A : Option Addr} {xs : List Int}
    (h : Kd.C (Kd.int .u8) w A xs.length xs) : Kd.C (Kd.int .u8) w' A xs.length xs := by
  have h2 := Kd.reads_of_C (enc := Value.int .u8) (d := (0 : Int)) (h1 := fun _ => rfl) h
  refine Kd.C_of_reads (enc := Value.int .u8) (d := (0 : Int)) (h1 := fun _ => rfl) ⟨h2.1, h2.2.1, fun hn => ?_⟩
  obtain ⟨ad, e, hc⟩ := h2.2.2 hn
  refine ⟨ad, e, fun j hj => ?_⟩
  have hcj := hc j hj
  refine hgr.cell hcj (fun e2 => ?_)
  have eb : (ad.add j).block = g := by injection e2
  by_cases hs : (ad.add j).spot.isSome = true
  · simp [World.cell?, eb, hg, hs] at hcj
  · have : w.cell? (ad.add j) = (hcells S (.slice A0 m0 c0) n0)[(ad.add j).off]? := by simp [World.cell?, eb, hg, hs]
    rw [this] at hcj
    exact hc_no8 _ _ _ _ _ _ _ hcj
theorem hcells_set9 (S : List Int) (v : Value) (n m : Int) (h : S.length = 8) : (hcells S v n).setIfInBounds 9 (.int .i64 m) = hcells S v m := by
  have hn : (nums .u32 S).length = 8 := by rw [nums_length, h]
  unfold hcells
  rw [List.setIfInBounds_toArray, List.set_append, if_neg (by omega), hn]
  rfl
theorem cutFull (A : Option Addr) (n c : Nat) (hc : n ≤ c) (W : World) :
    (Instr.slice 22 (.slice A n c) none (some (.int .i64 (n : Int))) (some (.int .i64 (n : Int)))).run Try.prog W = .ok (.slice A n n) W := by
  obtain ⟨i, hi, _, hs, _⟩ := info_parts info5
  have hel : Try.prog.elem 22 = 5 := by kernel_rfl
  rw [run_slice_hm W 22 A n c (by rw [hel]; exact Try.underlying22) .i64 .i64 (n : Int) (n : Int) (by omega) (Int.le_refl _) (by omega), hel]
  simp [sizeOf, typeInfo, hi, hs, sliced, go_sem]
theorem cells_of {w : World} {A : Option Addr} {xs : List Int} (h : Kd.C (Kd.int .u8) w A xs.length xs) {b : Addr} (hb : A = some b) : ∀ j u, (nums .u8 xs)[j]? = some u → w.cell? (b.add j) = some u := by
  intro j u hj
  have hj2 : j < xs.length := by
    have := (List.getElem?_eq_some_iff.1 hj).1
    rwa [nums_length] at this
  obtain ⟨ad, he, hc⟩ := Kd.at_int h (j : Int) (by omega) (by omega)
  rw [hb] at he
  obtain rfl := Option.some.inj he
  have hu : u = .int .u8 (rd xs (j : Int)) := by
    unfold nums at hj
    rw [List.getElem?_map, List.getElem?_eq_getElem hj2] at hj
    unfold rd
    rw [Int.toNat_natCast, List.getD_eq_getElem?_getD, List.getElem?_eq_getElem hj2]
    exact (Option.some.inj hj).symm
  rw [hu]
  rw [Int.toNat_natCast] at hc
  exact hc
theorem list8 (S : List Int) (h : S.length = 8) : (#[.int .u32 (rd S 0), .int .u32 (rd S 1), .int .u32 (rd S 2), .int .u32 (rd S 3), .int .u32 (rd S 4), .int .u32 (rd S 5), .int .u32 (rd S 6), .int .u32 (rd S 7)] : Array Value) = u32s S := by
  match S, h with
  | [a, b, c, d, e, f, g, i], _ => rfl
def setAll (cs : Array Value) : Nat → List Value → Array Value
  | _, [] => cs
  | o, v :: r => setAll (cs.setIfInBounds o v) (o + 1) r
theorem setCells_blk (g : Nat) (t : TypeId) : ∀ (vs : List Value) (o : Nat) (cs : Array Value) (w : World), w.heap[g]? = some (.cells cs t (0, 0)) → (w.setCells g o vs).heap[g]? = some (.cells (setAll cs o vs) t (0, 0)) ∧ w.grownBy (w.setCells g o vs) (some g)
  | [], o, cs, w, h => ⟨h, World.grownBy.refl _ _⟩
  | v :: r, o, cs, w, h => by
    have h1 := setCells_blk g t r (o + 1) _ _ (blk_set h o v)
    exact ⟨h1.1, gr_trans (gr_set w g o v) h1.2⟩
theorem ex8 (S : List Int) (h : S.length = 8) : ∃ a b c d e f g i, S = [a, b, c, d, e, f, g, i] := by
  match S, h with
  | [a, b, c, d, e, f, g, i], _ => exact ⟨a, b, c, d, e, f, g, i, rfl⟩
theorem setAll_hash (S NB : List Int) (v : Value) (n : Int) (hS : S.length = 8) (hN : NB.length = 8) : setAll (hcells S v n) 0 (nums .u32 NB) = hcells NB v n := by
  obtain ⟨_, _, _, _, _, _, _, _, rfl⟩ := ex8 S hS
  obtain ⟨_, _, _, _, _, _, _, _, rfl⟩ := ex8 NB hN
  simp [setAll, hcells, nums]
theorem hash_setCells (w : World) (g : Nat) (S NB : List Int) (v : Value) (n : Int) (hS : S.length = 8) (hN : NB.length = 8) (hg : w.heap[g]? = some (.cells (hcells S v n) 50 (0, 0))) :
    (w.setCells g 0 (nums .u32 NB)).heap[g]? = some (.cells (hcells NB v n) 50 (0, 0)) ∧ w.grownBy (w.setCells g 0 (nums .u32 NB)) (some g) := by
  have h := setCells_blk g 50 (nums .u32 NB) 0 _ w hg
  rw [setAll_hash S NB v n hS hN] at h
  exact h
theorem hash_there (w : World) (g : Nat) (S : List Int) (v : Value) (n : Int) (hS : S.length = 8) (hg : w.heap[g]? = some (.cells (hcells S v n) 50 (0, 0))) : w.there g 0 8 := by
  intro j hj
  refine ⟨?_, blk_frozen hg _⟩
  rw [blk_cell hg, Nat.zero_add, (hcells_at S v n hS).1 j hj]
  rfl
theorem gr_row {w w1 : World} {g g5 : Nat} (h : w.grownBy w1 (some g)) (hb : w.heap.size ≤ g5) (cs : Array Value) : w.grownBy (w1.setRow g5 cs) (some g) :=
  ⟨h.os, h.tape, h.output, by have := h.size; simpa [World.setRow] using this, fun i hi hne => (setRow_other w1 g5 i cs (by omega)).trans (h.block i hi hne)⟩
theorem hash_setCells2 (w : World) (g : Nat) (S NB : List Int) (v : Value) (n : Int) (hS : S.length = 8) (hN : NB.length = 8) (hg : w.heap[g]? = some (.cells (hcells S v n) 50 (0, 0))) :
    (w.setCells g 0 (u32s NB).toList).heap[g]? = some (.cells (hcells NB v n) 50 (0, 0)) ∧ w.grownBy (w.setCells g 0 (u32s NB).toList) (some g) := hash_setCells w g S NB v n hS hN hg
theorem hcells_set8 (S : List Int) (v v' : Value) (n : Int) (h : S.length = 8) : (hcells S v n).setIfInBounds 8 v' = hcells S v' n := by
  have hn : (nums .u32 S).length = 8 := by rw [nums_length, h]
  unfold hcells
  rw [List.setIfInBounds_toArray, List.set_append, if_neg (by omega), hn]
  rfl
/-- What Add leaves: the Hash's new cells, what is left reads, nothing else has changed. -/
def AddPost (g : Nat) (S ys : List Int) (m : Int) (w : World) (e : Ending) (w' : World) : Prop :=
  e = .returned (.tuple #[]) ∧ ∃ A3 c3, w'.heap[g]? = some (.cells (hcells (blkN S ys (ys.length / 64)) (.slice A3 (ys.drop (64 * (ys.length / 64))).length c3) m) 50 (0, 0)) ∧
    Kd.C (Kd.int .u8) w' A3 (ys.drop (64 * (ys.length / 64))).length (ys.drop (64 * (ys.length / 64))) ∧ (ys.drop (64 * (ys.length / 64))).length ≤ c3 ∧ w.grownBy w' (some g)
theorem append_none (ev : Operand → Value) (d : Option Tmp) (ty : TypeId) (ps : String) (af : Array Edge) (w : World) (A0 : Option Addr) (n : Nat) (A : Option Addr) (c : Nat) (i : TypeInfo) (hi : Try.prog.info? 5 = some i) (hs : i.size = 1)
    (h1 : ev (.tmp 32) = .slice A0 n n) (h2 : ev (.tmp 33) = .slice A 0 c) :
    (execOp ev ⟨d, .call { callee := .builtin .append, args := #[.tmp 32, .tmp 33], argTypes := #[22, 22] }, ty, ps, af, none⟩).run Try.prog w = .ok (.value (.slice A0 n n)) w := by
  have hrun : (Builtin.append_ #[22, 22] ty #[.slice A0 n n, .slice A 0 c]).run Try.prog w = .ok (.slice A0 n n) w := by
    cases A0 <;> cases A <;> simp [Builtin.append_, run_underlying Try.underlying22, sizeOf, typeInfo, hi, Builtin.lenOf, Builtin.firstCells, storeCells, loadCells, loadCellsFrom]
  simp [execOp, resolve, invoke, builtin, h1, h2, hrun, Result.andThen]
set_option maxHeartbeats 4000000 in
set_option maxRecDepth 100000 in
theorem add_calls (g : Nat) (S : List Int) (A0 : Option Addr) (c0 : Nat) (xs : List Int) (n : Int) (A : Option Addr) (c : Nat) (l : List Int) (w : World) (hS : S.length = 8) (hg : w.heap[g]? = some (.cells (hcells S (.slice A0 xs.length c0) n) 50 (0, 0)))
    (hx : Kd.C (Kd.int .u8) w A0 xs.length xs) (hxc : xs.length ≤ c0) (hr : Kd.C (Kd.int .u8) w A l.length l) (hc : l.length ≤ c) (hl : l.length ≤ 100000000) (hxl : xs.length ≤ 100000000) (hn : 0 ≤ n ∧ n ≤ 100000000000)
    (hx8 : ∀ x ∈ xs, 0 ≤ x ∧ x ≤ 255) (h8 : ∀ x ∈ l, 0 ≤ x ∧ x ≤ 255) :
    Calls Try.prog 19 #[.pointer (some ⟨g, 0, none⟩), .slice A l.length c] w (AddPost g S (xs ++ l) (n + (l.length : Int)) w) := by
  have HG := Aside0.mk hg
  have HS := Aside0.mk hS
  have HX := Aside0.mk hx
  have HXC := Aside0.mk hxc
  have HR := Aside0.mk hr
  have HC := Aside0.mk hc
  have HL := Aside0.mk hl
  have HXL := Aside0.mk hxl
  have HX8 := Aside0.mk hx8
  have H8 := Aside0.mk h8
  obtain ⟨hat, h8_, h9_, _⟩ := hcells_at S (.slice A0 xs.length c0) n hS
  have hc9 : w.cell? ⟨g, 9, none⟩ = some (.int .i64 n) := (blk_cell hg 9).trans h9_
  have hc8 : w.cell? ⟨g, 8, none⟩ = some (.slice A0 xs.length c0) := (blk_cell hg 8).trans h8_
  have hf9 := blk_frozen hg 9
  have hlb : (l.length : Int) ≤ 100000000 := by omega
  obtain ⟨n0, n1⟩ := hn
  clear hg hS hx hxc hr hc hl hxl hx8 h8 hat h8_ h9_
  go_enter Try.func19, Try.ntmps19
  go_wp2
  have hG1 : (w.setCell ⟨g, 9, none⟩ (.int .i64 (n + (l.length : Int)))).heap[g]? = some (.cells (hcells S (.slice A0 xs.length c0) (n + (l.length : Int))) 50 (0, 0)) := by
    have h := blk_set HG.out 9 (.int .i64 (n + (l.length : Int)))
    rw [hcells_set9 _ _ _ _ HS.out] at h
    exact h
  have hGR1 := gr_set w g 9 (.int .i64 (n + (l.length : Int)))
  have hX1 := C_keep hGR1 HG.out HX.out
  have hR1 := C_keep hGR1 HG.out HR.out
  generalize w.setCell ⟨g, 9, none⟩ (.int .i64 (n + (l.length : Int))) = W1 at hG1 hGR1 hX1 hR1 ⊢
  clear hc9 hf9 hc8
  have hc8 : W1.cell? ⟨g, 8, none⟩ = some (.slice A0 xs.length c0) := (blk_cell hG1 8).trans (hcells_at S _ _ HS.out).2.1
  have HG1 := Aside0.mk hG1
  have HGR1 := Aside0.mk hGR1
  have HX1 := Aside0.mk hX1
  have HR1 := Aside0.mk hR1
  clear hG1 hGR1 hX1 hR1
  have hcut : ∀ W : World, (Instr.slice 22 (.slice A0 xs.length c0) none (some (.int .i64 (xs.length : Int))) (some (.int .i64 (xs.length : Int)))).run Try.prog W = .ok (.slice A0 xs.length xs.length) W := fun W => cutFull A0 xs.length c0 HXC.out W
  refine start_ (n := 18) (S := fun w_ => w_.cell? ⟨g, 8, none⟩ = some (.slice A0 xs.length c0) ∧ Aside0 (Kd.C (Kd.int .u8) w_ A0 xs.length xs) ∧ Aside0 (Kd.C (Kd.int .u8) w_ A l.length l) ∧ Aside0 (w_.heap[g]? = some (.cells (hcells S (.slice A0 xs.length c0) (n + (l.length : Int))) 50 (0, 0))) ∧ Aside0 (w.grownBy w_ (some g))) (ds := []) #[false, false, false, false, false, false, false, false, false, false, false, false, false, false, false, false, false, false] (by kernel_rfl) rfl rfl ⟨hc8, ⟨Kd.C_drew HX1.out⟩, ⟨Kd.C_drew HR1.out⟩, ⟨blk_drew HG1.out⟩, ⟨gr_drew HGR1.out⟩⟩ (fun hHeld => ?_)
  refine pure_ (i := 0) (N := some 18) (v := ?_) (a' := ?_) #[true, false, false, false, false, false, false, false, false, false, false, false, false, false, false, false, false, false] rfl rfl (by kernel_rfl) (fun _ _ _ h => h) (Or.inl ⟨by rfl, ?_⟩) ?_ ?_
  rotate_left
  · intro w'
    go_simp
    with_reducible rfl
  rotate_left
  · simp only [Act.put, List.setIfInBounds_toArray, List.set_cons_zero, List.set_cons_succ, i64_w, i32_w]
    rfl
  refine pure_ (i := 1) (N := some 19) (v := ?_) (a' := ?_) #[true, true, false, false, false, false, false, false, false, false, false, false, false, false, false, false, false, false] rfl rfl (by kernel_rfl) (fun _ _ _ h => h) (Or.inl ⟨by rfl, ?_⟩) ?_ ?_
  rotate_left
  · intro w'
    go_simp
    with_reducible rfl
  rotate_left
  · simp only [Act.put, List.setIfInBounds_toArray, List.set_cons_zero, List.set_cons_succ, i64_w, i32_w]
    rfl
  refine pure_ (i := 2) (N := some 20) (v := ?_) (a' := ?_) #[true, true, true, false, false, false, false, false, false, false, false, false, false, false, false, false, false, false] rfl rfl (by kernel_rfl) (fun _ _ _ h => h) (Or.inl ⟨by rfl, ?_⟩) ?_ ?_
  rotate_left
  · intro w'
    go_simp
    with_reducible rfl
  rotate_left
  · simp only [Act.put, List.setIfInBounds_toArray, List.set_cons_zero, List.set_cons_succ, i64_w, i32_w]
    rfl
  refine take_ (i := 3) (N := some 21) (v := ?_) (a' := ?_) #[true, true, true, true, false, false, false, false, false, false, false, false, false, false, false, false, false, false] rfl rfl (by kernel_rfl) (fun _ _ _ h => h) (Or.inl ⟨by rfl, ?_⟩) hHeld ?_ ?_
  rotate_left
  · rintro w' ⟨hs0_, hs1_, hs2_, hs3_, hs4_⟩
    go_simp
    with_reducible rfl
  rotate_left
  · simp only [Act.put, List.setIfInBounds_toArray, List.set_cons_zero, List.set_cons_succ, i64_w, i32_w]
    rfl
  refine pure_ (i := 4) (N := some 22) (v := ?_) (a' := ?_) #[true, true, true, true, true, false, false, false, false, false, false, false, false, false, false, false, false, false] rfl rfl (by kernel_rfl) (fun _ _ _ h => h) (Or.inl ⟨by rfl, ?_⟩) ?_ ?_
  rotate_left
  · intro w'
    go_simp
    with_reducible rfl
  rotate_left
  · simp only [Act.put, List.setIfInBounds_toArray, List.set_cons_zero, List.set_cons_succ, i64_w, i32_w]
    rfl
  refine pure_ (i := 5) (N := some 23) (v := ?_) (a' := ?_) #[true, true, true, true, true, true, false, false, false, false, false, false, false, false, false, false, false, false] rfl rfl (by kernel_rfl) (fun _ _ _ h => h) (Or.inl ⟨by rfl, ?_⟩) ?_ ?_
  rotate_left
  · intro w'
    go_simp
    with_reducible rfl
  rotate_left
  · simp only [Act.put, List.setIfInBounds_toArray, List.set_cons_zero, List.set_cons_succ, i64_w, i32_w]
    rfl
  refine pure_ (i := 6) (N := some 24) (v := ?_) (a' := ?_) #[true, true, true, true, true, true, true, false, false, false, false, false, false, false, false, false, false, false] rfl rfl (by kernel_rfl) (fun _ _ _ h => h) (Or.inl ⟨by rfl, ?_⟩) ?_ ?_
  rotate_left
  · intro w'
    go_simp
    with_reducible rfl
  rotate_left
  · simp only [Act.put, List.setIfInBounds_toArray, List.set_cons_zero, List.set_cons_succ, i64_w, i32_w]
    rfl
  refine take_ (i := 7) (N := some 25) (v := ?_) (a' := ?_) #[true, true, true, true, true, true, true, true, false, false, false, false, false, false, false, false, false, false] rfl rfl (by kernel_rfl) (fun _ _ _ h => h) (Or.inl ⟨by rfl, ?_⟩) hHeld ?_ ?_
  rotate_left
  · rintro w' ⟨hs0_, hs1_, hs2_, hs3_, hs4_⟩
    go_simp
    with_reducible rfl
  rotate_left
  · simp only [Act.put, List.setIfInBounds_toArray, List.set_cons_zero, List.set_cons_succ, i64_w, i32_w]
    rfl
  refine pure_ (i := 8) (N := some 26) (v := ?_) (a' := ?_) #[true, true, true, true, true, true, true, true, true, false, false, false, false, false, false, false, false, false] rfl rfl (by kernel_rfl) (fun _ _ _ h => h) (Or.inl ⟨by rfl, ?_⟩) ?_ ?_
  rotate_left
  · intro w'
    go_simp
    with_reducible rfl
  rotate_left
  · simp only [Act.put, List.setIfInBounds_toArray, List.set_cons_zero, List.set_cons_succ, i64_w, i32_w]
    rfl
  refine pure_ (i := 9) (N := some 27) (v := ?_) (a' := ?_) #[true, true, true, true, true, true, true, true, true, true, false, false, false, false, false, false, false, false] rfl rfl (by kernel_rfl) (fun _ _ _ h => h) (Or.inl ⟨by rfl, ?_⟩) ?_ ?_
  rotate_left
  · intro w'
    go_simp
    with_reducible rfl
  rotate_left
  · simp only [Act.put, List.setIfInBounds_toArray, List.set_cons_zero, List.set_cons_succ, i64_w, i32_w]
    rfl
  refine pure_ (i := 10) (N := some 28) (v := ?_) (a' := ?_) #[true, true, true, true, true, true, true, true, true, true, true, false, false, false, false, false, false, false] rfl rfl (by kernel_rfl) (fun _ _ _ h => h) (Or.inl ⟨by rfl, ?_⟩) ?_ ?_
  rotate_left
  · intro w'
    go_simp
    with_reducible rfl
  rotate_left
  · simp only [Act.put, List.setIfInBounds_toArray, List.set_cons_zero, List.set_cons_succ, i64_w, i32_w]
    rfl
  refine pure_ (i := 11) (N := some 29) (v := ?_) (a' := ?_) #[true, true, true, true, true, true, true, true, true, true, true, true, false, false, false, false, false, false] rfl rfl (by kernel_rfl) (fun _ _ _ h => h) (Or.inl ⟨by rfl, ?_⟩) ?_ ?_
  rotate_left
  · intro w'
    go_simp
    with_reducible rfl
  rotate_left
  · simp only [Act.put, List.setIfInBounds_toArray, List.set_cons_zero, List.set_cons_succ, i64_w, i32_w]
    rfl
  refine take_ (i := 12) (N := some 30) (v := ?_) (a' := ?_) #[true, true, true, true, true, true, true, true, true, true, true, true, true, false, false, false, false, false] rfl rfl (by kernel_rfl) (fun _ _ _ h => h) (Or.inl ⟨by rfl, ?_⟩) hHeld ?_ ?_
  rotate_left
  · rintro w' ⟨hs0_, hs1_, hs2_, hs3_, hs4_⟩
    go_simp
    with_reducible rfl
  rotate_left
  · simp only [Act.put, List.setIfInBounds_toArray, List.set_cons_zero, List.set_cons_succ, i64_w, i32_w]
    rfl
  refine pure_ (i := 13) (N := some 31) (v := ?_) (a' := ?_) #[true, true, true, true, true, true, true, true, true, true, true, true, true, true, false, false, false, false] rfl rfl (by kernel_rfl) (fun _ _ _ h => h) (Or.inl ⟨by rfl, ?_⟩) ?_ ?_
  rotate_left
  · intro w'
    go_simp
    with_reducible rfl
  rotate_left
  · simp only [Act.put, List.setIfInBounds_toArray, List.set_cons_zero, List.set_cons_succ, i64_w, i32_w]
    rfl
  refine pure_ (i := 14) (N := some 32) (v := ?_) (a' := ?_) #[true, true, true, true, true, true, true, true, true, true, true, true, true, true, true, false, false, false] rfl rfl (by kernel_rfl) (fun _ _ _ h => h) (Or.inl ⟨by rfl, ?_⟩) ?_ ?_
  rotate_left
  · intro w'
    go_simp
    with_reducible rfl
  rotate_left
  · simp only [Act.put, List.setIfInBounds_toArray, List.set_cons_zero, List.set_cons_succ, i64_w, i32_w]
    rfl
  refine pure_ (i := 15) (N := some 33) (v := ?_) (a' := ?_) #[true, true, true, true, true, true, true, true, true, true, true, true, true, true, true, true, false, false] rfl rfl (by kernel_rfl) (fun _ _ _ h => h) (Or.inl ⟨by rfl, ?_⟩) ?_ ?_
  rotate_left
  · intro w'
    go_simp
    with_reducible rfl
  rotate_left
  · simp only [Act.put, List.setIfInBounds_toArray, List.set_cons_zero, List.set_cons_succ, i64_w, i32_w]
    rfl
  refine one_ (i := 16) (N := some 34) #[true, true, true, true, true, true, true, true, true, true, true, true, true, true, true, true, true, false] rfl rfl (by kernel_rfl) (by decide) (fun K hK => ?_)
  rcases Nat.eq_zero_or_pos l.length with h0 | h0
  · have hl0 : l = [] := List.eq_nil_of_length_eq_zero h0
    have hxl : xs ++ l = xs := by rw [hl0, List.append_nil]
    refine event_step (v := .slice A0 (xs ++ l).length xs.length) (w1 := W1.drew) (by rfl) ?_ ?_
    · rw [hxl]
      obtain ⟨i0, hi, hz, hs, hby⟩ := info_parts info5
      exact append_none _ _ _ _ _ W1.drew A0 xs.length A c i0 hi hs (by rfl) (by rw [← h0]; rfl)
    obtain ⟨A', c', w2, hw2, hA', hc', HX2, HXC2, HG2, HGR2⟩ : ∃ (A' : Option Addr) (c' : Nat) (w2 : World), w2 = W1.drew ∧ A' = A0 ∧ c' = xs.length ∧ Aside0 (Kd.C (Kd.int .u8) w2 A' (xs ++ l).length (xs ++ l)) ∧ Aside0 ((xs ++ l).length ≤ c') ∧ Aside0 (w2.heap[g]? = some (.cells (hcells S (.slice A0 xs.length c0) (n + (l.length : Int))) 50 (0, 0))) ∧ Aside0 (w.grownBy w2 (some g)) :=
      ⟨A0, xs.length, W1.drew, rfl, rfl, rfl, ⟨by rw [hxl]; exact hHeld.2.1.out⟩, ⟨by rw [hxl]; exact Nat.le_refl _⟩, hHeld.2.2.2.1, hHeld.2.2.2.2⟩
    rw [← hw2, ← hc']
    have hHeld2 := hHeld
    rw [← hw2] at hHeld2
    refine hK.out _ _ hHeld2 (fun hHeld => ?_)
    clear hK K hHeld2 hw2 hc' hl0 hxl h0
    subst hA'
    generalize hys : xs ++ l = ys at HX2 HXC2 ⊢
    have hyl : ys.length ≤ 1000000000 := by have := HL.out; have := HXL.out; rw [← hys, List.length_append]; omega
    have hxs8 : ∀ x ∈ ys, 0 ≤ x ∧ x ≤ 255 := fun x hx => by rw [← hys] at hx; exact (List.mem_append.1 hx).elim (HX8.out x) (H8.out x)
    have HXS8 := Aside0.mk hxs8
    have HYS := Aside0.mk hys
    have HYL := Aside0.mk hyl
    clear hxs8 hys hyl
    refine norm_ (a' := ?_) ?_ ?_
    rotate_left
    · show Act.put _ (some 34) _ = _
      simp only [Act.put, List.setIfInBounds_toArray, List.set_cons_zero, List.set_cons_succ, i64_w, i32_w]
      rfl
    refine pure_ (i := 17) (N := some 4) (v := ?_) (a' := ?_) #[true, true, true, true, true, true, true, true, true, true, true, true, true, true, true, true, true, true] rfl rfl (by kernel_rfl) (fun _ _ _ h => h) (Or.inl ⟨by rfl, ?_⟩) ?_ ?_
    rotate_left
    · intro w'
      go_simp
      with_reducible rfl
    rotate_left
    · simp only [Act.put, List.setIfInBounds_toArray, List.set_cons_zero, List.set_cons_succ, i64_w, i32_w]
      rfl
    refine done_ (by kernel_rfl) ?_
    have HG2 := hHeld.2.2.2.1
    have HGR2 := hHeld.2.2.2.2
    clear hHeld hc8
    have hd0 : w2.cell? ⟨g, 0, none⟩ = some (.int .u32 (rd S 0)) := (blk_cell HG2.out 0).trans ((hcells_at S _ _ HS.out).1 0 (by decide))
    have hd1 : w2.cell? ⟨g, 1, none⟩ = some (.int .u32 (rd S 1)) := (blk_cell HG2.out 1).trans ((hcells_at S _ _ HS.out).1 1 (by decide))
    have hd2 : w2.cell? ⟨g, 2, none⟩ = some (.int .u32 (rd S 2)) := (blk_cell HG2.out 2).trans ((hcells_at S _ _ HS.out).1 2 (by decide))
    have hd3 : w2.cell? ⟨g, 3, none⟩ = some (.int .u32 (rd S 3)) := (blk_cell HG2.out 3).trans ((hcells_at S _ _ HS.out).1 3 (by decide))
    have hd4 : w2.cell? ⟨g, 4, none⟩ = some (.int .u32 (rd S 4)) := (blk_cell HG2.out 4).trans ((hcells_at S _ _ HS.out).1 4 (by decide))
    have hd5 : w2.cell? ⟨g, 5, none⟩ = some (.int .u32 (rd S 5)) := (blk_cell HG2.out 5).trans ((hcells_at S _ _ HS.out).1 5 (by decide))
    have hd6 : w2.cell? ⟨g, 6, none⟩ = some (.int .u32 (rd S 6)) := (blk_cell HG2.out 6).trans ((hcells_at S _ _ HS.out).1 6 (by decide))
    have hd7 : w2.cell? ⟨g, 7, none⟩ = some (.int .u32 (rd S 7)) := (blk_cell HG2.out 7).trans ((hcells_at S _ _ HS.out).1 7 (by decide))
    have h8s := list8 S HS.out
    have H8S := Aside0.mk h8s
    clear h8s
    go_wp2_with fail
    rw [H8S.out]
    with_reducible refine (blocks_calls S _ _ ys w2 HS.out HX2.out HXC2.out (by have := HYL.out; omega) HXS8.out).mono ?_
    rintro e w3 ⟨A3, c3, rfl, hC3, hc3, hb3⟩
    generalize hNB : blkN S ys (ys.length / 64) = NB
    generalize hzs : ys.drop (64 * (ys.length / 64)) = zs at hC3 hc3 ⊢
    have hNl : NB.length = 8 := by rw [← hNB]; exact blkN_len _ _ HS.out _
    have HNB := Aside0.mk hNB
    have HZS := Aside0.mk hzs
    have HNL := Aside0.mk hNl
    have HC3 := Aside0.mk hC3
    have HCC3 := Aside0.mk hc3
    have HG3 := Aside0.mk (blk_below HG2.out hb3)
    have HGR3 := Aside0.mk (gr_trans HGR2.out (gr_below hb3))
    have I47 : Aside0 ((Try.prog.info? 47).map (·.size) = some 8) := ⟨by kernel_rfl⟩
    have SZ : Aside0 ((u32s NB).size = 8) := ⟨by rw [u32s_size, hNl]⟩
    clear hNB hzs hNl hC3 hc3 hb3 hd0 hd1 hd2 hd3 hd4 hd5 hd6 hd7 HG2 HGR2
    go_wp2_with (first | ((with_reducible refine gate_dst (N := 5) rfl ?_); refine box_event ?hg (N := 5) ?hd (cs := u32s (List.replicate 8 0)) (t := 47) ?hr ?_; (case hd => rfl); (case hg => rfl); (case hr => exact alloc47 _ _ _ _ _ _); intro g5 hg5 w4 hbox hb4; have N5 := Aside0.mk (show g5 ≠ g from by have h_ := blk_lt HG3.out; omega); have B5 := Aside0.mk hbox; have HG4 := Aside0.mk (blk_below HG3.out hb4); have HGR4 := Aside0.mk (gr_trans HGR3.out (gr_below hb4)); have G5 := Aside0.mk (show w.heap.size ≤ g5 from by have h_ := HGR3.out.size; omega); have HC4 := Aside0.mk (Kd.C_below HC3.out (below_row hb4 (Nat.le_of_eq hg5.symm) (u32s NB))); clear hbox hb4 hg5) | ((with_reducible refine gate_op (.store 47 (.tmp 5) (.tmp 42)) rfl ?_); refine wpList_store_row rfl 47 (.tmp 5) (.tmp 42) rfl g5 (by rfl) 47 (u32s (List.replicate 8 0)) (u32s NB) (by rfl) B5.out (by rw [SZ.out]; exact I47.out) (by rw [SZ.out]; rfl) (u32s_one _) ?_; have B6 := Aside0.mk (setRow_heap _ _ _ (u32s NB) _ _ B5.out); have HG5 := Aside0.mk ((setRow_other _ g5 g (u32s NB) N5.out.symm).trans HG4.out); have HGR5 := Aside0.mk (gr_row HGR4.out G5.out (u32s NB)); (generalize hW_ : World.setRow _ g5 _ = w5 at HC4 B6 HG5 HGR5 ⊢); clear hW_) | ((with_reducible refine gate_op (.load 47 (.tmp 5)) rfl ?_); refine wpList_load_row rfl 47 (.tmp 5) rfl g5 (by rfl) 47 (u32s NB) (0, 0) _ B6.out Try.underlying47 rfl (by rw [SZ.out]; exact I47.out) ?_) | ((with_reducible refine gate_op (.store 47 (.tmp 49) (.tmp 46)) rfl ?_); refine wpList_store_mid rfl 47 (.tmp 49) (.tmp 46) rfl g 0 (u32s NB) (by rfl) (by rfl) (by rw [SZ.out]; exact hash_there _ _ _ _ _ HS.out HG5.out) (by rw [SZ.out]; exact I47.out) (u32s_one _) ?_; have hsc := hash_setCells2 _ g S NB _ _ HS.out HNL.out HG5.out; have HG6 := Aside0.mk hsc.1; have HGR6 := Aside0.mk (gr_trans HGR5.out hsc.2); have HC6 := Aside0.mk (C_keep hsc.2 HG5.out HC4.out); (generalize hW_ : World.setCells _ g 0 _ = w6 at HG6 HGR6 HC6 ⊢); clear hW_ hsc; have hx8_ := (blk_cell HG6.out 8).trans (hcells_at NB _ _ HNL.out).2.1; have hf8_ := blk_frozen HG6.out 8))
    go_end0
    refine ⟨rfl, ?_⟩
    rw [HYS.out, HZS.out, HNB.out]
    refine ⟨A3, c3, ?_, C_keep (gr_set _ g 8 _) HG6.out HC6.out, HCC3.out, gr_trans HGR6.out (gr_set _ g 8 _)⟩
    have h := blk_set HG6.out 8 (.slice A3 zs.length c3)
    rw [hcells_set8 _ _ _ _ HNL.out] at h
    exact h
  · obtain ⟨ad, hA, _⟩ := Kd.at_int hHeld.2.2.1.out 0 (by decide) (by omega)
    subst hA
    obtain ⟨i0, hi, hz, hs, hby⟩ := info_parts info5
    have hcx := hHeld.2.1.out
    have hcl := hHeld.2.2.1.out
    refine step_append_grows rfl (.tmp 32) (.tmp 33) 22 rfl 5 i0 (.int .u8 0) 1 1 Try.underlying22 hi hz hs hby rfl (by decide) A0 xs.length xs.length (nums .u8 xs) rfl ?_ (by rw [nums_length, Nat.mul_one]) ?_ ad l.length c (nums .u8 l) rfl (by rw [nums_length, Nat.mul_one]) ?_ ?_ (by omega) ?_ ?_ ?_
    · intro hA
      rcases Nat.eq_zero_or_pos xs.length with hx0 | hx0
      · exact ⟨hx0, hx0⟩
      · obtain ⟨ad', h, _⟩ := Kd.at_int hcx 0 (by decide) (by omega)
        rw [hA] at h; cases h
    · intro b hb
      exact cells_of hcx hb
    · exact cells_of hcl rfl
    · intro u hu
      obtain ⟨x, _, rfl⟩ := List.mem_map.1 hu
      rfl
    · have := HL.out; have := HXL.out; unfold maxLen; omega
    · have := HL.out; have := HXL.out; omega
    · intro v1 w2 hown hgrow
      rw [← nums_append, show xs.length + l.length = (xs ++ l).length by rw [List.length_append]] at hown
      have hR : Kd.R (Kd.int .u8) 5 w2 W1.drew.heap.size (fun _ => True) v1 (xs ++ l) := Kd.R_of_own (enc := Value.int .u8) hown (fun _ _ => trivial)
      obtain ⟨A', c', rfl, hcc, hCC⟩ := Kd.R_reads hR
      have HX2 := Aside0.mk hCC
      have HXC2 := Aside0.mk hcc
      have hgr := gr_none (g := g) hgrow
      have hHeld2 : (fun w_ => w_.cell? ⟨g, 8, none⟩ = some (.slice A0 xs.length c0) ∧ Aside0 (Kd.C (Kd.int .u8) w_ A0 xs.length xs) ∧ Aside0 (Kd.C (Kd.int .u8) w_ (some ad) l.length l) ∧ Aside0 (w_.heap[g]? = some (.cells (hcells S (.slice A0 xs.length c0) (n + (l.length : Int))) 50 (0, 0))) ∧ Aside0 (w.grownBy w_ (some g))) w2 := by
        have hg2 := blk_grown hHeld.2.2.2.1.out hgrow (by simp)
        exact ⟨(blk_cell hg2 8).trans (hcells_at S _ _ HS.out).2.1, ⟨C_keep hgr hHeld.2.2.2.1.out hcx⟩, ⟨C_keep hgr hHeld.2.2.2.1.out hcl⟩, ⟨hg2⟩, ⟨gr_trans hHeld.2.2.2.2.out hgr⟩⟩
      refine hK.out _ _ hHeld2 (fun hHeld => ?_)
      clear hK K hHeld2
      generalize hys : xs ++ l = ys at HX2 HXC2 ⊢
      have hyl : ys.length ≤ 1000000000 := by have := HL.out; have := HXL.out; rw [← hys, List.length_append]; omega
      have hxs8 : ∀ x ∈ ys, 0 ≤ x ∧ x ≤ 255 := fun x hx => by rw [← hys] at hx; exact (List.mem_append.1 hx).elim (HX8.out x) (H8.out x)
      have HXS8 := Aside0.mk hxs8
      have HYS := Aside0.mk hys
      have HYL := Aside0.mk hyl
      clear hxs8 hys hyl
      refine norm_ (a' := ?_) ?_ ?_
      rotate_left
      · show Act.put _ (some 34) _ = _
        simp only [Act.put, List.setIfInBounds_toArray, List.set_cons_zero, List.set_cons_succ, i64_w, i32_w]
        rfl
      refine pure_ (i := 17) (N := some 4) (v := ?_) (a' := ?_) #[true, true, true, true, true, true, true, true, true, true, true, true, true, true, true, true, true, true] rfl rfl (by kernel_rfl) (fun _ _ _ h => h) (Or.inl ⟨by rfl, ?_⟩) ?_ ?_
      rotate_left
      · intro w'
        go_simp
        with_reducible rfl
      rotate_left
      · simp only [Act.put, List.setIfInBounds_toArray, List.set_cons_zero, List.set_cons_succ, i64_w, i32_w]
        rfl
      refine done_ (by kernel_rfl) ?_
      have HG2 := hHeld.2.2.2.1
      have HGR2 := hHeld.2.2.2.2
      clear hHeld hc8
      have hd0 : w2.cell? ⟨g, 0, none⟩ = some (.int .u32 (rd S 0)) := (blk_cell HG2.out 0).trans ((hcells_at S _ _ HS.out).1 0 (by decide))
      have hd1 : w2.cell? ⟨g, 1, none⟩ = some (.int .u32 (rd S 1)) := (blk_cell HG2.out 1).trans ((hcells_at S _ _ HS.out).1 1 (by decide))
      have hd2 : w2.cell? ⟨g, 2, none⟩ = some (.int .u32 (rd S 2)) := (blk_cell HG2.out 2).trans ((hcells_at S _ _ HS.out).1 2 (by decide))
      have hd3 : w2.cell? ⟨g, 3, none⟩ = some (.int .u32 (rd S 3)) := (blk_cell HG2.out 3).trans ((hcells_at S _ _ HS.out).1 3 (by decide))
      have hd4 : w2.cell? ⟨g, 4, none⟩ = some (.int .u32 (rd S 4)) := (blk_cell HG2.out 4).trans ((hcells_at S _ _ HS.out).1 4 (by decide))
      have hd5 : w2.cell? ⟨g, 5, none⟩ = some (.int .u32 (rd S 5)) := (blk_cell HG2.out 5).trans ((hcells_at S _ _ HS.out).1 5 (by decide))
      have hd6 : w2.cell? ⟨g, 6, none⟩ = some (.int .u32 (rd S 6)) := (blk_cell HG2.out 6).trans ((hcells_at S _ _ HS.out).1 6 (by decide))
      have hd7 : w2.cell? ⟨g, 7, none⟩ = some (.int .u32 (rd S 7)) := (blk_cell HG2.out 7).trans ((hcells_at S _ _ HS.out).1 7 (by decide))
      have h8s := list8 S HS.out
      have H8S := Aside0.mk h8s
      clear h8s
      go_wp2_with fail
      rw [H8S.out]
      with_reducible refine (blocks_calls S _ _ ys w2 HS.out HX2.out HXC2.out (by have := HYL.out; omega) HXS8.out).mono ?_
      rintro e w3 ⟨A3, c3, rfl, hC3, hc3, hb3⟩
      generalize hNB : blkN S ys (ys.length / 64) = NB
      generalize hzs : ys.drop (64 * (ys.length / 64)) = zs at hC3 hc3 ⊢
      have hNl : NB.length = 8 := by rw [← hNB]; exact blkN_len _ _ HS.out _
      have HNB := Aside0.mk hNB
      have HZS := Aside0.mk hzs
      have HNL := Aside0.mk hNl
      have HC3 := Aside0.mk hC3
      have HCC3 := Aside0.mk hc3
      have HG3 := Aside0.mk (blk_below HG2.out hb3)
      have HGR3 := Aside0.mk (gr_trans HGR2.out (gr_below hb3))
      have I47 : Aside0 ((Try.prog.info? 47).map (·.size) = some 8) := ⟨by kernel_rfl⟩
      have SZ : Aside0 ((u32s NB).size = 8) := ⟨by rw [u32s_size, hNl]⟩
      clear hNB hzs hNl hC3 hc3 hb3 hd0 hd1 hd2 hd3 hd4 hd5 hd6 hd7 HG2 HGR2
      go_wp2_with (first | ((with_reducible refine gate_dst (N := 5) rfl ?_); refine box_event ?hg (N := 5) ?hd (cs := u32s (List.replicate 8 0)) (t := 47) ?hr ?_; (case hd => rfl); (case hg => rfl); (case hr => exact alloc47 _ _ _ _ _ _); intro g5 hg5 w4 hbox hb4; have N5 := Aside0.mk (show g5 ≠ g from by have h_ := blk_lt HG3.out; omega); have B5 := Aside0.mk hbox; have HG4 := Aside0.mk (blk_below HG3.out hb4); have HGR4 := Aside0.mk (gr_trans HGR3.out (gr_below hb4)); have G5 := Aside0.mk (show w.heap.size ≤ g5 from by have h_ := HGR3.out.size; omega); have HC4 := Aside0.mk (Kd.C_below HC3.out (below_row hb4 (Nat.le_of_eq hg5.symm) (u32s NB))); clear hbox hb4 hg5) | ((with_reducible refine gate_op (.store 47 (.tmp 5) (.tmp 42)) rfl ?_); refine wpList_store_row rfl 47 (.tmp 5) (.tmp 42) rfl g5 (by rfl) 47 (u32s (List.replicate 8 0)) (u32s NB) (by rfl) B5.out (by rw [SZ.out]; exact I47.out) (by rw [SZ.out]; rfl) (u32s_one _) ?_; have B6 := Aside0.mk (setRow_heap _ _ _ (u32s NB) _ _ B5.out); have HG5 := Aside0.mk ((setRow_other _ g5 g (u32s NB) N5.out.symm).trans HG4.out); have HGR5 := Aside0.mk (gr_row HGR4.out G5.out (u32s NB)); (generalize hW_ : World.setRow _ g5 _ = w5 at HC4 B6 HG5 HGR5 ⊢); clear hW_) | ((with_reducible refine gate_op (.load 47 (.tmp 5)) rfl ?_); refine wpList_load_row rfl 47 (.tmp 5) rfl g5 (by rfl) 47 (u32s NB) (0, 0) _ B6.out Try.underlying47 rfl (by rw [SZ.out]; exact I47.out) ?_) | ((with_reducible refine gate_op (.store 47 (.tmp 49) (.tmp 46)) rfl ?_); refine wpList_store_mid rfl 47 (.tmp 49) (.tmp 46) rfl g 0 (u32s NB) (by rfl) (by rfl) (by rw [SZ.out]; exact hash_there _ _ _ _ _ HS.out HG5.out) (by rw [SZ.out]; exact I47.out) (u32s_one _) ?_; have hsc := hash_setCells2 _ g S NB _ _ HS.out HNL.out HG5.out; have HG6 := Aside0.mk hsc.1; have HGR6 := Aside0.mk (gr_trans HGR5.out hsc.2); have HC6 := Aside0.mk (C_keep hsc.2 HG5.out HC4.out); (generalize hW_ : World.setCells _ g 0 _ = w6 at HG6 HGR6 HC6 ⊢); clear hW_ hsc; have hx8_ := (blk_cell HG6.out 8).trans (hcells_at NB _ _ HNL.out).2.1; have hf8_ := blk_frozen HG6.out 8))
      go_end0
      refine ⟨rfl, ?_⟩
      rw [HYS.out, HZS.out, HNB.out]
      refine ⟨A3, c3, ?_, C_keep (gr_set _ g 8 _) HG6.out HC6.out, HCC3.out, gr_trans HGR6.out (gr_set _ g 8 _)⟩
      have h := blk_set HG6.out 8 (.slice A3 zs.length c3)
      rw [hcells_set8 _ _ _ _ HNL.out] at h
      exact h
end Go.Proofs.Ytijjopioamdahaa.D
