import Derived.Test.YtbmabnmidacpdaaProg
import Derived.Below
import Derived.Deep.Draws
import Derived.Deep.AppendLies
import Derived.Maps.AppendAt
import Derived.OwnWalk
import Derived.Laws.BytesArg
import Derived.Laws.MakeOwn
import Derived.Laws.OwnMore
import Derived.Deep.OwnRows
import Derived.Tactics
import Derived.Lib.ConvBytes
import Derived.Laws.Slices
import Derived.WalkKit
import Derived.KernelRfl
import Derived.RowKit3
import Derived.IntWalk
import Derived.Deep.LoopGhost
import Derived.Deep.QuietTactic
import Derived.BigQuiet
import Derived.WideLaws
import Derived.Deep.DeepCutAuto
import Derived.Deep.CutBlock
import Derived.Deep.RegionHeld3
import Derived.Laws.Rows
import Derived.Lib.AppendStr
import Derived.ArgAppend
import Derived.Laws.IdiomCopy
import Derived.OrdersHeld
import Derived.Laws.BitsLemmas
import Derived.RowKit
import Derived.Test.YtbmabnmidacpdaaWWords
import Derived.Test.YtbmabnmidacpdaaWLast
import Derived.Test.YtbmabnmidacpdaaWTab
import Derived.Test.YtbmabnmidacpdaaWQPut
import Derived.Test.YtbmabnmidacpdaaWApart
import Derived.Test.YtbmabnmidacpdaaWArr
import Derived.Test.YtbmabnmidacpdaaWZeros
import Derived.Test.YtbmabnmidacpdaaWFoot
import Derived.Test.YtbmabnmidacpdaaWKept
import Derived.Test.YtbmabnmidacpdaaWShare
import Derived.Test.YtbmabnmidacpdaaWN
import Derived.Test.YtbmabnmidacpdaaWEqStruct
import Derived.Test.YtbmabnmidacpdaaWGuard
import Derived.Test.YtbmabnmidacpdaaWNEv
import Derived.Test.YtbmabnmidacpdaaWMore
import Derived.Test.YtbmabnmidacpdaaX1
import Derived.Test.YtbmabnmidacpdaaX2
import Derived.Test.YtbmabnmidacpdaaX3
import Derived.Test.YtbmabnmidacpdaaX4
import Derived.Test.YtbmabnmidacpdaaSh
import Derived.Test.YtbmabnmidacpdaaLxA
import Derived.Test.YtbmabnmidacpdaaLxB
import Derived.Test.YtbmabnmidacpdaaLxC
import Derived.Test.YtbmabnmidacpdaaLxD
import Derived.Test.YtbmabnmidacpdaaLxP
import Derived.Test.YtbmabnmidacpdaaHw
import Derived.Test.YtbmabnmidacpdaaLxE
import Derived.Test.YtbmabnmidacpdaaLxS
import Derived.Test.YtbmabnmidacpdaaLxT
import Derived.Test.YtbmabnmidacpdaaLxV
import Derived.Test.YtbmabnmidacpdaaLxU
import Derived.Test.YtbmabnmidacpdaaLxW
import Derived.Test.YtbmabnmidacpdaaLxX
import Derived.Test.YtbmabnmidacpdaaLxR
import Derived.Lib.Builder
import Derived.Lib.UnsafeStr
import Derived.Laws.Externs
import Derived.DataShut
import Derived.Deep.RegionLawGrows
import Derived.Deep.Upon
import Derived.Deep.MidRow
namespace Go.Proofs.Ytbmabnmidacpdaa.L
open Go.RowKit Go.Proofs.Ytbmabnmidacpdaa.X Go.Proofs.YtbmabnmidacpdaaW.PrintWords Go.Proofs.YtbmabnmidacpdaaW.PrintLast Go.Proofs.YtbmabnmidacpdaaW.PrintMore
attribute [local go_sem] max2_int min2_int max_two min_two max_three min_three max_four min_four   -- for this text's walks alone
set_option linter.unusedVariables false
set_option linter.unusedSimpArgs false
/-! The builder's writers, at this program (turned from the shelf's walks). -/
theorem bz62 : (Try.prog.info? 62).map (·.size) = some 2 := by kernel_rfl
theorem bi5 : (Try.prog.info? 5).map (fun i => (i.zero, i.size, i.bytes)) = some (some (.int .u8 0), 1, 1) := by kernel_rfl
set_option maxHeartbeats 1000000 in
set_option maxRecDepth 100000 in
theorem cc_used (b : Nat) (w : World) (h0 : w.cell? ⟨b, 0, none⟩ = some (.pointer (some ⟨b, 0, none⟩))) :
    Calls Try.prog 50 #[.pointer (some ⟨b, 0, none⟩)] w fun e w' => e = .returned (.tuple #[]) ∧ w' = w := by
  obtain ⟨j, hj, _⟩ := Option.map_eq_some_iff.1 bz62
  go_enter Try.func50, Try.ntmps50
  go_wp2
  rw [Lib.run_neq_ptr_same w _ Try.underlying60 hj]
  go_wp2
  go_end0
  exact ⟨rfl, rfl⟩
set_option maxHeartbeats 1000000 in
set_option maxRecDepth 100000 in
theorem cc_fresh (b : Nat) (w : World) (h0 : w.cell? ⟨b, 0, none⟩ = some (.pointer none)) (hsh : w.shape? b = some (62, 2)) (hfz : w.frozen? ⟨b, 0, none⟩ = false) :
    Calls Try.prog 50 #[.pointer (some ⟨b, 0, none⟩)] w fun e w' => e = .returned (.tuple #[]) ∧ w' = w.setCell ⟨b, 0, none⟩ (.pointer (some ⟨b, 0, none⟩)) := by
  obtain ⟨j, hj, hjs⟩ := Option.map_eq_some_iff.1 bz62
  go_enter Try.func50, Try.ntmps50
  go_wp2
  rw [Lib.run_to_unsafe w ⟨b, 0, none⟩ Try.underlying60 Try.underlying77 hj (by rw [hjs]; decide) hsh (Nat.zero_lt_succ 1)]
  simp only [Result.andThen]
  rw [Oper.upon_value]
  go_wp2
  rw [run_callFunc_extern Try.func55 (by kernel_rfl) (by kernel_rfl) (by kernel_rfl) (e := Extern.AbiNoEscape.same) (by kernel_rfl)]
  rw [Lib.run_noEscape]
  simp only [Result.andThen]
  rw [Oper.upon_value]
  go_wp2
  rw [Lib.run_from_unsafe w ⟨b, 0, none⟩ Try.underlying77 Try.underlying60 hj hsh (by kernel_rfl)]
  simp only [Result.andThen]
  rw [Oper.upon_value]
  go_wp2
  go_end0
  exact ⟨rfl, rfl⟩
/-- What a writer leaves: every row that is no byte's row and not the builder. -/
def Spares (b : Nat) (w w' : World) : Prop := ∀ k cs t fr, k ≠ b → w.heap[k]? = some (.cells cs t fr) → t ≠ 5 → w'.heap[k]? = some (.cells cs t fr)
theorem own_ne5 {w : World} {B : Nat} {v : Value} {n : Nat} {xs : List Value} {k : Nat} {cs : Array Value} {t : TypeId} {fr : Nat × Nat} (h : w.ownsRow B 5 1 v n xs) (hk : w.heap[k]? = some (.cells cs t fr)) (ht : t ≠ 5) : some k ≠ v.ownBlock := by
  intro e
  obtain ⟨cells, hc⟩ := own_typed h k e.symm
  rw [hc] at hk
  injection hk with hk
  injection hk with _ hk
  exact ht hk.symm
theorem cc_calls (B b : Nat) (bs : List Value) (w : World) (h : Lib.IsBuilder 62 5 B b bs w) :
    Calls Try.prog 50 #[.pointer (some ⟨b, 0, none⟩)] w fun e w' => e = .returned (.tuple #[]) ∧ (Lib.BuilderAt 62 5 B b (.pointer (some ⟨b, 0, none⟩)) bs w' ∧ Below B w w' ∧ (∀ k, k ≠ b → w'.heap[k]? = w.heap[k]?)) := by
  rcases h with h | h
  · refine (cc_fresh b w h.cell0 h.shape h.frozen0).mono ?_
    rintro e w' ⟨rfl, rfl⟩
    exact ⟨rfl, h.used _, (Below.refl B w).setCell (p := ⟨b, 0, none⟩) h.1 _, fun k hk => Below.heap_setCell _ _ _ _ hk⟩
  · refine (cc_used b w h.cell0).mono ?_
    rintro e w' ⟨rfl, rfl⟩
    exact ⟨rfl, h, Below.refl B _, fun _ _ => rfl⟩
set_option maxHeartbeats 2000000 in
set_option maxRecDepth 100000 in
theorem wbyte_calls (B b : Nat) (bs : List Value) (c : Int) (w : World) (h : Lib.IsBuilder 62 5 B b bs w) (hlen : bs.length + 1 ≤ 140737488355328) (hBw : B ≤ w.heap.size) :
    Calls Try.prog 35 #[.pointer (some ⟨b, 0, none⟩), .int .u8 c] w fun e w' => e = .returned .nilIface ∧ (Lib.BuilderAt 62 5 B b (.pointer (some ⟨b, 0, none⟩)) (bs ++ [.int .u8 c]) w' ∧ Below B w w' ∧ Spares b w w') := by
  obtain ⟨i0, hi, hz0, hz1, hz2⟩ := info_parts bi5
  go_enter Try.func35, Try.ntmps35
  go_wp2_with (go_at_call 50; refine (cc_calls B b bs _ h).mono ?_)
  rintro e w1 ⟨rfl, h1, hb1, hkk⟩
  obtain ⟨hB, v, hbk, hown, hne⟩ := h1
  have c0 : w1.cell? ⟨b, 0, none⟩ = some (.pointer (some ⟨b, 0, none⟩)) := by rw [Lib.cell_of_heap hbk]; rfl
  have c1 : w1.cell? ⟨b, 1, none⟩ = some v := by rw [Lib.cell_of_heap hbk]; rfl
  go_wp2_with (at_builtin; refine wpList_append_own _ rfl _ _ 41 rfl B 5 i0 (.int .u8 0) 1 1 Try.underlying41 hi hz0 hz1 hz2 rfl (by decide) _ _ _ rfl (hown.alloc _) ⟨w1.heap.size, 0, none⟩ 1 1 [.int .u8 c] rfl rfl ?c1 ?c2 ?c3 ?c4 ?c5 ?_)
  case c1 =>
    intro j u hj
    match j, hj with
    | 0, hj => simp at hj; subst hj; simp [Addr.add]
  case c2 => intro u hu; simp at hu; subst hu; rfl
  case c3 => unfold maxLen; omega
  case c4 => omega
  case c5 => have := hb1.size; simp; omega
  intro v' w2 hown' hgrow _
  have hlt : b < w1.heap.size := by
    rcases Nat.lt_or_ge b w1.heap.size with h' | h'
    · exact h'
    · simp [Array.getElem?_eq_none h'] at hbk
  have hb2 : w2.heap[b]? = some (.cells #[.pointer (some ⟨b, 0, none⟩), v] 62 (0, 0)) := by
    rw [hgrow.block b (by simp; omega) (fun e => hne e.symm), Lib.alloc_old w1 _ b hlt]
    exact hbk
  have d0 : w2.cell? ⟨b, 0, none⟩ = some (.pointer (some ⟨b, 0, none⟩)) := by rw [Lib.cell_of_heap hb2]; rfl
  have d1 : w2.cell? ⟨b, 1, none⟩ = some v := by rw [Lib.cell_of_heap hb2]; rfl
  have f1 : w2.frozen? ⟨b, 1, none⟩ = false := Lib.frozen_of_heap hb2 1
  obtain ⟨g, cap, rfl⟩ : ∃ g cap, v' = .slice (some ⟨g, 0, none⟩) (bs.length + 1) cap := by
    rcases hown'.2 with ⟨_, h0⟩ | ⟨g, cap, cur, hv, _⟩
    · omega
    · exact ⟨g, cap, hv⟩
  go_wp2
  go_ret
  refine ⟨rfl, ?_, ?_, fun k cs t fr hkb hk ht => ?_⟩
  · exact Lib.BuilderAt.put (T := 62) (e := 5) hB hb2 (bs' := bs ++ [.int .u8 c]) (by simpa using hown') (by decide)
  · exact ((hb1.alloc (by have := hb1.size; omega) _).grown hgrow (by have := hb1.size; simp; omega) (fun k hk => (hown.lt k hk).1)).setCell (p := ⟨b, 1, none⟩) hB _
  · have h1 : w1.heap[k]? = some (.cells cs t fr) := (hkk k hkb).trans hk
    rw [Below.heap_setCell _ _ _ _ hkb, hgrow.block k (by have := blk_lt h1; simp; omega) (own_ne5 hown h1 ht)]
    exact blk_alloc h1 _
set_option maxHeartbeats 2000000 in
set_option maxRecDepth 100000 in
theorem wstr_calls (B b : Nat) (bs : List Value) (s : ByteArray) (w : World) (h : Lib.IsBuilder 62 5 B b bs w) (hlen : bs.length + s.size ≤ 140737488355328) (hBw : B ≤ w.heap.size) :
    Calls Try.prog 36 #[.pointer (some ⟨b, 0, none⟩), .string s] w fun e w' => e = .returned (.tuple #[.int .i64 s.size, .nilIface]) ∧ (Lib.BuilderAt 62 5 B b (.pointer (some ⟨b, 0, none⟩)) (bs ++ Lib.strCells s) w' ∧ Below B w w' ∧ Spares b w w') := by
  obtain ⟨i0, hi, hz0, hz1, hz2⟩ := info_parts bi5
  go_enter Try.func36, Try.ntmps36
  go_wp2_with (go_at_call 50; refine (cc_calls B b bs _ h).mono ?_)
  rintro e w1 ⟨rfl, h1, hb1, hkk⟩
  obtain ⟨hB, v, hbk, hown, hne⟩ := h1
  have c0 : w1.cell? ⟨b, 0, none⟩ = some (.pointer (some ⟨b, 0, none⟩)) := by rw [Lib.cell_of_heap hbk]; rfl
  have c1 : w1.cell? ⟨b, 1, none⟩ = some v := by rw [Lib.cell_of_heap hbk]; rfl
  go_wp2_with (at_builtin; refine Lib.wpList_append_own_string _ rfl _ _ 41 9 rfl B 5 i0 Try.underlying41 Try.underlying9 hi hz0 hz1 hz2 _ _ _ rfl hown s rfl ?c3 ?c4 ?c5 ?_)
  case c3 => unfold maxLen; omega
  case c4 => omega
  case c5 => have := hb1.size; omega
  intro v' w2 hown' hgrow _
  have hlt : b < w1.heap.size := by
    rcases Nat.lt_or_ge b w1.heap.size with h' | h'
    · exact h'
    · simp [Array.getElem?_eq_none h'] at hbk
  have hb2 : w2.heap[b]? = some (.cells #[.pointer (some ⟨b, 0, none⟩), v] 62 (0, 0)) := by
    rw [hgrow.block b hlt (fun e => hne e.symm)]
    exact hbk
  have d0 : w2.cell? ⟨b, 0, none⟩ = some (.pointer (some ⟨b, 0, none⟩)) := by rw [Lib.cell_of_heap hb2]; rfl
  have d1 : w2.cell? ⟨b, 1, none⟩ = some v := by rw [Lib.cell_of_heap hb2]; rfl
  have f1 : w2.frozen? ⟨b, 1, none⟩ = false := Lib.frozen_of_heap hb2 1
  obtain ⟨ao, n', cap, rfl⟩ : ∃ ao n' cap, v' = .slice ao n' cap := by
    rcases hown'.2 with ⟨hv, _⟩ | ⟨g, cap, cur, hv, _⟩
    · exact ⟨_, _, _, hv⟩
    · exact ⟨_, _, _, hv⟩
  go_wp2
  go_ret2
  refine ⟨rfl, ?_, ?_, fun k cs t fr hkb hk ht => ?_⟩
  · exact Lib.BuilderAt.put (T := 62) (e := 5) hB hb2 (bs' := bs ++ Lib.strCells s) (by simpa [Lib.strCells_length] using hown') (by decide)
  · exact (hb1.grown hgrow (by have := hb1.size; omega) (fun k hk => (hown.lt k hk).1)).setCell (p := ⟨b, 1, none⟩) hB _
  · have h1 : w1.heap[k]? = some (.cells cs t fr) := (hkk k hkb).trans hk
    rw [Below.heap_setCell _ _ _ _ hkb, hgrow.block k (blk_lt h1) (own_ne5 hown h1 ht)]
    exact h1
/-! Print. -/
theorem IsB.below {B b : Nat} {bs : List Value} {w w1 : World} (h : Lib.IsBuilder 62 5 B b bs w) (hb : Below w.heap.size w w1) : Lib.IsBuilder 62 5 B b bs w1 := by
  have hA : ∀ p, Lib.BuilderAt 62 5 B b p bs w → Lib.BuilderAt 62 5 B b p bs w1 := by
    rintro p ⟨hB, v, hbk, hown, hne⟩
    exact ⟨hB, v, blk_below hbk hb, own_move hown (fun k hk => hb.block k (own_lt hown k hk)), hne⟩
  exact h.elim (fun x => .inl (hA _ x)) (fun x => .inr (hA _ x))
def jn (l : List (List UInt8)) : Nat → List UInt8
  | 0 => []
  | k + 1 => jn l k ++ (if 0 < k then [32] else []) ++ l.getD k []
def zB : Array Value := #[.pointer none, .slice none 0 0]
theorem alloc62 (ev : Operand → Value) (d : Option Tmp) (ty : TypeId) (ps : String) (af : Array Edge) (W : World) :
    (execOp ev ⟨d, .alloc 62, ty, ps, af, none⟩).run Try.prog W = .ok (.value (.pointer (some ⟨W.heap.size, 0, none⟩))) (W.alloc (.cells zB 62 (0, 0))) := by
  kernel_rfl
theorem jn_le (l : List (List UInt8)) {n : Nat} (hn : l.length = n) (hb : (jn l n).length ≤ 1000000) : ∀ m k, k + m = n → (jn l k).length ≤ 1000000 ∧ (k < n → (jn l k).length + 1 + (l.getD k []).length ≤ 1000001) := by
  intro m
  induction m with
  | zero =>
    intro k h
    obtain rfl : k = n := by omega
    exact ⟨hb, fun h => by omega⟩
  | succ m ih =>
    intro k h
    have h1 := (ih (k + 1) (by omega)).1
    have h2 : (jn l (k + 1)).length = (jn l k).length + (if 0 < k then 1 else 0) + (l.getD k []).length := by
      show (jn l k ++ (if 0 < k then [32] else []) ++ l.getD k []).length = _
      rw [List.length_append, List.length_append]
      split <;> rfl
    rw [h2] at h1
    refine ⟨by omega, fun _ => ?_⟩
    split at h1 <;> omega
theorem rdx {l : List S33} {j : Nat} (h : j < l.length) : (rd_T33 l (j : Int)).f1.data.toList = (l.map fun x => x.f1.data.toList).getD j [] := by
  rw [rd33 h, List.getD_eq_getElem?_getD, List.getElem?_map, List.getElem?_eq_getElem h]
  rfl
set_option maxHeartbeats 8000000 in
set_option maxRecDepth 100000 in
theorem print_calls (A : Option Addr) (c : Nat) (l : List S33) (n : Nat) (w : World) (hn : l.length = n) (hc : n ≤ c) (hn2 : n ≤ 1000000) (hC : Kd.C k33 w A n l) (hb : (jn (l.map fun x => x.f1.data.toList) n).length ≤ 1000000) :
    Calls Try.prog 21 #[.slice A n c] w fun e w' => e = .returned (.string ⟨(jn (l.map fun x => x.f1.data.toList) n).toArray⟩) ∧ Below w.heap.size w w' := by
  have I33 : Aside0 ((Try.prog.info? 33).map (·.size) = some 6) := ⟨by kernel_rfl⟩
  obtain ⟨L, hL⟩ : ∃ L, (l.map fun x => x.f1.data.toList) = L := ⟨_, rfl⟩
  rw [hL] at hb ⊢
  have hLn : L.length = n := by rw [← hL, List.length_map, hn]
  have HL := Aside0.mk hL
  have HN := Aside0.mk hn
  have HCC := Aside0.mk hC
  have HB := Aside0.mk (jn_le L hLn hb)
  have HLN := Aside0.mk hLn
  have hni : (n : Int) ≤ 1000000 := by omega
  clear hL hn hC hb hLn
  go_enter Try.func21, Try.ntmps21
  go_wp2_with (((with_reducible refine gate_dst (N := 3) rfl ?_); refine box_event ?hg (N := 3) ?hd (cs := zB) (t := 62) ?hr ?_; (case hd => rfl); (case hg => rfl); (case hr => exact alloc62 _ _ _ _ _ _); intro g3 hg_ wa hbox_ hba_; have BZ3 := Aside0.mk hbox_; have HZ3 := Aside0.mk hba_; have GZ3 := Aside0.mk hg_; clear hg_ hbox_ hba_))
  have HI0 : Aside0 (Lib.IsBuilder 62 5 w.heap.size g3 (Lib.byteCells (jn L 0)) wa) := ⟨.inl ⟨Nat.le_of_eq GZ3.out.symm, .slice none 0 0, BZ3.out, World.ownsRow_nil _ _ _ _, by simp [Value.ownBlock]⟩⟩
  have HG3a := Aside0.mk (blk_lt BZ3.out)
  go_loopg [8] (n + 1) (fun kq v wr => ∃ j : Nat, v = .int .i64 (j : Int) ∧ Aside0 (n + 1 ≤ j + kq) ∧ Aside0 (j ≤ n) ∧ Aside0 (Lib.IsBuilder 62 5 w.heap.size g3 (Lib.byteCells (jn L j)) wr) ∧ Aside0 (Below w.heap.size w wr) ∧ Aside0 (g3 < wr.heap.size))
  case atStart => exact ⟨0, rfl, ⟨by omega⟩, ⟨by omega⟩, HI0, HZ3, HG3a⟩
  case round =>
    obtain ⟨j, rfl, HJK, HJ, HIJ, HBJ, HG3⟩ := hrel
    clear HI0 HG3a BZ3
    cases gk with
    | zero => exact absurd HJK.out (by have h_ := HJ.out; omega)
    | succ k1 =>
      by_cases hj : j < n
      · have hjl : j < l.length := by rw [HN.out]; exact hj
        have hrx := rdx hjl
        obtain ⟨ad, e_, x0, x1, x2, x3, x4, x5⟩ := at_T33 (Kd.C_below HCC.out HBJ.out) (j : Int) (by omega) (by omega)
        subst e_
        rw [Int.toNat_natCast] at x0 x1 x2 x3 x4 x5
        generalize rd_T33 l (j : Int) = x at x0 x1 x2 x3 x4 x5 hrx
        rw [HL.out] at hrx
        have hbd := (HB.out (n - j) j (by omega)).2 hj
        rw [← hrx, slen] at hbd
        have HRX := Aside0.mk hrx
        have HJ9 := Aside0.mk hj
        have HEW : Aside0 (wrap64 ((j : Int) + 1) = ((j + 1 : Nat) : Int)) := ⟨by rw [w64 _ (by omega) (by omega)]; rfl⟩
        have q1 : ((j : Int) < (n : Int)) = True := by apply eq_true; omega
        by_cases h0 : j = 0
        · subst h0
          have HL2 : Aside0 ((Lib.byteCells (jn L 0)).length + x.f1.size ≤ 140737488355328) := ⟨by rw [Lib.byteCells_length]; omega⟩
          rw [show ((0 : Nat) : Int) = 0 from rfl]
          rw [show ((0 : Nat) : Int) = 0 from rfl] at q1
          have hz : ad.add (0 * 6) = ad := by simp [Addr.add]
          rw [hz] at x0 x1 x2 x3 x4 x5
          have q2 : (0 < n) = True := eq_true hj
          clear hj hjl hrx hbd hz
          go_wp2_with (first
            | ((with_reducible refine gate_dst (N := 5) rfl ?_); refine box_event ?hg (N := 5) ?hd (cs := zcells) (t := 33) ?hr ?_; (case hd => rfl); (case hg => rfl); (case hr => exact alloc33 _ _ _ _ _ _); intro g5 hg_ wb5 hbox_ hba_; have BZ5 := Aside0.mk hbox_; have HZ5 := Aside0.mk hba_; have GZ5 := Aside0.mk hg_; clear hg_ hbox_ hba_)
            | ((with_reducible refine gate_op (.store 33 (.tmp 5) (.tmp 12)) rfl ?_); refine put_row rfl 33 (.tmp 5) (.tmp 12) rfl g5 (by rfl) 33 zcells #[.int .i64 x.f0, .string x.f1, .int .i32 x.f2, .int .i64 x.f3.f0, .int .i64 x.f3.f1, .int .i64 x.f3.f2] (by rfl) BZ5.out I33.out rfl (by simp [Value.oneCell']) ?_; intro wp5 hb_ hk_ hbl_ hsz_; have BP5 := Aside0.mk hb_; have KP5 := Aside0.mk hk_; have QP5 := Aside0.mk hbl_; clear hb_ hk_ hbl_ hsz_; have hx5_ := HZ5.out.trans (QP5.out _ (Nat.le_of_eq GZ5.out.symm)); have HW5 := Aside0.mk (below_then HBJ.out HBJ.out.size hx5_); have HI5 := Aside0.mk (IsB.below HIJ.out hx5_); have HG5 := Aside0.mk (show g5 ≠ g3 from Nat.ne_of_gt (by rw [GZ5.out]; exact HG3.out)); have b5_ := BP5.out; have c50 : wp5.cell? ⟨g5, 0, none⟩ = some (.int .i64 x.f0) := (blk_cell b5_ 0).trans rfl; have f50 := blk_frozen b5_ 0; have c51 : wp5.cell? ⟨g5, 1, none⟩ = some (.string x.f1) := (blk_cell b5_ 1).trans rfl; have f51 := blk_frozen b5_ 1; have c52 : wp5.cell? ⟨g5, 2, none⟩ = some (.int .i32 x.f2) := (blk_cell b5_ 2).trans rfl; have f52 := blk_frozen b5_ 2; have c53 : wp5.cell? ⟨g5, 3, none⟩ = some (.int .i64 x.f3.f0) := (blk_cell b5_ 3).trans rfl; have f53 := blk_frozen b5_ 3; have c54 : wp5.cell? ⟨g5, 4, none⟩ = some (.int .i64 x.f3.f1) := (blk_cell b5_ 4).trans rfl; have f54 := blk_frozen b5_ 4; have c55 : wp5.cell? ⟨g5, 5, none⟩ = some (.int .i64 x.f3.f2) := (blk_cell b5_ 5).trans rfl; have f55 := blk_frozen b5_ 5; clear b5_ hx5_)
            | (go_at_call 36; (with_reducible refine (wstr_calls w.heap.size g3 _ x.f1 _ HI5.out HL2.out HW5.out.size).mono ?_); rintro e w7 ⟨rfl, hbt, hb, hsp⟩; have HW7 := Aside0.mk (HW5.out.trans hb); have HI7 := Aside0.mk (show Lib.IsBuilder 62 5 w.heap.size g3 _ w7 from .inr hbt); clear hbt hb hsp))
          go_roundg k1
          case measure => omega
          case rel => exact ⟨1, by first | rfl | go_num, ⟨by have h_ := HJK.out; omega⟩, ⟨by have h_ := HJ9.out; omega⟩, ⟨by
            have h_ := HI7.out
            rw [Lib.strCells_eq, ← Lib.byteCells_append, HRX.out] at h_
            exact h_⟩, HW7, ⟨(HI7.out.elim (fun x => x.lt) (fun x => x.lt))⟩⟩
        · have h0i : (0 : Int) < (j : Int) := by omega
          have HL1 : Aside0 ((Lib.byteCells (jn L j)).length + 1 ≤ 140737488355328) := ⟨by rw [Lib.byteCells_length]; omega⟩
          have HL2 : Aside0 ((Lib.byteCells (jn L j) ++ [Value.int .u8 32]).length + x.f1.size ≤ 140737488355328) := ⟨by rw [List.length_append, Lib.byteCells_length]; simp; omega⟩
          have HJ0 := Aside0.mk h0
          clear hj hjl hrx hbd h0
          go_wp2_with (first
            | ((with_reducible refine gate_dst (N := 5) rfl ?_); refine box_event ?hg (N := 5) ?hd (cs := zcells) (t := 33) ?hr ?_; (case hd => rfl); (case hg => rfl); (case hr => exact alloc33 _ _ _ _ _ _); intro g5 hg_ wb5 hbox_ hba_; have BZ5 := Aside0.mk hbox_; have HZ5 := Aside0.mk hba_; have GZ5 := Aside0.mk hg_; clear hg_ hbox_ hba_)
            | ((with_reducible refine gate_op (.store 33 (.tmp 5) (.tmp 12)) rfl ?_); refine put_row rfl 33 (.tmp 5) (.tmp 12) rfl g5 (by rfl) 33 zcells #[.int .i64 x.f0, .string x.f1, .int .i32 x.f2, .int .i64 x.f3.f0, .int .i64 x.f3.f1, .int .i64 x.f3.f2] (by rfl) BZ5.out I33.out rfl (by simp [Value.oneCell']) ?_; intro wp5 hb_ hk_ hbl_ hsz_; have BP5 := Aside0.mk hb_; have KP5 := Aside0.mk hk_; have QP5 := Aside0.mk hbl_; clear hb_ hk_ hbl_ hsz_; have hx5_ := HZ5.out.trans (QP5.out _ (Nat.le_of_eq GZ5.out.symm)); have HW5 := Aside0.mk (below_then HBJ.out HBJ.out.size hx5_); have HI5 := Aside0.mk (IsB.below HIJ.out hx5_); have HG5 := Aside0.mk (show g5 ≠ g3 from Nat.ne_of_gt (by rw [GZ5.out]; exact HG3.out)); have b5_ := BP5.out; have c50 : wp5.cell? ⟨g5, 0, none⟩ = some (.int .i64 x.f0) := (blk_cell b5_ 0).trans rfl; have f50 := blk_frozen b5_ 0; have c51 : wp5.cell? ⟨g5, 1, none⟩ = some (.string x.f1) := (blk_cell b5_ 1).trans rfl; have f51 := blk_frozen b5_ 1; have c52 : wp5.cell? ⟨g5, 2, none⟩ = some (.int .i32 x.f2) := (blk_cell b5_ 2).trans rfl; have f52 := blk_frozen b5_ 2; have c53 : wp5.cell? ⟨g5, 3, none⟩ = some (.int .i64 x.f3.f0) := (blk_cell b5_ 3).trans rfl; have f53 := blk_frozen b5_ 3; have c54 : wp5.cell? ⟨g5, 4, none⟩ = some (.int .i64 x.f3.f1) := (blk_cell b5_ 4).trans rfl; have f54 := blk_frozen b5_ 4; have c55 : wp5.cell? ⟨g5, 5, none⟩ = some (.int .i64 x.f3.f2) := (blk_cell b5_ 5).trans rfl; have f55 := blk_frozen b5_ 5; clear b5_ hx5_)
            | (go_at_call 35; (with_reducible refine (wbyte_calls w.heap.size g3 _ 32 _ HI5.out HL1.out HW5.out.size).mono ?_); rintro e w6 ⟨rfl, hbt, hb, hsp⟩; have HW6 := Aside0.mk (HW5.out.trans hb); have HI6 := Aside0.mk (show Lib.IsBuilder 62 5 w.heap.size g3 _ w6 from .inr hbt); have b5_ := hsp g5 _ _ _ HG5.out BP5.out (by decide); have c51_ : w6.cell? ⟨g5, 1, none⟩ = some (.string x.f1) := (blk_cell b5_ 1).trans rfl; clear hbt hb hsp b5_)
            | (go_at_call 36; (with_reducible refine (wstr_calls w.heap.size g3 _ x.f1 _ HI6.out HL2.out HW6.out.size).mono ?_); rintro e w7 ⟨rfl, hbt, hb, hsp⟩; have HW7 := Aside0.mk (HW6.out.trans hb); have HI7 := Aside0.mk (show Lib.IsBuilder 62 5 w.heap.size g3 _ w7 from .inr hbt); clear hbt hb hsp))
          go_roundg k1
          case measure => omega
          case rel => exact ⟨j + 1, by first | (rw [HEW.out]; done) | rfl | go_num, ⟨by have h_ := HJK.out; omega⟩, ⟨by have h_ := HJ9.out; omega⟩, ⟨by
            have h_ := HI7.out
            rw [show [Value.int .u8 32] = Lib.byteCells [32] from rfl, Lib.strCells_eq, ← Lib.byteCells_append, ← Lib.byteCells_append, HRX.out] at h_
            have h2_ : jn L (j + 1) = jn L j ++ [32] ++ L.getD j [] := by
              show jn L j ++ (if 0 < j then [32] else []) ++ L.getD j [] = _
              rw [if_pos (Nat.pos_of_ne_zero HJ0.out)]
            rw [h2_]
            exact h_⟩, HW7, ⟨(HI7.out.elim (fun x => x.lt) (fun x => x.lt))⟩⟩
      · obtain rfl : j = n := by have h_ := HJ.out; omega
        clear hj
        have q1 : ((j : Int) < (j : Int)) = False := by apply eq_false; omega
        go_wp2_with ((go_at_call 37; (with_reducible refine (Try.Builder_String_any w.heap.size g3 (jn L j) _ HIJ.out HBJ.out.size).mono ?_); rintro e w9 ⟨rfl, hb⟩; have HB9 := Aside0.mk (HBJ.out.trans hb); clear hb))
        go_ret
        exact ⟨rfl, HB9.out⟩

end Go.Proofs.Ytbmabnmidacpdaa.L
