/- SHA-256 as the document tells it: plain facts on its words. -/
import Derived.Test.YtijjopioamdahaaProg
import Derived.Below
import Derived.Deep.Draws
import Derived.Deep.AppendLies
import Derived.Maps.AppendAt
import Derived.OwnWalk
import Derived.Laws.BytesArg
import Derived.Laws.MakeOwn
import Derived.Laws.OwnMore
import Derived.Deep.OwnRows
import Derived.Tactics
import Derived.Lib.ConvBytes
import Derived.Laws.Slices
import Derived.WalkKit
import Derived.KernelRfl
import Derived.RowKit3
import Derived.Deep.LoopGhost
import Derived.Deep.QuietTactic
import Derived.BigQuiet
import Derived.WideLaws
import Derived.Deep.DeepCutAuto
import Derived.Deep.CutBlock
import Derived.Deep.RegionHeld3
import Derived.Laws.Rows
import Derived.Lib.AppendStr
import Derived.ArgAppend
import Derived.Laws.IdiomCopy
import Derived.OrdersHeld
import Derived.Laws.BitsLemmas
import Derived.RowKit
import Derived.Test.YtijjopioamdahaaWWords
import Derived.Test.YtijjopioamdahaaWLast
import Derived.Test.YtijjopioamdahaaWTab
import Derived.Test.YtijjopioamdahaaWQPut
import Derived.Test.YtijjopioamdahaaWApart
import Derived.Test.YtijjopioamdahaaWArr
import Derived.Test.YtijjopioamdahaaWZeros
import Derived.Test.YtijjopioamdahaaWFoot
import Derived.Test.YtijjopioamdahaaWKept
import Derived.Test.YtijjopioamdahaaWShare
import Derived.Test.YtijjopioamdahaaWN
import Derived.Test.YtijjopioamdahaaWEqStruct
import Derived.Test.YtijjopioamdahaaWGuard
import Derived.Test.YtijjopioamdahaaWNEv
import Derived.Test.YtijjopioamdahaaWMore
import Derived.Test.YtijjopioamdahaaX1
import Derived.Test.YtijjopioamdahaaDgA
import Derived.Test.YtijjopioamdahaaDgB
import Derived.Test.YtijjopioamdahaaDgC
import Derived.Test.YtijjopioamdahaaDgD
import Derived.Test.YtijjopioamdahaaDgE
import Derived.Test.YtijjopioamdahaaDgF
import Derived.Test.YtijjopioamdahaaDgG
import Derived.Test.YtijjopioamdahaaDgH
import Derived.Test.YtijjopioamdahaaDgI
import Derived.Test.YtijjopioamdahaaDgJ
import Derived.DataShut
import Derived.Deep.RegionLawGrows
import Derived.Deep.Upon
import Derived.Deep.MidRow
namespace Go.Proofs.Ytijjopioamdahaa.D
open Go.RowKit Go.Proofs.Ytijjopioamdahaa.X Go.Proofs.YtijjopioamdahaaW.PrintWords Go.Proofs.YtijjopioamdahaaW.PrintLast Go.Proofs.YtijjopioamdahaaW.PrintMore
attribute [local go_sem] max2_int min2_int max_two min_two max_three min_three max_four min_four   -- for this text's walks alone
set_option linter.unusedVariables false
set_option linter.unusedSimpArgs false
theorem down_is (x n : Int) (h0 : 0 ≤ n) (h1 : n ≤ 32) : brazierref02_down.f x n = some (rot x n) := by
  have e : wrap64 (32 - n) = 32 - n := by unfold wrap64; omega
  unfold brazierref02_down.f rot
  rw [if_pos h0, e, if_pos (by omega)]
/-- The schedule, each word told by those ahead of it. -/
theorem rd_set_eq (l : List Int) (i : Nat) (v : Int) (h : i < l.length) : rd (l.set i v) (i : Int) = v := by
  unfold rd
  rw [Int.toNat_natCast, List.getD_eq_getElem?_getD, List.getElem?_set_self h]
  rfl
theorem rd_set_ne (l : List Int) (i j : Nat) (v : Int) (h : i ≠ j) : rd (l.set i v) (j : Int) = rd l (j : Int) := by
  unfold rd
  rw [Int.toNat_natCast, List.getD_eq_getElem?_getD, List.getElem?_set_ne h, ← List.getD_eq_getElem?_getD]
theorem schedN_keep (l : List Int) (n m j : Nat) (h : n ≤ m) (hj : j < 16 + n) : rd (schedN l m) (j : Int) = rd (schedN l n) (j : Int) := by
  induction m with
  | zero => rw [show n = 0 by omega]
  | succ m ih =>
    rcases Nat.lt_or_ge m n with h1 | h1
    · rw [show n = m + 1 by omega]
    · rw [schedN, rd_set_ne _ _ _ _ (by omega), ih h1]
theorem first16_keep (l : List Int) (n m j : Nat) (h : n ≤ m) (hj : j < n) : rd (first16 l m) (j : Int) = rd (first16 l n) (j : Int) := by
  induction m with
  | zero => omega
  | succ m ih =>
    rcases Nat.lt_or_ge m n with h1 | h1
    · rw [show n = m + 1 by omega]
    · rw [first16, rd_set_ne _ _ _ _ (by omega), ih h1]
theorem sched_low (l : List Int) (t : Nat) (h : t < 16) : rd (schedT l 64) (t : Int) = wordB l (4 * (t : Int)) := by
  show rd (schedN l 48) (t : Int) = _
  rw [schedN_keep l 0 48 t (by omega) (by omega)]
  show rd (first16 l 16) (t : Int) = _
  rw [first16_keep l (t + 1) 16 t (by omega) (by omega), first16, rd_set_eq _ _ _ (by rw [first16_len]; omega)]
theorem sched_high (l : List Int) (t : Nat) (h : 16 ≤ t) (h2 : t < 64) : rd (schedT l 64) (t : Int) = nextW (schedT l 64) t := by
  show rd (schedN l 48) (t : Int) = nextW (schedN l 48) t
  rw [schedN_keep l (t - 16 + 1) 48 t (by omega) (by omega), schedN, show 16 + (t - 16) = t by omega, rd_set_eq _ _ _ (by rw [schedN_len]; omega)]
  unfold nextW
  rw [schedN_keep l (t - 16) 48 (t - 16) (by omega) (by omega), schedN_keep l (t - 16) 48 (t - 15) (by omega) (by omega), schedN_keep l (t - 16) 48 (t - 7) (by omega) (by omega), schedN_keep l (t - 16) 48 (t - 2) (by omega) (by omega)]
theorem take_step (l : List Int) (t : Nat) (h : t < l.length) : l.take (t + 1) = l.take t ++ [rd l (t : Int)] := by
  rw [List.take_succ_eq_append_getElem h]
  congr 2
  unfold rd
  rw [Int.toNat_natCast, List.getD_eq_getElem?_getD, List.getElem?_eq_getElem h]
  rfl
theorem rd_take (l : List Int) (t j : Nat) (h : j < t) : rd (l.take t) (j : Int) = rd l (j : Int) := by
  unfold rd
  rw [Int.toNat_natCast, List.getD_eq_getElem?_getD, List.getD_eq_getElem?_getD, List.getElem?_take, if_pos h]
theorem rd_blk (es : List Int) (n j : Nat) (h : j < 64) : rd ((es.drop (64 * n)).take 64) (j : Int) = rd es ((64 * n + j : Nat) : Int) := by
  rw [rd_take _ _ _ h]
  unfold rd
  rw [Int.toNat_natCast, Int.toNat_natCast, List.getD_eq_getElem?_getD, List.getD_eq_getElem?_getD, List.getElem?_drop]
/-- A word's bytes, one laid behind the other. -/
def accW (l : List Int) (q : Int) : Nat → Int
  | 0 => 0
  | i + 1 => accW l q i * 256 + rd l (q + (i : Int))
theorem accW_bd (l : List Int) (q : Int) (h : ∀ i, 0 ≤ rd l i ∧ rd l i ≤ 255) (i : Nat) : 0 ≤ accW l q i ∧ accW l q i < 256 ^ i := by
  induction i with
  | zero => exact ⟨by show (0 : Int) ≤ 0; decide, by show (0 : Int) < 1; decide⟩
  | succ i ih =>
    have := h (q + (i : Int))
    refine ⟨by unfold accW; omega, ?_⟩
    have h2 : accW l q (i + 1) = accW l q i * 256 + rd l (q + (i : Int)) := rfl
    rw [h2, Int.pow_succ]
    omega
theorem or_join (x y : Int) (i : Nat) (hx : 0 ≤ x) (hm : x % 2 ^ i = 0) (hx1 : x < 2 ^ 32) (hy : 0 ≤ y) (hy1 : y < 2 ^ i) (hi : y < 2 ^ 32) : Go.bits .or .u32 x y = x + y :=
  bits_join .u32 32 (by decide) (fun n h0 h1 => by rw [IntKind.wrap_u32]; omega) i x y hx hm hx1 hy hy1 hi
theorem accW_is (l : List Int) (q : Int) (h : ∀ i, 0 ≤ rd l i ∧ rd l i ≤ 255) : accW l q 4 = wordB l q := by
  have h0 := h q
  have h1 := h (q + 1)
  have h2 := h (q + 2)
  have h3 := h (q + 3)
  unfold wordB
  rw [or_join (rd l q * 16777216) (rd l (q + 1) * 65536) 24 (by omega) (by omega) (by omega) (by omega) (by omega) (by omega)]
  rw [or_join _ (rd l (q + 2) * 256) 16 (by omega) (by omega) (by omega) (by omega) (by omega) (by omega)]
  rw [or_join _ (rd l (q + 3)) 8 (by omega) (by omega) (by omega) (by omega) (by omega) (by omega)]
  simp only [accW]
  rw [show q + ((0 : Nat) : Int) = q by omega, show q + ((1 : Nat) : Int) = q + 1 by omega, show q + ((2 : Nat) : Int) = q + 2 by omega, show q + ((3 : Nat) : Int) = q + 3 by omega]
  omega
theorem addF_comm (V S : List Int) (hV : V.length = 8) (hS : S.length = 8) : addF V S 8 = addF S V 8 := by
  obtain ⟨a, b, c, d, e, f, g, i, rfl⟩ := ex8 V hV
  obtain ⟨a', b', c', d', e', f', g', i', rfl⟩ := ex8 S hS
  simp only [addF, rd, Int.toNat_natCast, List.set_cons_zero, List.set_cons_succ, List.getD_eq_getElem?_getD, List.getElem?_cons_zero, List.getElem?_cons_succ, Option.getD_some]
  simp only [Int.add_comm a', Int.add_comm b', Int.add_comm c', Int.add_comm d', Int.add_comm e', Int.add_comm f', Int.add_comm g', Int.add_comm i']
/-- The bytes of the words so far. -/
def outL (V : List Int) : Nat → List Int
  | 0 => []
  | k + 1 => outL V k ++ [rd V (k : Int) / 16777216 % 256, rd V (k : Int) / 65536 % 256, rd V (k : Int) / 256 % 256, rd V (k : Int) % 256]
theorem outL_len (V : List Int) (k : Nat) : (outL V k).length = 4 * k := by
  induction k with
  | zero => rfl
  | succ k ih => rw [outL, List.length_append, ih]; simp; omega
theorem outL_is (V : List Int) : outL V 8 = outF V 8 := by
  simp [outL, outF, List.replicate]
theorem bits_ref (n : Int) (k : Nat) (h : k < 8) : n * 8 / 2 ^ (8 * (7 - k)) % 256 = 8 * n / 2 ^ (56 - 8 * k) % 256 := by
  rw [Int.mul_comm n 8, show 8 * (7 - k) = 56 - 8 * k by omega]
theorem own_of_R3 {w : World} {base : Nat} {ok : Nat → Prop} {v : Value} {xs : List Int} (h : Kd.R (Kd.int .u32) 24 w base ok v xs) : w.ownsRow base 24 1 v xs.length (encs (Value.int .u32) xs) := Kd.own_of_R h
theorem accW_lt (l : List Int) (q : Int) (h : ∀ i, 0 ≤ rd l i ∧ rd l i ≤ 255) (i : Nat) (hi : i ≤ 3) : 0 ≤ accW l q i ∧ accW l q i < 16777216 := by
  have h2 := accW_bd l q h i
  have : (256 : Int) ^ i ≤ 16777216 := by
    rcases (by omega : i = 0 ∨ i = 1 ∨ i = 2 ∨ i = 3) with rfl | rfl | rfl | rfl <;> decide
  omega
theorem build43c (x : Operand) (p : Int) (d : Option Tmp) (ty : TypeId) (ps : String) (af : Array Edge) (W : World) :
    (execOp (fun _ => .int .u32 p) ⟨d, .buildSlice 43 1 #[(0, x)], ty, ps, af, none⟩).run Try.prog W = .ok (.value (.slice (some ⟨W.heap.size, 0, none⟩) 1 1)) (W.alloc (.cells #[.int .u32 p] 24)) := by
  kernel_rfl
theorem build43 (ev : Operand → Value) (x : Operand) (p : Int) (hx : ev x = .int .u32 p) (d : Option Tmp) (ty : TypeId) (ps : String) (af : Array Edge) (W : World) :
    (execOp ev ⟨d, .buildSlice 43 1 #[(0, x)], ty, ps, af, none⟩).run Try.prog W = .ok (.value (.slice (some ⟨W.heap.size, 0, none⟩) 1 1)) (W.alloc (.cells #[.int .u32 p] 24)) := by
  refine Eq.trans ?_ (build43c x p d ty ps af W)
  simp [execOp, hx]
theorem R_eq {w : World} {base : Nat} {ok : Nat → Prop} {v : Value} {xs : List Int} {p q : Int} (h : Kd.R (Kd.int .u32) 24 w base ok v (xs ++ [p])) (e : p = q) : Kd.R (Kd.int .u32) 24 w base ok v (xs ++ [q]) := e ▸ h
theorem sum_cell {w : World} {base g cap : Nat} {ok : Nat → Prop} {S : List Int} (h : Kd.R (Kd.int .u32) 24 w base ok (.slice (some ⟨g, 0, none⟩) 8 cap) S) (k : Nat) (hk : k < 8) : w.cell? ⟨g, k, none⟩ = some (.int .u32 (rd S (k : Int))) := by
  have h2 := (Kd.R_celln (d := (0 : Int)) h (k : Int) (by omega) (by omega)).1
  rw [Int.toNat_natCast] at h2
  exact h2
def u32B (V : List Int) : Prop := ∀ i, 0 ≤ rd V i ∧ rd V i ≤ 4294967295
theorem u32B_of {V : List Int} (h : ∀ x ∈ V, 0 ≤ x ∧ x ≤ 4294967295) : u32B V := fun i => by
  unfold rd
  rw [List.getD_eq_getElem?_getD]
  rcases Nat.lt_or_ge i.toNat V.length with hi | hi
  · rw [List.getElem?_eq_getElem hi]; exact h _ (List.getElem_mem hi)
  · rw [List.getElem?_eq_none hi]; exact ⟨by decide, by decide⟩
theorem roundF_bd {V : List Int} (h : u32B V) (k x : Int) : u32B (roundF V k x) := u32B_of fun y hy => by
  have h0 := h 0
  have h1 := h 1
  have h2 := h 2
  have h4 := h 4
  have h5 := h 5
  have h6 := h 6
  simp only [roundF, List.mem_cons, List.not_mem_nil, or_false] at hy
  rcases hy with rfl | rfl | rfl | rfl | rfl | rfl | rfl | rfl <;> omega
theorem roundsF_bd (W : List Int) {S : List Int} (h : u32B S) (t : Nat) : u32B (roundsF W S t) := by
  induction t with
  | zero => exact h
  | succ t ih => exact roundF_bd ih _ _
theorem set_bd {V : List Int} (h : u32B V) (i : Nat) (v : Int) (hv : 0 ≤ v ∧ v ≤ 4294967295) : u32B (V.set i v) := fun j => by
  unfold rd
  rw [List.getD_eq_getElem?_getD, List.getElem?_set]
  split
  · split
    · exact hv
    · exact ⟨by decide, by decide⟩
  · have := h j
    unfold rd at this
    rw [List.getD_eq_getElem?_getD] at this
    exact this
theorem addF_bd {V : List Int} (h : u32B V) (S : List Int) (n : Nat) : u32B (addF V S n) := by
  induction n with
  | zero => exact h
  | succ n ih => exact set_bd ih _ _ (by omega)
theorem blkN_bd {S : List Int} (h : u32B S) (l : List Int) (n : Nat) : u32B (blkN S l n) := by
  induction n with
  | zero => exact h
  | succ n ih => exact addF_bd (roundsF_bd _ ih _) _ _
theorem start_bd : u32B START := u32B_of (by decide)
theorem round_0 {V : List Int} {k x x0 x1 x2 x4 x5 x6 x7 : Int} (h0 : x0 = rd V 0) (h1 : x1 = rd V 1) (h2 : x2 = rd V 2) (h4 : x4 = rd V 4) (h5 : x5 = rd V 5) (h6 : x6 = rd V 6) (h7 : x7 = rd V 7) (hn : Go.bits .xor .u32 IntKind.u32.max x4 = 4294967295 - x4) :
    ((x7 + Go.bits .xor .u32 (Go.bits .xor .u32 (rot x4 6) (rot x4 11)) (rot x4 25) + Go.bits .xor .u32 (Go.bits .and .u32 x4 x5) (Go.bits .and .u32 (4294967295 - x4) x6) + k + x) % 4294967296 + (Go.bits .xor .u32 (Go.bits .xor .u32 (rot x0 2) (rot x0 13)) (rot x0 22) + Go.bits .xor .u32 (Go.bits .xor .u32 (Go.bits .and .u32 x0 x1) (Go.bits .and .u32 x0 x2)) (Go.bits .and .u32 x1 x2)) % 4294967296) % 4294967296 = rd (roundF V k x) 0 := by
  show _ = (t1F V k x + t2F V) % 4294967296
  unfold t1F t2F
  rw [← h0, ← h1, ← h2, ← h4, ← h5, ← h6, ← h7, hn]
  omega
theorem round_4 {V : List Int} {k x x3 x4 x5 x6 x7 : Int} (h3 : x3 = rd V 3) (h4 : x4 = rd V 4) (h5 : x5 = rd V 5) (h6 : x6 = rd V 6) (h7 : x7 = rd V 7) (hn : Go.bits .xor .u32 IntKind.u32.max x4 = 4294967295 - x4) :
    (x3 + (x7 + Go.bits .xor .u32 (Go.bits .xor .u32 (rot x4 6) (rot x4 11)) (rot x4 25) + Go.bits .xor .u32 (Go.bits .and .u32 x4 x5) (Go.bits .and .u32 (4294967295 - x4) x6) + k + x) % 4294967296) % 4294967296 = rd (roundF V k x) 4 := by
  show _ = (rd V 3 + t1F V k x) % 4294967296
  unfold t1F
  rw [← h3, ← h4, ← h5, ← h6, ← h7, hn]
  omega
theorem blkN_take (S x y : List Int) (a : Nat) (h : x.length = 64 * a) (n : Nat) (hn : n ≤ a) : blkN S (x ++ y) n = blkN S x n := by
  induction n with
  | zero => rfl
  | succ n ih =>
    rw [blkN, blkN, ih (by omega)]
    congr 1
    rw [List.drop_append_of_le_length (by omega), List.take_append_of_le_length (by rw [List.length_drop]; omega)]
theorem blkN_app (S x y : List Int) (a : Nat) (h : x.length = 64 * a) (b : Nat) : blkN S (x ++ y) (a + b) = blkN (blkN S x a) y b := by
  induction b with
  | zero => exact blkN_take S x y a h a (Nat.le_refl _)
  | succ b ih =>
    rw [show a + (b + 1) = (a + b) + 1 by omega, blkN, blkN, ih]
    congr 1
    rw [show 64 * (a + b) = x.length + 64 * b by omega, List.drop_append, Nat.add_sub_cancel_left, List.drop_of_length_le (show x.length ≤ x.length + 64 * b by omega), List.nil_append]
theorem zerosN_mod (m q : Nat) : zerosN (64 * q + m) = zerosN m := by
  unfold zerosN
  rw [Nat.mul_add_mod]
theorem sha_all (l : List Int) : shaF l = outF (blkN START (padF l (l.length : Int)) ((padF l (l.length : Int)).length / 64)) 8 := by
  obtain ⟨q, hq⟩ : ∃ q, q = l.length / 64 := ⟨_, rfl⟩
  obtain ⟨x, hx⟩ : ∃ x, x = l.take (64 * q) := ⟨_, rfl⟩
  obtain ⟨y, hy⟩ : ∃ y, y = l.drop (64 * q) := ⟨_, rfl⟩
  have hl : l = x ++ y := by rw [hx, hy, List.take_append_drop]
  have hxl : x.length = 64 * q := by rw [hx, List.length_take]; omega
  have hll : l.length = 64 * q + y.length := by rw [hl, List.length_append, hxl]
  have hp2 : ∀ N : Int, padF l N = x ++ padF y N := fun N => by
    have hz : zerosN l.length = zerosN y.length := by rw [hll, zerosN_mod]
    unfold padF
    rw [hz, hl]
    simp only [List.append_assoc]
  have hp := hp2 (l.length : Int)
  have hb : blkN START l q = blkN START x q := by
    conv => lhs; rw [hl]
    exact blkN_take START x y q hxl q (Nat.le_refl _)
  unfold shaF sumF
  rw [← hq, ← hy, hp, hb, List.length_append, hxl, Nat.mul_add_div (by decide), blkN_app START x _ q hxl]

end Go.Proofs.Ytijjopioamdahaa.D
