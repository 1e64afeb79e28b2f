/- However bytes are cut in pieces, the sum is the same: the law's walk. -/
import Derived.Test.YtijjopioamdahaaProg
import Derived.Below
import Derived.Deep.Draws
import Derived.Deep.AppendLies
import Derived.Maps.AppendAt
import Derived.OwnWalk
import Derived.Laws.BytesArg
import Derived.Laws.MakeOwn
import Derived.Laws.OwnMore
import Derived.Deep.OwnRows
import Derived.Tactics
import Derived.Lib.ConvBytes
import Derived.Laws.Slices
import Derived.WalkKit
import Derived.KernelRfl
import Derived.RowKit3
import Derived.Deep.LoopGhost
import Derived.Deep.QuietTactic
import Derived.BigQuiet
import Derived.WideLaws
import Derived.Deep.DeepCutAuto
import Derived.Deep.CutBlock
import Derived.Deep.RegionHeld3
import Derived.Laws.Rows
import Derived.Lib.AppendStr
import Derived.ArgAppend
import Derived.Laws.IdiomCopy
import Derived.OrdersHeld
import Derived.Laws.BitsLemmas
import Derived.RowKit
import Derived.Test.YtijjopioamdahaaWWords
import Derived.Test.YtijjopioamdahaaWLast
import Derived.Test.YtijjopioamdahaaWTab
import Derived.Test.YtijjopioamdahaaWQPut
import Derived.Test.YtijjopioamdahaaWApart
import Derived.Test.YtijjopioamdahaaWArr
import Derived.Test.YtijjopioamdahaaWZeros
import Derived.Test.YtijjopioamdahaaWFoot
import Derived.Test.YtijjopioamdahaaWKept
import Derived.Test.YtijjopioamdahaaWShare
import Derived.Test.YtijjopioamdahaaWN
import Derived.Test.YtijjopioamdahaaWEqStruct
import Derived.Test.YtijjopioamdahaaWGuard
import Derived.Test.YtijjopioamdahaaWNEv
import Derived.Test.YtijjopioamdahaaWMore
import Derived.Test.YtijjopioamdahaaX1
import Derived.Test.YtijjopioamdahaaDgA
import Derived.Test.YtijjopioamdahaaDgB
import Derived.Test.YtijjopioamdahaaDgC
import Derived.Test.YtijjopioamdahaaDgD
import Derived.Test.YtijjopioamdahaaDgE
import Derived.Test.YtijjopioamdahaaDgF
import Derived.Test.YtijjopioamdahaaDgG
import Derived.Test.YtijjopioamdahaaDgH
import Derived.Test.YtijjopioamdahaaDgI
import Derived.Test.YtijjopioamdahaaDgL
import Derived.Test.YtijjopioamdahaaDgP
import Derived.Test.YtijjopioamdahaaDgQ
import Derived.DataShut
import Derived.Deep.RegionLawGrows
import Derived.Deep.Upon
import Derived.Deep.MidRow
namespace Go.Proofs.Ytijjopioamdahaa.D
open Go.RowKit Go.Proofs.Ytijjopioamdahaa.X Go.Proofs.YtijjopioamdahaaW.PrintWords Go.Proofs.YtijjopioamdahaaW.PrintLast Go.Proofs.YtijjopioamdahaaW.PrintMore
attribute [local go_sem] max2_int min2_int max_two min_two max_three min_three max_four min_four   -- for this text's walks alone
set_option linter.unusedVariables false
set_option linter.unusedSimpArgs false
/-- What a Hash that had the bytes xs holds. -/
def Rep (xs S ys : List Int) : Prop := ∃ q, xs.length = 64 * q + ys.length ∧ S = blkN START xs q ∧ ys = xs.drop (64 * q)
theorem rep_nil : Rep [] START [] := ⟨0, rfl, rfl, rfl⟩
theorem rep_len {xs S ys : List Int} (h : Rep xs S ys) : S.length = 8 ∧ ys.length ≤ xs.length := by
  obtain ⟨q, h1, h2, h3⟩ := h
  exact ⟨by rw [h2]; exact blkN_len _ _ rfl _, by omega⟩
theorem blkN_more (x y : List Int) (q : Nat) (h : 64 * q ≤ x.length) : blkN START (x ++ y) q = blkN START x q := by
  have e : x = x.take (64 * q) ++ x.drop (64 * q) := (List.take_append_drop _ _).symm
  have hl : (x.take (64 * q)).length = 64 * q := by rw [List.length_take]; omega
  rw [e, List.append_assoc, blkN_take START _ _ q hl q (Nat.le_refl _), blkN_take START _ _ q hl q (Nat.le_refl _)]
theorem rep_add {xs S ys : List Int} (h : Rep xs S ys) (p : List Int) : Rep (xs ++ p) (blkN S (ys ++ p) ((ys ++ p).length / 64)) ((ys ++ p).drop (64 * ((ys ++ p).length / 64))) := by
  obtain ⟨q, h1, h2, h3⟩ := h
  have hl : (xs.take (64 * q)).length = 64 * q := by rw [List.length_take]; omega
  have e : xs ++ p = xs.take (64 * q) ++ (ys ++ p) := by rw [h3, ← List.append_assoc, List.take_append_drop]
  have hd := Nat.div_add_mod (ys ++ p).length 64
  refine ⟨q + (ys ++ p).length / 64, ?_, ?_, ?_⟩
  · rw [List.length_drop, e, List.length_append, hl]
    omega
  · rw [e, blkN_app START _ _ q hl, ← blkN_more (xs.take (64 * q)) (xs.drop (64 * q)) q (by omega), List.take_append_drop, h2]
  · have ht : (xs.take (64 * q) ++ (ys ++ p)).drop (64 * q) = ys ++ p := by
      have h5 := List.drop_left (l₁ := xs.take (64 * q)) (l₂ := ys ++ p)
      rwa [hl] at h5
    rw [e, Nat.mul_add, ← List.drop_drop, ht]
theorem rep_sum {xs S ys : List Int} (h : Rep xs S ys) : sumF S ys (xs.length : Int) = shaF xs := by
  obtain ⟨q, h1, h2, h3⟩ := h
  have hl : xs = xs.take (64 * q) ++ ys := by rw [h3, List.take_append_drop]
  have hxl : (xs.take (64 * q)).length = 64 * q := by rw [List.length_take]; omega
  have hp : ∀ N : Int, padF xs N = xs.take (64 * q) ++ padF ys N := fun N => by
    have hz : zerosN xs.length = zerosN ys.length := by rw [h1, zerosN_mod]
    unfold padF
    rw [hz]
    conv => lhs; rw [hl]
    simp only [List.append_assoc]
  rw [sha_all, hp, List.length_append, hxl, Nat.mul_add_div (by decide), blkN_app START _ _ q hxl, ← blkN_more (xs.take (64 * q)) (xs.drop (64 * q)) q (by omega), List.take_append_drop, ← h2]
  rfl
/-- An element of a slice of slices of bytes. -/
theorem at_piece {w : World} {A : Option Addr} {n : Nat} {l : List (List Int)} (h : Kd.C (Kd.slice 5 (Kd.int .u8)) w A n l) (i : Nat) (hi : i < l.length) :
    ∃ ad A1 c1, A = some ad ∧ w.cell? (ad.add i) = some (.slice A1 (l[i]).length c1) ∧ (l[i]).length ≤ c1 ∧ Kd.C (Kd.int .u8) w A1 (l[i]).length l[i] := by
  obtain ⟨hn, _, hr⟩ := h
  obtain ⟨ad, rfl, hc⟩ := hr (by omega)
  obtain ⟨c, hl, ⟨A1, c1, rfl, h1, h2⟩, hcell⟩ := hc i _ (List.getElem?_eq_getElem hi)
  have h3 := hcell 0 (.slice A1 (l[i]).length c1) rfl
  refine ⟨ad, A1, c1, rfl, ?_, h1, h2⟩
  have hz : i * (Kd.slice 5 (Kd.int .u8)).sz + 0 = i := by show i * 1 + 0 = i; omega
  rw [hz] at h3
  exact h3
theorem own_some {A : Option Addr} {n c k : Nat} (h : (Value.slice A n c).ownBlock = some k) : ∃ a, A = some a ∧ a.block = k := by
  cases A with
  | none => cases h
  | some a => exact ⟨a, rfl, by injection h⟩
theorem C_grown2 {W W' : World} {A : Option Addr} {n : Nat} {xs : List Int} {row : Option Nat} (h : Kd.C (Kd.int .u8) W A n xs) (hg : W.grownBy W' row) (hne : ∀ a, A = some a → some a.block ≠ row) : Kd.C (Kd.int .u8) W' A n xs := by
  have h2 := Kd.reads_of_C (enc := Value.int .u8) (d := (0 : Int)) (h1 := fun _ => rfl) h
  refine Kd.C_of_reads (enc := Value.int .u8) (d := (0 : Int)) (h1 := fun _ => rfl) ⟨h2.1, h2.2.1, fun hn => ?_⟩
  obtain ⟨ad, e, hc⟩ := h2.2.2 hn
  refine ⟨ad, e, fun j hj => ?_⟩
  rw [← hc j hj]
  refine World.cell?_of_block (hg.block _ ?_ ?_)
  · exact World.block_lt_of_cell? _ _ (hc j hj)
  · rw [add_blk]; exact hne ad e
theorem R_block {w : World} {base : Nat} {ok : Nat → Prop} {A : Option Addr} {n c : Nat} {xs : List Int} (h : Kd.R (Kd.int .u8) 5 w base ok (.slice A n c) xs) : ∀ a, A = some a → base ≤ a.block ∧ a.block < w.heap.size := fun a e => by
  subst e
  have h2 := Kd.own_of_R (enc := Value.int .u8) (h1 := fun _ => rfl) h
  exact ⟨own_base h2 a.block rfl, own_lt h2 a.block rfl⟩
theorem R_row2 {W w1 : World} {base : Nat} {A : Option Addr} {n c : Nat} {xs : List Int} {row : Option Nat} (h : Kd.R (Kd.int .u8) 5 W base (fun _ => True) (.slice A n c) xs) (hg : W.grownBy w1 row) (hne : ∀ a, A = some a → some a.block ≠ row) : Kd.R (Kd.int .u8) 5 w1 base (fun _ => True) (.slice A n c) xs :=
  Kd.R_grown2 h rfl hg (fun k e e2 => by
    obtain ⟨a, ha, hk⟩ := own_some e2.symm
    exact hne a ha (by rw [hk, e]))
section
variable {w1 wr w3 w4 w5 wz : World} {g : Nat} {A3 A4 A6 A7 A8 : Option Addr} {xs p1 x2 y2 zs : List Int} {n4 n6 n7 c4 c6 c7 : Nat} {o : Obj}
theorem pm1 (hB3 : Below wr.heap.size wr w3) (hgr : w3.grownBy w4 (some g)) (hgl : g < w1.heap.size) (hw1 : w1.heap.size ≤ wr.heap.size)
    (hR4 : Kd.R (Kd.int .u8) 5 wr w1.heap.size (fun _ => True) (.slice A4 n4 c4) xs) (hR6 : Kd.R (Kd.int .u8) 5 w3 wr.heap.size (fun _ => True) (.slice A6 n6 c6) p1) :
    Kd.R (Kd.int .u8) 5 w4 w1.heap.size (fun _ => True) (.slice A4 n4 c4) xs ∧ Kd.R (Kd.int .u8) 5 w4 wr.heap.size (fun _ => True) (.slice A6 n6 c6) p1 ∧ w1.heap.size ≤ w4.heap.size := by
  have h3 := hB3.size
  have h4 := hgr.size
  refine ⟨R_row2 (Kd.R_below hR4 hB3) hgr (fun a e e2 => ?_), R_row2 hR6 hgr (fun a e e2 => ?_), by omega⟩
  · have := R_block hR4 a e
    injection e2 with e2
    omega
  · have := R_block hR6 a e
    injection e2 with e2
    omega
theorem pm2 (hB3 : Below wr.heap.size wr w3) (hgr : w3.grownBy w4 (some g)) (hgl : g < w1.heap.size) (hw1 : w1.heap.size ≤ wr.heap.size)
    (hA3 : ∀ a, A3 = some a → a.block < wr.heap.size ∧ ∀ b, A4 = some b → a.block ≠ b.block)
    (hR4 : Kd.R (Kd.int .u8) 5 wr w1.heap.size (fun _ => True) (.slice A4 n4 c4) xs) (hR6 : Kd.R (Kd.int .u8) 5 w3 wr.heap.size (fun _ => True) (.slice A6 n6 c6) p1)
    (hlb : LeftBlk w3 w4 A3 A8) (hg5 : w4.grownBy w5 (Value.slice A4 n4 c4).ownBlock)
    (hat : (Value.slice A7 n7 c7).ownBlock = (Value.slice A4 n4 c4).ownBlock ∨ ∃ b, (Value.slice A7 n7 c7).ownBlock = some b ∧ w4.heap.size ≤ b)
    (hG4 : w4.heap[g]? = some o) (hC : Kd.C (Kd.int .u8) w4 A8 y2.length y2) :
    w5.heap[g]? = some o ∧ Kd.C (Kd.int .u8) w5 A8 y2.length y2 ∧ (∀ a, A8 = some a → a.block < w5.heap.size ∧ ∀ b, A7 = some b → a.block ≠ b.block) ∧
      Kd.R (Kd.int .u8) 5 w5 wr.heap.size (fun _ => True) (.slice A6 n6 c6) p1 ∧ (∀ a, A6 = some a → a.block ≠ g ∧ (∀ b, A7 = some b → a.block ≠ b.block) ∧ ∀ b, A8 = some b → a.block ≠ b.block) := by
  have h3 := hB3.size
  have h4 := hgr.size
  have h5 := hg5.size
  have b4 := R_block hR4
  have b6 := R_block hR6
  have hA7 : ∀ b, A7 = some b → (∃ b4, A4 = some b4 ∧ b4.block = b.block) ∨ w4.heap.size ≤ b.block := fun b e => by
    subst e
    rcases hat with h | ⟨k, h, hk⟩
    · obtain ⟨a, ha, hb⟩ := own_some h.symm
      exact Or.inl ⟨a, ha, hb⟩
    · injection h with h
      exact Or.inr (by omega)
  have hA8 : ∀ a, A8 = some a → (a.block < wr.heap.size ∧ ∀ b, A4 = some b → a.block ≠ b.block) ∨ (w3.heap.size ≤ a.block ∧ a.block < w4.heap.size) := fun a e => by
    rcases hlb a e with ⟨a0, e0, h⟩ | h
    · exact Or.inl (by rw [h]; exact hA3 a0 e0)
    · exact Or.inr h
  obtain ⟨r1, r2, _⟩ := pm1 hB3 hgr hgl hw1 hR4 hR6
  refine ⟨(hg5.block g (blk_lt hG4) (fun e => ?_)).trans hG4, C_grown2 hC hg5 (fun a e e2 => ?_), fun a e => ⟨?_, fun b eb hn => ?_⟩, R_row2 r2 hg5 (fun a e e2 => ?_), fun a e => ⟨?_, fun b eb hn => ?_, fun b eb hn => ?_⟩⟩
  · obtain ⟨a, ha, hb⟩ := own_some e.symm
    have := b4 a ha
    omega
  · obtain ⟨b, hb, hk⟩ := own_some e2.symm
    have := b4 b hb
    rcases hA8 a e with h | h
    · exact h.2 b hb hk.symm
    · omega
  · rcases hA8 a e with h | h <;> omega
  · rcases hA7 b eb with ⟨b', e4, h⟩ | h
    · have := b4 b' e4
      rcases hA8 a e with h' | h'
      · exact h'.2 b' e4 (by omega)
      · omega
    · rcases hA8 a e with h' | h' <;> omega
  · obtain ⟨b, hb, hk⟩ := own_some e2.symm
    have := b4 b hb
    have := b6 a e
    omega
  · have := b6 a e
    omega
  · have := b6 a e
    rcases hA7 b eb with ⟨b', e4, h⟩ | h
    · have := b4 b' e4
      omega
    · omega
  · have := b6 a e
    rcases hA8 b eb with h | h <;> omega
theorem pm3 (hz : w5.grownBy wz (Value.slice A6 n6 c6).ownBlock) (hG : w5.heap[g]? = some o) (hC : Kd.C (Kd.int .u8) w5 A8 y2.length y2)
    (h8 : ∀ a, A8 = some a → a.block < w5.heap.size ∧ ∀ b, A7 = some b → a.block ≠ b.block)
    (h6 : ∀ a, A6 = some a → a.block ≠ g ∧ (∀ b, A7 = some b → a.block ≠ b.block) ∧ ∀ b, A8 = some b → a.block ≠ b.block)
    (hR7 : Kd.R (Kd.int .u8) 5 w5 w1.heap.size (fun _ => True) (.slice A7 n7 c7) x2) :
    wz.heap[g]? = some o ∧ Kd.C (Kd.int .u8) wz A8 y2.length y2 ∧ (∀ a, A8 = some a → a.block < wz.heap.size ∧ ∀ b, A7 = some b → a.block ≠ b.block) ∧ Kd.R (Kd.int .u8) 5 wz w1.heap.size (fun _ => True) (.slice A7 n7 c7) x2 := by
  have hs := hz.size
  refine ⟨(hz.block g (blk_lt hG) (fun e => ?_)).trans hG, C_grown2 hC hz (fun a e e2 => ?_), fun a e => ⟨?_, (h8 a e).2⟩, R_row2 hR7 hz (fun a e e2 => ?_)⟩
  · obtain ⟨a, ha, hb⟩ := own_some e.symm
    exact (h6 a ha).1 hb
  · obtain ⟨b, hb, hk⟩ := own_some e2.symm
    exact (h6 b hb).2.2 a e hk
  · have := (h8 a e).1
    omega
  · obtain ⟨b, hb, hk⟩ := own_some e2.symm
    exact (h6 b hb).2.1 a e hk
end
theorem okB_app2 {a b : List Int} (h : C.okB a) (h' : C.okB b) : C.okB (a ++ b) := fun x hx => (List.mem_append.1 hx).elim (h x) (h' x)
theorem sum_nil2 (w : World) (e0 : List Int) (h : shaF [] = e0) : Calls Try.prog 20 #[.pointer none] w fun e w' => e = .returned (.agg (u8s e0)) ∧ Below w.heap.size w w' := by
  have h2 := rep_sum rep_nil
  rw [← h, ← h2]
  exact sum_nil w
theorem sha_nil2 (w : World) (e0 : List Int) (h : shaF [] = e0) : Calls Try.prog 13 #[.slice none 0 0] w fun e w' => e = .returned (.agg (u8s e0)) ∧ Below w.heap.size w w' := by
  rw [← h]
  exact sha_calls none 0 [] w (Kd.C_nil _ _) (Nat.le_refl _) (by decide) (fun x hx => by cases hx)
set_option maxHeartbeats 20000000 in
set_option maxRecDepth 100000 in
theorem pieces_calls (A : Option Addr) (c : Nat) (l : List (List Int)) (w : World) (hr : Kd.C (Kd.slice 5 (Kd.int .u8)) w A l.length l) (hc : l.length ≤ c) (h8 : ∀ y ∈ l, y.length ≤ maxLen ∧ ∀ z ∈ y, (Lit.int .u8 z).wf = true) :
    Calls Try.prog 8 #[.slice A l.length c] w fun e w' => e = .returned (.bool true) ∧ Below w.heap.size w w' := by
  have HR := Aside0.mk hr
  have HC := Aside0.mk hc
  have H8 : Aside0 (∀ y ∈ l, C.okB y) := ⟨fun y hy => okB_wf (h8 y hy).2⟩
  have hll : l.length ≤ 9223372036854775807 := hr.2.1
  have HLL := Aside0.mk hll
  have hlli : (l.length : Int) ≤ 9223372036854775807 := by omega
  clear hr hc h8 hll
  go_enter Try.func8, Try.ntmps8
  go_wp2_with (go_at_call 18; refine (new_calls _).mono ?_; rintro e w1 ⟨g, rfl, hg, hgw, hb⟩; have HG := Aside0.mk hg; have GW := Aside0.mk hgw; have HB1 := Aside0.mk hb; have GL := Aside0.mk (blk_lt hg); clear hg hgw hb)
  go_loopw [4, 12] (fun v i wr => ∃ (k : Nat) (xs S ys : List Int) (A4 : Option Addr) (c4 : Nat) (A3 : Option Addr) (c3 : Nat), k ≤ l.length ∧ k ≤ 30 ∧ i = .int .i64 k ∧ v = .slice A4 xs.length c4 ∧ Aside0 (Rep xs S ys) ∧ Aside0 (C.okB xs) ∧ Aside0 (xs.length ≤ 300 * k) ∧ Aside0 (wr.heap[g]? = some (.cells (hcells S (.slice A3 ys.length c3) (xs.length : Int)) 50 (0, 0))) ∧ Aside0 (Kd.C (Kd.int .u8) wr A3 ys.length ys) ∧ Aside0 (ys.length ≤ c3) ∧ Aside0 (∀ a, A3 = some a → a.block < wr.heap.size ∧ ∀ b, A4 = some b → a.block ≠ b.block) ∧ Aside0 (Kd.R (Kd.int .u8) 5 wr w1.heap.size (fun _ => True) (.slice A4 xs.length c4) xs) ∧ Aside0 (w1.heap.size ≤ wr.heap.size) ∧ Aside0 (Below w.heap.size w wr)) (fun _ i _ => l.length - (intOf i).toNat)
  case atStart => exact ⟨0, [], START, [], none, 0, none, 0, by omega, by omega, rfl, rfl, ⟨rep_nil⟩, ⟨fun x hx => by cases hx⟩, ⟨Nat.zero_le _⟩, HG, ⟨Kd.C_nil _ _⟩, ⟨Nat.le_refl _⟩, ⟨fun a h => by cases h⟩, ⟨Kd.R_nil _ _ _ _ _⟩, ⟨Nat.le_refl _⟩, HB1⟩
  case round =>
    clear HG HB1
    obtain ⟨k, xs, S, ys, A4, c4, A3, c3, hk, hk30', rfl, rfl, HREP, HX8, HXL, HG, HC3, HCC3, HA3, HR4, HW1, HB⟩ := hrel
    by_cases hkl : k < l.length
    · by_cases hk30 : k < 30
      · obtain ⟨ad, A1, c1, e0, hcell0, hp1, hCp⟩ := at_piece HR.out k hkl
        cases e0
        have hcell := pw_cell_below HB.out hcell0
        obtain ⟨p0, hp0⟩ : ∃ p0, p0 = l[k] := ⟨_, rfl⟩
        rw [← hp0] at hcell hp1 hCp
        obtain ⟨p1, hpe⟩ : ∃ p1, p1 = p0.take 300 := ⟨_, rfl⟩
        have hpl : p1.length = min 300 p0.length := by rw [hpe]; exact List.length_take
        have hp8 : C.okB p1 := fun x hx => H8.out p0 (by rw [hp0]; exact List.getElem_mem _) x (by rw [hpe] at hx; exact List.mem_of_mem_take hx)
        have hCp1 : Kd.C (Kd.int .u8) wr A1 p1.length p1 := by
          have h := Kd.C_below hCp HB.out
          rcases Nat.lt_or_ge p0.length 300 with h1 | h1
          · rw [show p1 = p0 from by rw [hpe]; exact List.take_of_length_le (by omega)]; exact h
          · have h2 := Kd.C_take h h1
            rw [hpe]; exact h2
        have hcut := cut22 A1 c1 p0.length p1.length (by omega) hp1
        have hj_ : (if (300 : Int) < (p0.length : Int) then 300 else (p0.length : Int)) = (p1.length : Int) := by split <;> omega
        have hp0m : p0.length ≤ 9223372036854775807 := hCp.2.1
        have hp0i : (p0.length : Int) ≤ 9223372036854775807 := by omega
        have hp1i : (p1.length : Int) ≤ 300 := by omega
        have d1 : (k : Int) < (l.length : Int) := by omega
        have d2 : decide ((30 : Int) ≤ (k : Int)) = false := decide_eq_false (by omega)
        have HP8 := Aside0.mk hp8
        have HCP := Aside0.mk hCp1
        have HP1 := Aside0.mk (show p1.length ≤ 300 by omega)
        have HK30 := Aside0.mk hk30
        have HKL := Aside0.mk hkl
        have HS8 := Aside0.mk (rep_len HREP.out)
        clear hcell0 hp1 hCp hp0 hpe hpl hp8 hCp1 hk hk30' hp0m hk30
        go_wp2_with (first | ((with_reducible refine gate_dst (N := 19) rfl ?_); refine Kd.R_lit (Kd.int .u8) _ 5 ?hg (N := 19) ?hd (xs := ([] : List Int)) (inner := []) (ok := fun _ => True) (okp := fun _ => True) ?hr ?hp (fun _ hk => hk) trivial (Below.refl _ _) (Nat.le_refl _) (by simp) ?_; (case hd => rfl); (case hg => rfl); (case hr => first | (go_simp; done) | (go_simp; rfl)); (case hp => exact Reps.none _ _); intro v19 w2 ho hb hg_ hnew_; have HO19 := Aside0.mk ho; have HB2 := Aside0.mk hb; clear ho hb hg_ hnew_) | ((with_reducible refine gate_builtin (b := .append) (xs := #[.tmp 19, .tmp 24]) rfl ?_); at_builtin; refine Kd.R_append_row (Value.int .u8) (0 : Int) (h1 := fun _ => rfl) (w0 := wr) wr.heap.size rfl (.tmp 19) (.tmp 24) 22 5 (.int .u8 0) 1 rfl Try.underlying22 info5 rfl (by decide) v19 [] p1 A1 p1.length c1 (fun _ => True) rfl rfl (fun _ _ => trivial) HO19.out (Kd.C_below HCP.out HB2.out) HB2.out HB2.out.size (by have h_ := HP1.out; simp; omega) ?_; intro v25 w3 ho hb hg hat; obtain ⟨A6, c6, rfl, hc6, hC6⟩ := Kd.R_reads (show Kd.R (Kd.int .u8) 5 w3 wr.heap.size (fun _ => True) v25 p1 from ho); have HO25 : Aside0 (Kd.R (Kd.int .u8) 5 w3 wr.heap.size (fun _ => True) (.slice A6 p1.length c6) p1) := ⟨ho⟩; have HC6 := Aside0.mk hC6; have HCC6 := Aside0.mk hc6; have HB3 := Aside0.mk hb; clear ho hb hg hat hc6 hC6) | (go_at_call 19; refine (add_at g S A3 c3 ys (xs.length : Int) A6 c6 p1 w3 HS8.out.1 (blk_below HG.out HB3.out) (Kd.C_below HC3.out HB3.out) HCC3.out HC6.out HCC6.out (by have h_ := HP1.out; omega) (by have h_ := HS8.out.2; have h2_ := HXL.out; have h3_ := HK30.out; omega) (by have h2_ := HXL.out; have h3_ := HK30.out; omega) (fun x hx => HX8.out x (by obtain ⟨q_, _, _, h3_⟩ := HREP.out; rw [h3_] at hx; exact List.mem_of_mem_drop hx)) HP8.out).mono ?_; rintro e w4 ⟨rfl, A8, c8, hg, hC, hcc, hgr, hlb⟩; have hrep2 := rep_add HREP.out p1; (generalize blkN S (ys ++ p1) ((ys ++ p1).length / 64) = S2 at hg hrep2); (generalize (ys ++ p1).drop (64 * ((ys ++ p1).length / 64)) = y2 at hg hC hcc hrep2); have hm := pm1 HB3.out hgr GL.out HW1.out HR4.out HO25.out; have HR44 := Aside0.mk hm.1; have HO6 := Aside0.mk hm.2.1; have HW4 := Aside0.mk hm.2.2; have HG4 := Aside0.mk hg; have HC4 := Aside0.mk hC; have HCC4 := Aside0.mk hcc; have HGR4 := Aside0.mk hgr; have HLB := Aside0.mk hlb; have HREP2 := Aside0.mk hrep2; clear hg hC hcc hgr hlb hrep2 hm) | ((with_reducible refine gate_builtin (b := .append) (xs := #[.tmp 29, .tmp 30]) rfl ?_); at_builtin; refine Kd.R_append_row (Value.int .u8) (0 : Int) (h1 := fun _ => rfl) (w0 := w4) w1.heap.size rfl (.tmp 29) (.tmp 30) 22 5 (.int .u8 0) 1 rfl Try.underlying22 info5 rfl (by decide) (.slice A4 xs.length c4) xs p1 A6 p1.length c6 (fun _ => True) rfl rfl (fun _ _ => trivial) HR44.out (Kd.R_reads' HO6.out).2.2 (Below.refl _ _) HW4.out (by have h_ := HP1.out; have h2_ := HXL.out; have h3_ := HK30.out; omega) ?_; intro v31 w5 ho hb hg5 hat; have hx2l : (xs ++ p1).length = xs.length + p1.length := List.length_append; have hx28 := okB_app2 HX8.out HP8.out; have hrep2 := HREP2.out; (generalize xs ++ p1 = x2 at ho hx2l hx28 hrep2); obtain ⟨A7, c7, rfl, hc7, hC7⟩ := Kd.R_reads (show Kd.R (Kd.int .u8) 5 w5 w1.heap.size (fun _ => True) v31 x2 from ho); have hm := pm2 HB3.out HGR4.out GL.out HW1.out HA3.out HR4.out HO25.out HLB.out hg5 hat HG4.out HC4.out; have HR7 : Aside0 (Kd.R (Kd.int .u8) 5 w5 w1.heap.size (fun _ => True) (.slice A7 x2.length c7) x2) := ⟨ho⟩; have HM := Aside0.mk hm; have HX2L := Aside0.mk hx2l; have HX28 := Aside0.mk hx28; have HREP3 := Aside0.mk hrep2; have HC7 := Aside0.mk hc7; have HB5 : Aside0 (Below w.heap.size w w5) := ⟨Below.grown (Below.grown (below_step HB.out HB3.out) HGR4.out (by have h_ := HB.out.size; have h2_ := HB3.out.size; omega) (by intro k_ e_; injection e_ with e_; rw [← e_]; exact GW.out)) hg5 (by have h_ := HB.out.size; have h2_ := HB3.out.size; have h3_ := HGR4.out.size; omega) (by intro k_ e_; obtain ⟨a_, h1_, h2_⟩ := own_some e_; have h3_ := (R_block HR44.out a_ h1_).1; have h4_ := GW.out; have h5_ := GL.out; omega)⟩; have HW5 := Aside0.mk (Nat.le_trans HW4.out hg5.size); clear ho hb hg5 hat hm hx2l hx28 hrep2 hc7 hC7))
        obtain ⟨wo, rfl⟩ : ∃ wo : World, wo = wr := ⟨_, rfl⟩
        go_loopw [34] (fun i wr => ∃ (j : Nat) (zs : List Int), j ≤ p1.length ∧ i = .int .i64 j ∧ Aside0 (zs.length = p1.length) ∧ Aside0 (Kd.R (Kd.int .u8) 5 wr wo.heap.size (fun _ => True) (.slice A6 p1.length c6) zs) ∧ Aside0 (w5.grownBy wr (Value.slice A6 p1.length c6).ownBlock)) (fun i _ => p1.length - (intOf i).toNat)
        case atStart => exact ⟨0, p1, by omega, rfl, ⟨rfl⟩, ⟨HM.out.2.2.2.1⟩, ⟨World.grownBy.refl _ _⟩⟩
        case round =>
          obtain ⟨j, zs, hj, rfl, HZL, HRZ, HGZ⟩ := hrel
          by_cases hjp : j < p1.length
          · obtain ⟨b6, hb6⟩ : ∃ b, A6 = some ⟨b, 0, none⟩ := by
              rcases (Kd.own_of_R (enc := Value.int .u8) (h1 := fun _ => rfl) HRZ.out).2 with ⟨e, _⟩ | ⟨b, cap, cur, e, _⟩
              · injection e with _ e2 _
                omega
              · injection e with e1 _ _
                exact ⟨b, e1⟩
            subst hb6
            obtain ⟨hx1, hf1⟩ := Kd.R_celln (d := (0 : Int)) HRZ.out (j : Int) (by omega) (by omega)
            rw [Int.toNat_natCast] at hx1 hf1
            have HJP := Aside0.mk hjp
            have dj : (j : Int) < (p1.length : Int) := by omega
            go_wp2
            go_roundw
            case rel =>
              have hp := Kd.R_putg HRZ.out (j : Int) 0
              rw [Int.toNat_natCast] at hp
              exact ⟨j + 1, zs.set j 0, HJP.out, by go_num, ⟨by rw [List.length_set]; exact HZL.out⟩, ⟨hp.1⟩, ⟨gr_trans HGZ.out hp.2⟩⟩
            case measure => have := HJP.out; simp [intOf]; omega
          · have hjq : j = p1.length := by omega
            subst hjq
            have hm := pm3 HGZ.out HM.out.1 HM.out.2.1 HM.out.2.2.1 HM.out.2.2.2.2 HR7.out
            have HGz := Aside0.mk hm.1
            have HCz := Aside0.mk hm.2.1
            have HAz := Aside0.mk hm.2.2.1
            have HRz := Aside0.mk hm.2.2.2
            have HBz : Aside0 (Below w.heap.size w wr) := ⟨Below.grown HB5.out HGZ.out HB5.out.size (by intro k_ e_; obtain ⟨a_, h1_, h2_⟩ := own_some e_; have h3_ := (R_block HO25.out a_ h1_).1; have h4_ := HB.out.size; omega)⟩
            have HWz := Aside0.mk (Nat.le_trans HW5.out HGZ.out.size)
            have hn2 : (xs.length : Int) + (p1.length : Int) = (x2.length : Int) := by have := HX2L.out; omega
            rw [hn2] at HGz
            have HS2 := Aside0.mk (rep_len HREP3.out)
            have HSUM := Aside0.mk (rep_sum HREP3.out)
            have hx2b : x2.length ≤ 20000 := by have := HX2L.out; have := HXL.out; have := HP1.out; have := HK30.out; omega
            have HX2B := Aside0.mk hx2b
            clear hm hn2 hx2b hjp hj HZL HRZ HGZ
            have hg28 := guard28
            have he28 := eq28 (shaF x2) (shaF_len x2)
            go_wp2_with (first | (go_at_call 20; refine (sum_calls g S2 A8 c8 y2 (x2.length : Int) wr HS2.out.1 HGz.out HCz.out HCC4.out (by have h_ := HS2.out.2; have h2_ := HX2B.out; omega) (by have h2_ := HX2B.out; omega) (fun x hx => HX28.out x (by obtain ⟨q_, _, _, h3_⟩ := HREP3.out; rw [h3_] at hx; exact List.mem_of_mem_drop hx))).mono ?_; rw [HSUM.out]; rintro e w6 ⟨rfl, hb⟩; have HB6 := Aside0.mk hb; clear hb) | (go_at_call 13; refine (sha_calls A7 c7 x2 w6 (Kd.C_below (Kd.R_reads' HRz.out).2.2 HB6.out) HC7.out (by have h2_ := HX2B.out; omega) HX28.out).mono ?_; rintro e w7 ⟨rfl, hb⟩; have HB7 := Aside0.mk (below_step HB6.out hb); clear hb) | (go_at_call 21; refine (len_calls g S2 _ (x2.length : Int) w7 HS2.out.1 (blk_below HGz.out HB7.out)).mono ?_; rintro e w8 ⟨rfl, rfl⟩))
            go_roundw
            case rel =>
              refine ⟨k + 1, x2, S2, y2, A7, c7, A8, c8, HKL.out, HK30.out, by go_num, rfl, HREP3, HX28, ⟨by have := HX2L.out; have := HXL.out; have := HP1.out; omega⟩, ⟨blk_below HGz.out HB7.out⟩, ⟨Kd.C_below HCz.out HB7.out⟩, HCC4, ⟨fun a e => ⟨Nat.lt_of_lt_of_le (HAz.out a e).1 HB7.out.size, (HAz.out a e).2⟩⟩, ⟨Kd.R_below HRz.out HB7.out⟩, ⟨Nat.le_trans HWz.out HB7.out.size⟩, ⟨below_step HBz.out HB7.out⟩⟩
            case measure => have := HKL.out; simp [intOf]; omega
      · have d1 : (k : Int) < (l.length : Int) := by omega
        have d2 : decide ((30 : Int) ≤ (k : Int)) = true := decide_eq_true (by omega)
        obtain ⟨ad, A1, c1, e0_, hcell0, _, _⟩ := at_piece HR.out k hkl
        cases e0_
        have hcell := pw_cell_below HB.out hcell0
        clear hcell0 hk30
        have HS2 := Aside0.mk (rep_len HREP.out)
        have HSUM := Aside0.mk (rep_sum HREP.out)
        have HX2B : Aside0 (xs.length ≤ 20000) := ⟨by have := HXL.out; omega⟩
        have HC4x : Aside0 (Kd.C (Kd.int .u8) wr A4 xs.length xs) := ⟨(Kd.R_reads' HR4.out).2.2⟩
        have HX8x : Aside0 (∀ x ∈ xs, 0 ≤ x ∧ x ≤ 255) := ⟨HX8.out⟩
        have HYS8 : Aside0 (∀ x ∈ ys, 0 ≤ x ∧ x ≤ 255) := ⟨fun x hx => HX8.out x (by obtain ⟨q_, _, _, h3_⟩ := HREP.out; rw [h3_] at hx; exact List.mem_of_mem_drop hx)⟩
        have HCC4x : Aside0 (xs.length ≤ c4) := ⟨(Kd.R_reads' HR4.out).2.1⟩
        have hg28 := guard28
        have he28 := eq28 (shaF xs) (shaF_len xs)
        obtain ⟨e0, he0⟩ : ∃ e0, shaF [] = e0 := ⟨_, rfl⟩
        have he29 := eq28 e0 (by rw [← he0]; exact shaF_len _)
        have HE0 := Aside0.mk he0
        clear he0 hk hk30'
        go_wp2_with (first | (go_at_call 19; refine (add_nil A4 xs.length c4 _).mono ?_; rintro e w' ⟨rfl, rfl⟩) | (go_at_call 20; (with_reducible refine (sum_calls g S A3 c3 ys (xs.length : Int) wr HS2.out.1 HG.out HC3.out HCC3.out (by have h_ := HS2.out.2; have h2_ := HX2B.out; omega) (by have h2_ := HX2B.out; omega) HYS8.out).mono ?_); rw [HSUM.out]; rintro e w6 ⟨rfl, hb⟩; have HB6 := Aside0.mk hb; clear hb) | (go_at_call 20; with_reducible refine (sum_nil2 _ e0 HE0.out).mono ?_; rintro e w8 ⟨rfl, hb⟩; have HB8 := Aside0.mk (below_step HB7.out hb); clear hb) | (go_at_call 13; with_reducible refine (sha_calls A4 c4 xs w6 (Kd.C_below HC4x.out HB6.out) HCC4x.out (by have h2_ := HX2B.out; omega) HX8x.out).mono ?_; rintro e w7 ⟨rfl, hb⟩; have HB7 := Aside0.mk (below_step HB6.out hb); clear hb) | (go_at_call 13; with_reducible refine (sha_nil2 _ e0 HE0.out).mono ?_; rintro e w9 ⟨rfl, hb⟩; have HB9 := Aside0.mk (below_step HB8.out hb); clear hb) | (go_at_call 21; with_reducible refine (len_nil _).mono ?_; rintro e w' ⟨rfl, rfl⟩) | (go_at_call 12; with_reducible refine (lives_calls _).mono ?_; rintro e w10 ⟨rfl, hb⟩; have HB10 := Aside0.mk (below_step HB9.out hb); clear hb))
        go_ret
        exact ⟨rfl, below_step HB.out HB10.out⟩
    · have d1 : ¬ (k : Int) < (l.length : Int) := by omega
      have HS2 := Aside0.mk (rep_len HREP.out)
      have HSUM := Aside0.mk (rep_sum HREP.out)
      have HX2B : Aside0 (xs.length ≤ 20000) := ⟨by have := HXL.out; omega⟩
      have HC4x : Aside0 (Kd.C (Kd.int .u8) wr A4 xs.length xs) := ⟨(Kd.R_reads' HR4.out).2.2⟩
      have HX8x : Aside0 (∀ x ∈ xs, 0 ≤ x ∧ x ≤ 255) := ⟨HX8.out⟩
      have HYS8 : Aside0 (∀ x ∈ ys, 0 ≤ x ∧ x ≤ 255) := ⟨fun x hx => HX8.out x (by obtain ⟨q_, _, _, h3_⟩ := HREP.out; rw [h3_] at hx; exact List.mem_of_mem_drop hx)⟩
      have HCC4x : Aside0 (xs.length ≤ c4) := ⟨(Kd.R_reads' HR4.out).2.1⟩
      have hg28 := guard28
      have he28 := eq28 (shaF xs) (shaF_len xs)
      obtain ⟨e0, he0⟩ : ∃ e0, shaF [] = e0 := ⟨_, rfl⟩
      have he29 := eq28 e0 (by rw [← he0]; exact shaF_len _)
      have HE0 := Aside0.mk he0
      clear he0 hk hk30'
      go_wp2_with (first | (go_at_call 19; refine (add_nil A4 xs.length c4 _).mono ?_; rintro e w' ⟨rfl, rfl⟩) | (go_at_call 20; (with_reducible refine (sum_calls g S A3 c3 ys (xs.length : Int) wr HS2.out.1 HG.out HC3.out HCC3.out (by have h_ := HS2.out.2; have h2_ := HX2B.out; omega) (by have h2_ := HX2B.out; omega) HYS8.out).mono ?_); rw [HSUM.out]; rintro e w6 ⟨rfl, hb⟩; have HB6 := Aside0.mk hb; clear hb) | (go_at_call 20; with_reducible refine (sum_nil2 _ e0 HE0.out).mono ?_; rintro e w8 ⟨rfl, hb⟩; have HB8 := Aside0.mk (below_step HB7.out hb); clear hb) | (go_at_call 13; with_reducible refine (sha_calls A4 c4 xs w6 (Kd.C_below HC4x.out HB6.out) HCC4x.out (by have h2_ := HX2B.out; omega) HX8x.out).mono ?_; rintro e w7 ⟨rfl, hb⟩; have HB7 := Aside0.mk (below_step HB6.out hb); clear hb) | (go_at_call 13; with_reducible refine (sha_nil2 _ e0 HE0.out).mono ?_; rintro e w9 ⟨rfl, hb⟩; have HB9 := Aside0.mk (below_step HB8.out hb); clear hb) | (go_at_call 21; with_reducible refine (len_nil _).mono ?_; rintro e w' ⟨rfl, rfl⟩) | (go_at_call 12; with_reducible refine (lives_calls _).mono ?_; rintro e w10 ⟨rfl, hb⟩; have HB10 := Aside0.mk (below_step HB9.out hb); clear hb))
      go_ret
      exact ⟨rfl, below_step HB.out HB10.out⟩

end Go.Proofs.Ytijjopioamdahaa.D
