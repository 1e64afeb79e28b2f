import Derived.Test.YtbmabnmidacpdaaProg
import Derived.Below
import Derived.Deep.Draws
import Derived.Deep.AppendLies
import Derived.Maps.AppendAt
import Derived.OwnWalk
import Derived.Laws.BytesArg
import Derived.Laws.MakeOwn
import Derived.Laws.OwnMore
import Derived.Deep.OwnRows
import Derived.Tactics
import Derived.Lib.ConvBytes
import Derived.Laws.Slices
import Derived.WalkKit
import Derived.KernelRfl
import Derived.RowKit3
import Derived.IntWalk
import Derived.Deep.LoopGhost
import Derived.Deep.QuietTactic
import Derived.BigQuiet
import Derived.WideLaws
import Derived.Deep.DeepCutAuto
import Derived.Deep.CutBlock
import Derived.Deep.RegionHeld3
import Derived.Laws.Rows
import Derived.Lib.AppendStr
import Derived.ArgAppend
import Derived.Laws.IdiomCopy
import Derived.OrdersHeld
import Derived.Laws.BitsLemmas
import Derived.RowKit
import Derived.Test.YtbmabnmidacpdaaWWords
import Derived.Test.YtbmabnmidacpdaaWLast
import Derived.Test.YtbmabnmidacpdaaWTab
import Derived.Test.YtbmabnmidacpdaaWQPut
import Derived.Test.YtbmabnmidacpdaaWApart
import Derived.Test.YtbmabnmidacpdaaWArr
import Derived.Test.YtbmabnmidacpdaaWZeros
import Derived.Test.YtbmabnmidacpdaaWFoot
import Derived.Test.YtbmabnmidacpdaaWKept
import Derived.Test.YtbmabnmidacpdaaWShare
import Derived.Test.YtbmabnmidacpdaaWN
import Derived.Test.YtbmabnmidacpdaaWEqStruct
import Derived.Test.YtbmabnmidacpdaaWGuard
import Derived.Test.YtbmabnmidacpdaaWNEv
import Derived.Test.YtbmabnmidacpdaaWMore
import Derived.Test.YtbmabnmidacpdaaX1
import Derived.Test.YtbmabnmidacpdaaX2
import Derived.Test.YtbmabnmidacpdaaX3
import Derived.Test.YtbmabnmidacpdaaX4
import Derived.Test.YtbmabnmidacpdaaSh
import Derived.Test.YtbmabnmidacpdaaLxA
import Derived.Test.YtbmabnmidacpdaaLxB
import Derived.Test.YtbmabnmidacpdaaLxC
import Derived.Test.YtbmabnmidacpdaaLxD
import Derived.Test.YtbmabnmidacpdaaLxP
import Derived.Test.YtbmabnmidacpdaaHw
import Derived.Test.YtbmabnmidacpdaaLxE
import Derived.Test.YtbmabnmidacpdaaLxS
import Derived.Test.YtbmabnmidacpdaaLxT
import Derived.Test.YtbmabnmidacpdaaLxV
import Derived.Test.YtbmabnmidacpdaaLxU
import Derived.Test.YtbmabnmidacpdaaLxW
import Derived.Test.YtbmabnmidacpdaaLxX
import Derived.Test.YtbmabnmidacpdaaLxR
import Derived.Test.YtbmabnmidacpdaaLxZ
import Derived.Test.YtbmabnmidacpdaaLyA
import Derived.Test.YtbmabnmidacpdaaLyB
import Derived.Lib.Builder

import Derived.Lib.UnsafeStr
import Derived.Laws.Externs
import Derived.DataShut
import Derived.Deep.RegionLawGrows
import Derived.Deep.Upon
import Derived.Deep.MidRow
namespace Go.Proofs.Ytbmabnmidacpdaa.L
open Go.RowKit Go.Proofs.Ytbmabnmidacpdaa.X Go.Proofs.YtbmabnmidacpdaaW.PrintWords Go.Proofs.YtbmabnmidacpdaaW.PrintLast Go.Proofs.YtbmabnmidacpdaaW.PrintMore
attribute [local go_sem] max2_int min2_int max_two min_two max_three min_three max_four min_four   -- for this text's walks alone
set_option linter.unusedVariables false
set_option linter.unusedSimpArgs false
/-! Blanks and comments between tokens. -/
structure GW (g : List UInt8) : Prop where
  sep : ∃ b q, g = b :: q ∧ blk b = true
  lex : ∀ (r : List UInt8) (o : Nat), lexP (g ++ r) o = lexP r (o + g.length)
theorem lex_blk {b : UInt8} (h : blk b = true) (r : List UInt8) (o : Nat) : lexP (b :: r) o = lexP r (o + 1) := by
  rw [lexP_gap o (by rw [gap_blk h]; decide), gap_blk h]
  rfl
theorem gw_one {b : UInt8} (h : blk b = true) : GW [b] := ⟨⟨b, [], rfl, h⟩, fun r o => lex_blk h r o⟩
theorem gw_cons {b : UInt8} {g : List UInt8} (h : blk b = true) (hg : ∀ r o, lexP (g ++ r) o = lexP r (o + g.length)) : GW (b :: g) :=
  ⟨⟨b, g, rfl, h⟩, fun r o => by
    rw [List.cons_append, lex_blk h, hg, List.length_cons]
    congr 1
    omega⟩
theorem iB_skip (c : UInt8) : ∀ (a r : List UInt8), (∀ x ∈ a, x ≠ c) → Lib.indexByte (a ++ c :: r) c = (a.length : Int)
  | [], r, _ => by
    show Lib.indexByte (c :: r) c = 0
    unfold Lib.indexByte
    rw [if_pos (beq_self_eq_true c)]
  | x :: a, r, h => by
    have ih := iB_skip c a r (fun y hy => h y (List.mem_cons_of_mem _ hy))
    have hx := h x List.mem_cons_self
    show Lib.indexByte (x :: (a ++ c :: r)) c = _
    unfold Lib.indexByte
    rw [if_neg (by simpa using hx), ih, if_neg (by rw [beq_iff_eq]; omega)]
    simp
theorem gw_line (n : List UInt8) (h : ∀ x ∈ n, x ≠ 10) : GW (32 :: 47 :: 47 :: (n ++ [10])) := by
  refine gw_cons rfl fun r o => ?_
  have e : (47 :: 47 :: (n ++ [10])) ++ r = (47 : UInt8) :: (47 :: (n ++ 10 :: r)) := by simp
  have hi : Lib.indexByte ((47 : UInt8) :: (47 :: (n ++ 10 :: r))) 10 = ((n.length + 2 : Nat) : Int) := by
    have h2 := iB_skip 10 (47 :: 47 :: n) r (by
      intro x hx
      rcases List.mem_cons.1 hx with rfl | hx
      · decide
      · rcases List.mem_cons.1 hx with rfl | hx
        · decide
        · exact h x hx)
    exact h2
  have hg : gapL ((47 : UInt8) :: (47 :: (n ++ 10 :: r))) = ((n.length + 2 : Nat) : Int) := by
    rw [gap_cons, if_neg (by decide), if_pos (by rw [pre_two]; decide), if_pos (by rw [hi]; omega), hi]
  rw [e, lexP_gap o (by rw [hg]; omega), hg, Int.toNat_natCast]
  have hd : ((47 : UInt8) :: (47 :: (n ++ 10 :: r))).drop (n.length + 2) = 10 :: r := by
    show (n ++ 10 :: r).drop n.length = _
    rw [List.drop_left]
  rw [hd, lex_blk rfl]
  congr 1
  simp
  omega
theorem ix_skip : ∀ (a r : List UInt8), (∀ x ∈ a, x ≠ 42) → Lib.index (a ++ 42 :: 47 :: r) [42, 47] = (a.length : Int)
  | [], r, _ => by
    show Lib.index (42 :: 47 :: r) [42, 47] = 0
    unfold Lib.index
    rw [if_pos (by simp [List.isPrefixOf])]
  | x :: a, r, h => by
    have ih := ix_skip a r (fun y hy => h y (List.mem_cons_of_mem _ hy))
    have hx := h x List.mem_cons_self
    show Lib.index (x :: (a ++ 42 :: 47 :: r)) [42, 47] = _
    unfold Lib.index
    have hp : ¬ ([42, 47] : List UInt8).isPrefixOf (x :: (a ++ 42 :: 47 :: r)) = true := by
      intro hp
      obtain ⟨t, ht⟩ := List.isPrefixOf_iff_prefix.1 hp
      injection ht with ht _
      exact hx ht.symm
    rw [if_neg hp, ih, if_neg (by rw [beq_iff_eq]; omega)]
    simp
theorem gw_note (n : List UInt8) (h : ∀ x ∈ n, x ≠ 42) : GW (32 :: 47 :: 42 :: (n ++ [42, 47])) := by
  refine gw_cons rfl fun r o => ?_
  have e : (47 :: 42 :: (n ++ [42, 47])) ++ r = (47 : UInt8) :: (42 :: (n ++ 42 :: 47 :: r)) := by simp
  have hi : Lib.index (((47 : UInt8) :: (42 :: (n ++ 42 :: 47 :: r))).drop 2) [42, 47] = (n.length : Int) := ix_skip n r h
  have hg : gapL ((47 : UInt8) :: (42 :: (n ++ 42 :: 47 :: r))) = ((n.length + 4 : Nat) : Int) := by
    rw [gap_cons, if_neg (by decide), if_neg (by rw [pre_two]; decide), if_pos (by rw [pre_two]; decide), hi, if_neg (by omega)]
    omega
  rw [e, lexP_gap o (by rw [hg]; omega), hg, Int.toNat_natCast]
  have hd : ((47 : UInt8) :: (42 :: (n ++ 42 :: 47 :: r))).drop (n.length + 4) = r := by
    show (n ++ 42 :: 47 :: r).drop (n.length + 2) = _
    rw [List.drop_append]
    simp
  rw [hd]
  congr 1
  simp
theorem gw_app {g h : List UInt8} (a : GW g) (b : GW h) : GW (g ++ h) := by
  obtain ⟨⟨x, q, rfl, hx⟩, ha⟩ := a
  refine ⟨⟨x, q ++ h, rfl, hx⟩, fun r o => ?_⟩
  rw [List.append_assoc, ha, b.lex, List.length_append]
  congr 1
  omega
def gpL (n : List UInt8) : List (List UInt8) := [[32], [10], [9, 13, 32], 32 :: 47 :: 47 :: (n ++ [10]), 32 :: 47 :: 42 :: (n ++ [42, 47]), [32, 47, 42, 32, 10, 32, 42, 47, 32]]
theorem gp_all (n : List UInt8) (h : ∀ x ∈ n, x ≠ 10 ∧ x ≠ 42) : ∀ g ∈ gpL n, GW g := by
  intro g hg
  unfold gpL at hg
  simp only [List.mem_cons, List.not_mem_nil, or_false] at hg
  rcases hg with rfl | rfl | rfl | rfl | rfl | rfl
  · exact gw_one rfl
  · exact gw_one rfl
  · exact gw_app (g := [9]) (gw_one rfl) (gw_app (g := [13]) (gw_one rfl) (gw_one rfl))
  · exact gw_line n (fun x hx => (h x hx).1)
  · exact gw_note n (fun x hx => (h x hx).2)
  · exact gw_app (g := [32, 47, 42, 32, 10, 32, 42, 47]) (gw_note [32, 10, 32] (by decide)) (gw_one rfl)
/-- Tokens with a gap behind each. -/
def catL (gs : Nat → List UInt8) : List T → Nat → List UInt8
  | [], _ => []
  | t :: r, j => t.tx ++ (gs j ++ catL gs r (j + 1))
theorem lex_cat (gs : Nat → List UInt8) (hg : ∀ j, GW (gs j)) : ∀ (m : List T) (j o : Nat), (∀ t ∈ m, Alone t) → ∃ m2, lexP (catL gs m j) o = .ok m2 ∧ SameL m m2
  | [], j, o, _ => ⟨[], rfl, .nil⟩
  | t :: m, j, o, h => by
    obtain ⟨m2, h1, h2⟩ := lex_cat gs hg m (j + 1) (o + t.tx.length + (gs j).length) (fun x hx => h x (List.mem_cons_of_mem _ hx))
    obtain ⟨b, q, hbq, hb⟩ := (hg j).sep
    have h3 := lex_tok (h t List.mem_cons_self) (r := gs j ++ catL gs m (j + 1)) (.inr ⟨b, q ++ catL gs m (j + 1), by rw [hbq]; rfl, hb⟩) o
    rw [(hg j).lex, h1] at h3
    exact ⟨_, h3, .cons ⟨rfl, rfl, rfl⟩ h2⟩
/-- What the loop has put together behind j tokens. -/
def outL (gs : Nat → List UInt8) (g0 : List UInt8) (L : List (List UInt8)) : Nat → List UInt8
  | 0 => g0
  | j + 1 => outL gs g0 L j ++ (L.getD j [] ++ gs j)
theorem out_cat (gs : Nat → List UInt8) (g0 : List UInt8) (L : List T) : ∀ (m j : Nat), j + m = L.length → outL gs g0 (L.map T.tx) L.length = outL gs g0 (L.map T.tx) j ++ catL gs (L.drop j) j := by
  intro m
  induction m with
  | zero =>
    intro j h
    obtain rfl : j = L.length := by omega
    rw [List.drop_eq_nil_of_le (Nat.le_refl _)]
    simp [catL]
  | succ m ih =>
    intro j h
    have hj : j < L.length := by omega
    rw [ih (j + 1) (by omega), List.drop_eq_getElem_cons hj]
    have h2 : (L.map T.tx).getD j [] = (L[j]).tx := by
      rw [List.getD_eq_getElem?_getD, List.getElem?_map, List.getElem?_eq_getElem hj]
      rfl
    show outL gs g0 (L.map T.tx) j ++ ((L.map T.tx).getD j [] ++ gs j) ++ catL gs (L.drop (j + 1)) (j + 1) = _
    rw [h2]
    show _ = outL gs g0 (L.map T.tx) j ++ ((L[j]).tx ++ (gs j ++ catL gs (L.drop (j + 1)) (j + 1)))
    simp
theorem lex_out (gs : Nat → List UInt8) (hg : ∀ j, GW (gs j)) (g0 : List UInt8) (h0 : GW g0) (L : List T) (ha : ∀ t ∈ L, Alone t) : ∃ m2, lexP (outL gs g0 (L.map T.tx) L.length) 0 = .ok m2 ∧ SameL L m2 := by
  rw [out_cat gs g0 L L.length 0 (by omega)]
  show ∃ m2, lexP (g0 ++ catL gs L 0) 0 = .ok m2 ∧ SameL L m2
  obtain ⟨m2, h1, h2⟩ := lex_cat gs hg L 0 (0 + g0.length) ha
  rw [h0.lex]
  exact ⟨m2, h1, h2⟩
theorem jn_le2 (L : List (List UInt8)) (n : Nat) (hn : L.length = n) : ∀ j, j < n → (L.getD j []).length ≤ (jn L n).length := by
  subst hn
  have hm : ∀ m k, k + m = L.length → (jn L k).length ≤ (jn L L.length).length := by
    intro m
    induction m with
    | zero => intro k h; obtain rfl : k = L.length := by omega
              exact Nat.le_refl _
    | succ m ih =>
      intro k h
      refine Nat.le_trans ?_ (ih (k + 1) (by omega))
      show _ ≤ (jn L k ++ _ ++ _).length
      rw [List.length_append, List.length_append]
      omega
  intro j hj
  refine Nat.le_trans ?_ (hm (L.length - (j + 1)) (j + 1) (by omega))
  show _ ≤ (jn L j ++ _ ++ L.getD j []).length
  rw [List.length_append]
  omega
def gapB (note : ByteArray) : List ByteArray := [⟨#[32]⟩, ⟨#[10]⟩, ⟨#[9, 13, 32]⟩, (⟨#[32, 47, 47]⟩ ++ note ++ ⟨#[10]⟩), (⟨#[32, 47, 42]⟩ ++ note ++ ⟨#[42, 47]⟩), ⟨#[32, 47, 42, 32, 10, 32, 42, 47, 32]⟩]
theorem gapB_list (note : ByteArray) : (gapB note).map (fun x => x.data.toList) = gpL note.data.toList := by
  unfold gapB gpL
  simp only [List.map_cons, List.map_nil, add_list]
  rfl
theorem gapC (w : World) (note : ByteArray) : Kd.C Kd.string (w.alloc (.cells #[.string ⟨#[32]⟩, .string ⟨#[10]⟩, .string ⟨#[9, 13, 32]⟩, .string (⟨#[32, 47, 47]⟩ ++ note ++ ⟨#[10]⟩), .string (⟨#[32, 47, 42]⟩ ++ note ++ ⟨#[42, 47]⟩), .string ⟨#[32, 47, 42, 32, 10, 32, 42, 47, 32]⟩] 9)) (some ⟨w.heap.size, 0, none⟩) 6 (gapB note) := by
  refine Kd.C_of_reads (enc := Value.string) (d := ByteArray.empty) (h1 := fun _ => rfl) ⟨rfl, by decide, fun _ => ⟨_, rfl, fun j hj => ?_⟩⟩
  have h := fun i => blk_cell (blk_new w (.cells #[.string ⟨#[32]⟩, .string ⟨#[10]⟩, .string ⟨#[9, 13, 32]⟩, .string (⟨#[32, 47, 47]⟩ ++ note ++ ⟨#[10]⟩), .string (⟨#[32, 47, 42]⟩ ++ note ++ ⟨#[42, 47]⟩), .string ⟨#[32, 47, 42, 32, 10, 32, 42, 47, 32]⟩] 9)) i
  have hj6 : j < 6 := hj
  match j, hj6 with
  | 0, _ => exact (h 0).trans rfl
  | 1, _ => exact (h 1).trans rfl
  | 2, _ => exact (h 2).trans rfl
  | 3, _ => exact (h 3).trans rfl
  | 4, _ => exact (h 4).trans rfl
  | 5, _ => exact (h 5).trans rfl
set_option maxHeartbeats 16000000 in
set_option maxRecDepth 100000 in
theorem beside_calls (s note : ByteArray) (how : Int) (w : World) (mx : Int) (hm : w.cell? ⟨0, 0, none⟩ = some (.int .i64 mx)) (hs : s.size ≤ 140737488351232) (hnt : note.size ≤ 140737488351232) (hhow : (Lit.int .u64 how).wf = true) :
    Calls Try.prog 4 #[.string s, .string note, .int .u64 how] w fun e w' => e = .returned (.bool true) ∧ Below w.heap.size w w' := by
  have I26 : Aside0 ((Try.prog.info? 26).map (·.size) = some 3) := ⟨by kernel_rfl⟩
  have I33 : Aside0 ((Try.prog.info? 33).map (·.size) = some 6) := ⟨by kernel_rfl⟩
  have hob : 0 ≤ how ∧ how ≤ 18446744073709551615 := by
    have h_ := hhow
    simp [Lit.wf, IntKind.min, IntKind.max, IntKind.signed, IntKind.bits] at h_
    exact h_
  obtain ⟨n0, hn0⟩ : ∃ n0 : Nat, min s.size 1000 = n0 := ⟨_, rfl⟩
  obtain ⟨t, ht⟩ : ∃ t, s.extract 0 n0 = t := ⟨_, rfl⟩
  have ht2 : t.size ≤ 1000 := by rw [← ht, ← slen, ext_list, List.length_take]; omega
  have hts : t.size ≤ 1000000000 := by omega
  have hmn : (if 1000 < (s.size : Int) then (1000 : Int) else (s.size : Int)) = (n0 : Int) := by rw [← hn0]; split <;> omega
  have hns : (n0 : Int) ≤ (s.size : Int) := by omega
  have hsi : (s.size : Int) ≤ 140737488351232 := by omega
  have hni : (note.size : Int) ≤ 140737488351232 := by omega
  have HT := Aside0.mk ht
  have HM := Aside0.mk hm
  have HO := Aside0.mk hob
  clear hm hhow hn0 hob
  by_cases hbig : 100 < note.size
  · have q0 : (100 : Int) < (note.size : Int) := by omega
    clear ht hbig
    go_enter Try.func4, Try.ntmps4
    go_wp2_with ((go_at_call 15; (with_reducible refine (lives_calls _ mx (MXb HM.out (Below.refl w.heap.size w))).mono ?_); rintro e wl ⟨rfl, hb⟩; have HBl := Aside0.mk (below_then (Below.refl w.heap.size w) (Below.refl w.heap.size w).size hb); clear hb))
    go_ret
    exact ⟨rfl, HBl.out⟩
  · have q0 : (note.size : Int) ≤ 100 := by omega
    have HNB := Aside0.mk hbig
    clear hbig
    go_enter Try.func4, Try.ntmps4
    go_wp2
    try rw [ht]
    clear ht
    go_loopg [29] (note.size + 1) (fun kq v wr => ∃ j : Nat, v = .int .i64 (j : Int) ∧ Aside0 (note.size + 1 ≤ j + kq) ∧ Aside0 (j ≤ note.size) ∧ Aside0 (∀ k, k < j → bt note (k : Int) ≠ 10 ∧ bt note (k : Int) ≠ 42) ∧ Drawn0 w wr)
    case atStart => exact ⟨0, rfl, ⟨by omega⟩, ⟨by omega⟩, ⟨fun k hk => by omega⟩, Drawn0.refl w⟩
    case round =>
      obtain ⟨j, rfl, HJK, HJ, HAL, hDJ⟩ := hrel
      have HDJ := Aside0.mk hDJ
      clear hDJ
      cases gk with
      | zero => exact absurd HJK.out (by have h_ := HJ.out; omega)
      | succ k1 =>
        by_cases hj : j < note.size
        · have q1 : ((j : Int) < (note.size : Int)) = True := by apply eq_true; omega
          have q2 : (j < note.size) = True := eq_true hj
          obtain ⟨c, hbt⟩ : ∃ c, bt note (j : Int) = c := ⟨_, rfl⟩
          have q3 : ∀ h : j < note.size, ((note[j]'h).toNat : Int) = c := fun h => (bt_at note (j : Int) h).trans hbt
          have HBT := Aside0.mk hbt
          have HJ9 := Aside0.mk hj
          have HEW : Aside0 (wrap64 ((j : Int) + 1) = ((j + 1 : Nat) : Int)) := ⟨by rw [w64 _ (by omega) (by omega)]; rfl⟩
          clear hj hbt
          by_cases h10 : c = 10
          · have b1 : (c == 10) = true := beq_iff_eq.mpr h10
            clear h10
            go_wp2_with ((go_at_call 15; (with_reducible refine (lives_calls _ mx (MXb HM.out HDJ.out.below)).mono ?_); rintro e wl ⟨rfl, hb⟩; have HBl := Aside0.mk (below_then HDJ.out.below HDJ.out.below.size hb); clear hb))
            go_ret
            exact ⟨rfl, HBl.out⟩
          · have b1 : (c == 10) = false := beq_eq_false_iff_ne.mpr h10
            have H10 := Aside0.mk h10
            clear h10
            by_cases h42 : c = 42
            · have b2 : (c == 42) = true := beq_iff_eq.mpr h42
              clear h42
              go_wp2_with ((go_at_call 15; (with_reducible refine (lives_calls _ mx (MXb HM.out HDJ.out.below)).mono ?_); rintro e wl ⟨rfl, hb⟩; have HBl := Aside0.mk (below_then HDJ.out.below HDJ.out.below.size hb); clear hb))
              go_ret
              exact ⟨rfl, HBl.out⟩
            · have b2 : (c == 42) = false := beq_eq_false_iff_ne.mpr h42
              have H42 := Aside0.mk h42
              clear h42
              go_wp2
              go_roundg k1
              case measure => omega
              case rel => exact ⟨j + 1, by first | (rw [HEW.out]; done) | rfl | go_num, ⟨by have h_ := HJK.out; omega⟩, ⟨by have h_ := HJ9.out; omega⟩, ⟨fun k hk => by
                by_cases hkj : k = j
                · subst hkj; rw [HBT.out]; exact ⟨H10.out, H42.out⟩
                · exact HAL.out k (by omega)⟩, HDJ.out⟩
        · obtain rfl : j = note.size := by have h_ := HJ.out; omega
          clear hj
          have q1 : ((note.size : Int) < (note.size : Int)) = False := by apply eq_false; omega
          have HNO : Aside0 (∀ x ∈ note.data.toList, x ≠ 10 ∧ x ≠ 42) := ⟨fun x hx => by
            obtain ⟨k, hk, rfl⟩ := List.getElem_of_mem hx
            have h_ := HAL.out k (by rw [slen] at hk; exact hk)
            rw [bt_list note k hk] at h_
            exact ⟨fun e => h_.1 (by rw [e]; rfl), fun e => h_.2 (by rw [e]; rfl)⟩⟩
          clear HAL
          cases hr : lexA t.data.toList with
          | err c off =>
            have hoff := lexA_off (by rw [slen]; omega) hr
            have HR := Aside0.mk hr
            have qc0 : (c != 0) = true := by rw [bne_iff_ne]; omega
            have qc1 : (c == 0) = false := by rw [beq_eq_false_iff_ne]; omega
            clear hr hoff
            go_wp2_with (first
              | (go_at_call 11; (with_reducible refine (all_err t _ mx (MXb HM.out HDJ.out.below) hts HR.out).mono ?_); rintro e w2 ⟨rfl, hb⟩; have HB2 := Aside0.mk (below_then HDJ.out.below HDJ.out.below.size hb); clear hb)
              | ((with_reducible refine gate_dst (N := 10) rfl ?_); refine box_event ?hg (N := 10) ?hd (cs := z3) (t := 26) ?hr ?_; (case hd => rfl); (case hg => rfl); (case hr => exact alloc26 _ _ _ _ _ _); intro ga hg_ wba hbox_ hba_; have BZa := Aside0.mk hbox_; have HZa := Aside0.mk hba_; have GZa := Aside0.mk hg_; clear hg_ hbox_ hba_)
              | ((with_reducible refine gate_op (.store 26 (.tmp 10) (.tmp 49)) rfl ?_); refine put_row rfl 26 (.tmp 10) (.tmp 49) rfl ga (by rfl) 26 z3 #[.int .i64 (off : Int), .int .i64 (lnA t off), .int .i64 ((off : Int) - stA t off + 1)] (by rfl) BZa.out I26.out rfl (by simp [Value.oneCell']) ?_; intro wpa hb_ hk_ hbl_ hsz_; have BPa := Aside0.mk hb_; have KPa := Aside0.mk hk_; have QPa := Aside0.mk hbl_; clear hb_ hk_ hbl_ hsz_; have HBPa := Aside0.mk ((below_then HB2.out HB2.out.size HZa.out).trans (QPa.out _ (by rw [GZa.out]; exact HB2.out.size))); have HSa := Aside0.mk (HZa.out.trans (QPa.out _ (Nat.le_of_eq GZa.out.symm))))
              | (go_at_call 15; (with_reducible refine (lives_calls _ mx (MXb HM.out HBPa.out)).mono ?_); rintro e wl ⟨rfl, hb⟩; have HBl := Aside0.mk (below_then HBPa.out HBPa.out.size hb); clear hb))
            go_ret
            exact ⟨rfl, HBl.out⟩
          | ok L =>
            have hl := lexA_len (by rw [slen]; omega) hr
            rw [slen] at hl
            have hr0 : lexP t.data.toList 0 = .ok L := by
              have h_ := hr
              rw [lexA_eq, if_neg (by rw [slen]; omega)] at h_
              exact h_
            have HAL := Aside0.mk (alone_all _ _ 0 L (Nat.lt_succ_self _) hr0)
            have HBJ := Aside0.mk (bj_len _ _ 0 L (Nat.lt_succ_self _) hr0)
            obtain ⟨n, hn⟩ : ∃ n, L.length = n := ⟨_, rfl⟩
            rw [hn] at hl
            have HR := Aside0.mk hr
            have HN := Aside0.mk hn
            have HM1 : Aside0 ((L.map (tk33 t)).length = n) := ⟨by rw [List.length_map, hn]⟩
            have s1 : 3 + note.size ≤ 9223372036854775807 := by omega
            have s2 : 3 + note.size + 1 ≤ 9223372036854775807 := by omega
            have s3 : 3 + note.size + 2 ≤ 9223372036854775807 := by omega
            have hhw : 0 ≤ how := HO.out.1
            have hhw2 : how ≤ 18446744073709551615 := HO.out.2
            clear hr hr0 hn
            go_upto_region 14 with (first
              | (go_at_call 11; (with_reducible refine (all_ok t _ mx (MXb HM.out HDJ.out.below) hts HR.out).mono ?_); rw [HN.out]; rintro e w2 ⟨A, cp, rfl, hcp, hR, hb⟩; have HB2 := Aside0.mk (below_then HDJ.out.below HDJ.out.below.size hb); have HC2 := Aside0.mk (show Kd.C k33 w2 A n (L.map (tk33 t)) from by have h_ := (Kd.R_reads' hR).2.2; rw [HM1.out] at h_; exact h_); clear hb hR)
              | ((with_reducible refine gate_dst (N := 10) rfl ?_); refine box_event ?hg (N := 10) ?hd (cs := z3) (t := 26) ?hr ?_; (case hd => rfl); (case hg => rfl); (case hr => exact alloc26 _ _ _ _ _ _); intro ga hg_ wba hbox_ hba_; have BZa := Aside0.mk hbox_; have HZa := Aside0.mk hba_; have GZa := Aside0.mk hg_; clear hg_ hbox_ hba_)
              | ((with_reducible refine gate_op (.store 26 (.tmp 10) (.tmp 49)) rfl ?_); refine put_row rfl 26 (.tmp 10) (.tmp 49) rfl ga (by rfl) 26 z3 #[.int .i64 0, .int .i64 0, .int .i64 0] (by rfl) BZa.out I26.out rfl (by simp [Value.oneCell']) ?_; intro wpa hb_ hk_ hbl_ hsz_; have BPa := Aside0.mk hb_; have KPa := Aside0.mk hk_; have QPa := Aside0.mk hbl_; clear hb_ hk_ hbl_ hsz_; have HBPa := Aside0.mk ((below_then HB2.out HB2.out.size HZa.out).trans (QPa.out _ (by rw [GZa.out]; exact HB2.out.size))); have HSa := Aside0.mk (HZa.out.trans (QPa.out _ (Nat.le_of_eq GZa.out.symm))))
              | ((with_reducible refine gate_dst (N := 59) rfl ?_); refine Kd.R_lit Kd.string _ 9 ?hg (N := 59) ?hd (xs := ([⟨#[32]⟩, ⟨#[10]⟩, ⟨#[9, 13, 32]⟩, (⟨#[32, 47, 47]⟩ ++ note ++ ⟨#[10]⟩), (⟨#[32, 47, 42]⟩ ++ note ++ ⟨#[42, 47]⟩), ⟨#[32, 47, 42, 32, 10, 32, 42, 47, 32]⟩] : List ByteArray)) (inner := [.string ⟨#[32]⟩, .string ⟨#[10]⟩, .string ⟨#[9, 13, 32]⟩, .string (⟨#[32, 47, 47]⟩ ++ note ++ ⟨#[10]⟩), .string (⟨#[32, 47, 42]⟩ ++ note ++ ⟨#[42, 47]⟩), .string ⟨#[32, 47, 42, 32, 10, 32, 42, 47, 32]⟩]) (ok := fun _ => True) (okp := fun _ => True) ?hr ?hp (fun _ hk => hk) trivial (Below.refl _ _) (Nat.le_refl _) (by simp) ?_; (case hd => rfl); (case hg => rfl); (case hr => first | (go_simp; done) | (go_simp; rfl)); (case hp => exact (Reps.one (show Kd.M Kd.string _ _ _ (⟨#[32]⟩ : ByteArray) [.string ⟨#[32]⟩] from rfl) (Reps.one (show Kd.M Kd.string _ _ _ (⟨#[10]⟩ : ByteArray) [.string ⟨#[10]⟩] from rfl) (Reps.one (show Kd.M Kd.string _ _ _ (⟨#[9, 13, 32]⟩ : ByteArray) [.string ⟨#[9, 13, 32]⟩] from rfl) (Reps.one (show Kd.M Kd.string _ _ _ ((⟨#[32, 47, 47]⟩ ++ note ++ ⟨#[10]⟩) : ByteArray) [.string (⟨#[32, 47, 47]⟩ ++ note ++ ⟨#[10]⟩)] from rfl) (Reps.one (show Kd.M Kd.string _ _ _ ((⟨#[32, 47, 42]⟩ ++ note ++ ⟨#[42, 47]⟩) : ByteArray) [.string (⟨#[32, 47, 42]⟩ ++ note ++ ⟨#[42, 47]⟩)] from rfl) (Reps.one (show Kd.M Kd.string _ _ _ (⟨#[32, 47, 42, 32, 10, 32, 42, 47, 32]⟩ : ByteArray) [.string ⟨#[32, 47, 42, 32, 10, 32, 42, 47, 32]⟩] from rfl) Reps.none _ _))))))); intro vg wg ho hb hg_ hnew_; obtain ⟨Ag, cg, rfl, hcg, hCg⟩ := Kd.R_reads ho; have HCG := Aside0.mk hCg; have HBg := Aside0.mk (below_then HBPa.out HBPa.out.size hb); have HSg := Aside0.mk hb; clear ho hb hg_ hnew_ hCg))
            have hCg := gapC wpa note
            have hBg := below_alloc HBPa.out (.cells #[.string ⟨#[32]⟩, .string ⟨#[10]⟩, .string ⟨#[9, 13, 32]⟩, .string (⟨#[32, 47, 47]⟩ ++ note ++ ⟨#[10]⟩), .string (⟨#[32, 47, 42]⟩ ++ note ++ ⟨#[42, 47]⟩), .string ⟨#[32, 47, 42, 32, 10, 32, 42, 47, 32]⟩] 9)
            have hSg : Below wpa.heap.size wpa (wpa.alloc (.cells #[.string ⟨#[32]⟩, .string ⟨#[10]⟩, .string ⟨#[9, 13, 32]⟩, .string (⟨#[32, 47, 47]⟩ ++ note ++ ⟨#[10]⟩), .string (⟨#[32, 47, 42]⟩ ++ note ++ ⟨#[42, 47]⟩), .string ⟨#[32, 47, 42, 32, 10, 32, 42, 47, 32]⟩] 9)) := below_alloc (Below.refl _ _) _
            generalize wpa.alloc (.cells #[.string ⟨#[32]⟩, .string ⟨#[10]⟩, .string ⟨#[9, 13, 32]⟩, .string (⟨#[32, 47, 47]⟩ ++ note ++ ⟨#[10]⟩), .string (⟨#[32, 47, 42]⟩ ++ note ++ ⟨#[42, 47]⟩), .string ⟨#[32, 47, 42, 32, 10, 32, 42, 47, 32]⟩] 9) = wg at hCg hBg hSg ⊢
            generalize (⟨wpa.heap.size, 0, none⟩ : Addr) = adg at hCg ⊢
            obtain ⟨h0, hh0⟩ : ∃ h0, how % 6 = h0 := ⟨_, rfl⟩
            obtain ⟨_, e_, y0⟩ := Kd.at_string hCg h0 (by omega) (by omega)
            cases e_
            have HCG := Aside0.mk hCg
            have HBg := Aside0.mk hBg
            have HSg := Aside0.mk hSg
            have r0 : 0 ≤ h0 := by omega
            have r1 : h0 < 6 := by omega
            clear hCg hBg hSg
            go_wp2
            obtain ⟨gs, hgs⟩ : ∃ gs : Nat → List UInt8, gs = fun j : Nat => (gpL note.data.toList).getD (IntKind.u64.wrap (how + (j : Int)) % 6).toNat [] := ⟨_, rfl⟩
            have hgp := gp_all note.data.toList HNO.out
            have hg0i : ∀ h : Int, 0 ≤ h → h < 6 → ((gpL note.data.toList).getD h.toNat []) ∈ gpL note.data.toList ∧ (rdOf ByteArray.empty (gapB note) h).data.toList = (gpL note.data.toList).getD h.toNat [] := fun h h1 h2 => by
              have h3 : h.toNat < 6 := by omega
              have h4 : h.toNat < (gpL note.data.toList).length := h3
              have h5 : h.toNat < (gapB note).length := h3
              refine ⟨by rw [List.getD_eq_getElem?_getD, List.getElem?_eq_getElem h4]; exact List.getElem_mem h4, ?_⟩
              unfold rdOf
              rw [← gapB_list, List.getD_eq_getElem?_getD, List.getElem?_eq_getElem h5, List.getD_eq_getElem?_getD, List.getElem?_map, List.getElem?_eq_getElem h5]
              rfl
            have hgl : ∀ g ∈ gpL note.data.toList, g.length ≤ 105 := fun g hg => by
              have h_ : note.data.toList.length ≤ 100 := by rw [slen]; have h_ := HNB.out; omega
              unfold gpL at hg
              simp only [List.mem_cons, List.not_mem_nil, or_false] at hg
              rcases hg with rfl | rfl | rfl | rfl | rfl | rfl <;> simp <;> omega
            have hwm : ∀ j : Nat, 0 ≤ IntKind.u64.wrap (how + (j : Int)) % 6 ∧ IntKind.u64.wrap (how + (j : Int)) % 6 < 6 := fun j => by omega
            have hgw : ∀ j, GW (gs j) := fun j => by rw [hgs]; exact hgp _ (hg0i _ (hwm j).1 (hwm j).2).1
            have hgsl : ∀ j, (gs j).length ≤ 105 := fun j => by rw [hgs]; exact hgl _ (hg0i _ (hwm j).1 (hwm j).2).1
            obtain ⟨G0, hG0⟩ : ∃ G0, rdOf ByteArray.empty (gapB note) h0 = G0 := ⟨_, rfl⟩
            have hG0l := (hg0i h0 r0 r1).2
            have hG0w := hgp _ (hg0i h0 r0 r1).1
            have hG0s := hgl _ (hg0i h0 r0 r1).1
            rw [hG0] at hG0l y0 ⊢
            rw [← hG0l] at hG0w hG0s
            have HGI := Aside0.mk hg0i
            have HGS := Aside0.mk hgs
            have HGW := Aside0.mk hgw
            have HGL := Aside0.mk hgsl
            have HG0W := Aside0.mk hG0w
            have HG0S := Aside0.mk hG0s
            have HWM := Aside0.mk hwm
            have HCT := Aside0.mk (Kd.C_below (Kd.C_below HC2.out HSa.out) HSg.out)
            have HTX : Aside0 (∀ j : Nat, ((L.map T.tx).getD j []).length ≤ 2000) := ⟨fun j => by
              have h_ := HBJ.out
              rw [slen] at h_
              by_cases hj : j < L.length
              · have h2_ : ((L.map T.tx).getD j []).length ≤ (bjL (L.map T.tx)).length := by
                  have h3_ := jn_le2 (L.map T.tx) (L.map T.tx).length rfl j (by rw [List.length_map]; exact hj)
                  rw [jn_bj] at h3_
                  exact h3_
                omega
              · rw [List.getD_eq_getElem?_getD, List.getElem?_eq_none (by rw [List.length_map]; omega)]
                exact Nat.zero_le _⟩
            clear hgs hgp hg0i hgl hwm hgw hgsl hG0 hG0l hG0w hG0s y0 hh0 r0 r1 s1 s2 s3
            go_loopg [12, 67] (n + 1) (fun kq v12 v wr => ∃ (j : Nat) (W : ByteArray), v = .int .i64 (j : Int) ∧ v12 = .string W ∧ Aside0 (n + 1 ≤ j + kq) ∧ Aside0 (j ≤ n) ∧ Aside0 (W.data.toList = outL gs G0.data.toList (L.map T.tx) j ∧ W.size ≤ 200 + 2200 * j) ∧ Aside0 (Below wg.heap.size wg wr))
            case atStart => exact ⟨0, G0, rfl, rfl, ⟨by omega⟩, ⟨by omega⟩, ⟨rfl, by have h_ := HG0S.out; rw [slen] at h_; omega⟩, ⟨Below.refl _ _⟩⟩
            case round =>
              obtain ⟨j, W, rfl, rfl, HJK, HJ, HW, HBJJ⟩ := hrel
              have HBR := Aside0.mk (below_then HBg.out HBg.out.size HBJJ.out)
              cases gk with
              | zero => exact absurd HJK.out (by have h_ := HJ.out; omega)
              | succ k1 =>
                by_cases hj : j < n
                · have hjl : j < (L.map (tk33 t)).length := by rw [HM1.out]; exact hj
                  have hrx := rdx hjl
                  rw [tx_map] at hrx
                  obtain ⟨ad, e_, x0, x1, x2, x3, x4, x5⟩ := at_T33 (Kd.C_below HCT.out HBJJ.out) (j : Int) (by omega) (by omega)
                  subst e_
                  rw [Int.toNat_natCast] at x0 x1 x2 x3 x4 x5
                  generalize rd_T33 (L.map (tk33 t)) (j : Int) = x at x0 x1 x2 x3 x4 x5 hrx
                  obtain ⟨h2, hh2⟩ : ∃ h2, IntKind.u64.wrap (how + (j : Int)) % 6 = h2 := ⟨_, rfl⟩
                  have hh3 := HWM.out j
                  rw [hh2] at hh3
                  obtain ⟨_, e_, y0⟩ := Kd.at_string (Kd.C_below HCG.out HBJJ.out) h2 (by omega) (by omega)
                  cases e_
                  obtain ⟨G, hG⟩ : ∃ G, rdOf ByteArray.empty (gapB note) h2 = G := ⟨_, rfl⟩
                  have hGl := (HGI.out h2 hh3.1 hh3.2).2
                  rw [hG] at y0 hGl
                  have hGj : gs j = G.data.toList := by rw [HGS.out, hGl]; show (gpL _).getD (IntKind.u64.wrap (how + (j : Int)) % 6).toNat [] = _; rw [hh2]
                  have hGs : G.size ≤ 105 := by rw [← slen, ← hGj]; exact HGL.out j
                  have hxs : x.f1.size ≤ 2000 := by rw [← slen, hrx]; exact HTX.out j
                  have HRX := Aside0.mk hrx
                  have HGJ := Aside0.mk hGj
                  have HSZ := Aside0.mk (And.intro hGs hxs)
                  have HJ9 := Aside0.mk hj
                  have hWs := HW.out.2
                  have s4 : x.f1.size + G.size ≤ 9223372036854775807 := by omega
                  have s5 : W.size + (x.f1 ++ G).size ≤ 9223372036854775807 := by rw [ByteArray.size_append]; omega
                  have s6 : W.size + (x.f1.size + G.size) ≤ 9223372036854775807 := by omega
                  have s4f : (9223372036854775807 < x.f1.size + G.size) = False := eq_false (by omega)
                  have s5f : (9223372036854775807 < W.size + (x.f1 ++ G).size) = False := eq_false (by omega)
                  have s6f : (9223372036854775807 < W.size + (x.f1.size + G.size)) = False := eq_false (by omega)
                  have w1 : IntKind.u64.wrap (j : Int) = (j : Int) := by rw [IntKind.wrap_u64]; omega
                  have w2 : (IntKind.u64.wrap (how + (j : Int))).tmod 6 = h2 := by
                    rw [← hh2, Int.tmod_eq_emod_of_nonneg (by rw [IntKind.wrap_u64]; omega)]
                  have w3 : 0 ≤ h2 := hh3.1
                  have w4 : h2 < 6 := hh3.2
                  have HEW : Aside0 (wrap64 ((j : Int) + 1) = ((j + 1 : Nat) : Int)) := ⟨by rw [w64 _ (by omega) (by omega)]; rfl⟩
                  have q1 : ((j : Int) < (n : Int)) = True := by apply eq_true; omega
                  clear hj hjl hrx hh3 hG hGl hGj hGs hxs hWs
                  go_upto_region 18 with (first
                    | ((with_reducible refine gate_dst (N := 14) rfl ?_); refine box_event ?hg (N := 14) ?hd (cs := zcells) (t := 33) ?hr ?_; (case hd => rfl); (case hg => rfl); (case hr => exact alloc33 _ _ _ _ _ _); intro ge hg_ wbe hbox_ hba_; have BZe := Aside0.mk hbox_; have HZe := Aside0.mk hba_; have GZe := Aside0.mk hg_; clear hg_ hbox_ hba_)
                    | ((with_reducible refine gate_op (.store 33 (.tmp 14) (.tmp 71)) rfl ?_); refine put_row rfl 33 (.tmp 14) (.tmp 71) rfl ge (by rfl) 33 zcells #[.int .i64 x.f0, .string x.f1, .int .i32 x.f2, .int .i64 x.f3.f0, .int .i64 x.f3.f1, .int .i64 x.f3.f2] (by rfl) BZe.out I33.out rfl (by simp [Value.oneCell']) ?_; intro wpe hb_ hk_ hbl_ hsz_; have BPe := Aside0.mk hb_; have KPe := Aside0.mk hk_; have QPe := Aside0.mk hbl_; clear hb_ hk_ hbl_ hsz_; have hx5_ := HZe.out.trans (QPe.out _ (Nat.le_of_eq GZe.out.symm)); have HWe := Aside0.mk (below_then HBJJ.out HBJJ.out.size hx5_); have b5_ := BPe.out; have c50 : wpe.cell? ⟨ge, 0, none⟩ = some (.int .i64 x.f0) := (blk_cell b5_ 0).trans rfl; have f50 := blk_frozen b5_ 0; have c51 : wpe.cell? ⟨ge, 1, none⟩ = some (.string x.f1) := (blk_cell b5_ 1).trans rfl; have f51 := blk_frozen b5_ 1; have c52 : wpe.cell? ⟨ge, 2, none⟩ = some (.int .i32 x.f2) := (blk_cell b5_ 2).trans rfl; have f52 := blk_frozen b5_ 2; have c53 : wpe.cell? ⟨ge, 3, none⟩ = some (.int .i64 x.f3.f0) := (blk_cell b5_ 3).trans rfl; have f53 := blk_frozen b5_ 3; have c54 : wpe.cell? ⟨ge, 4, none⟩ = some (.int .i64 x.f3.f1) := (blk_cell b5_ 4).trans rfl; have f54 := blk_frozen b5_ 4; have c55 : wpe.cell? ⟨ge, 5, none⟩ = some (.int .i64 x.f3.f2) := (blk_cell b5_ 5).trans rfl; have f55 := blk_frozen b5_ 5; have y1_ := pw_cell_below hx5_ y0; clear b5_ hx5_))
                  go_quiet (fail)
                  go_wp2
                  go_roundg k1
                  case measure => omega
                  case rel => exact ⟨j + 1, W ++ (x.f1 ++ G), by first | (rw [HEW.out]; done) | rfl | go_num, rfl, ⟨by have h_ := HJK.out; omega⟩, ⟨by have h_ := HJ9.out; omega⟩, ⟨by rw [add_list, add_list, HW.out.1, HRX.out, ← HGJ.out]; rfl, by rw [ByteArray.size_append, ByteArray.size_append]; have h_ := HW.out.2; have h1_ := HSZ.out; omega⟩, ⟨pw_below_drewN HWe.out _⟩⟩
                · obtain rfl : j = n := by have h_ := HJ.out; omega
                  clear hj
                  have q1 : ((j : Int) < (j : Int)) = False := by apply eq_false; omega
                  obtain ⟨L2, hx2, hsame⟩ := lex_out gs HGW.out G0.data.toList HG0W.out L HAL.out
                  rw [HN.out] at hx2
                  have hWl := HW.out.1
                  have hWs := HW.out.2
                  have hWz : W.size ≤ 1000000000 := by omega
                  have hWi : (W.size : Int) ≤ 1000000000 := by omega
                  by_cases hbig : 65536 < W.size
                  · have HR9 : Aside0 (lexA W.data.toList = .err 2 0) := ⟨by rw [lexA_eq, if_pos (by rw [slen]; exact hbig)]⟩
                    have q9 : (65536 : Int) < (W.size : Int) := by omega
                    clear hx2 hsame hWl hWs hbig
                    go_wp2_with (first
                      | (go_at_call 11; (with_reducible refine (all_err W _ mx (MXb HM.out HBR.out) hWz HR9.out).mono ?_); rintro e w7 ⟨rfl, hb⟩; have HB7 := Aside0.mk (below_then HBR.out HBR.out.size hb); clear hb)
                      | ((with_reducible refine gate_dst (N := 17) rfl ?_); refine box_event ?hg (N := 17) ?hd (cs := z3) (t := 26) ?hr ?_; (case hd => rfl); (case hg => rfl); (case hr => exact alloc26 _ _ _ _ _ _); intro gm hg_ wbm hbox_ hba_; have BZm := Aside0.mk hbox_; have HZm := Aside0.mk hba_; have GZm := Aside0.mk hg_; clear hg_ hbox_ hba_)
                      | ((with_reducible refine gate_op (.store 26 (.tmp 17) (.tmp 91)) rfl ?_); refine put_row rfl 26 (.tmp 17) (.tmp 91) rfl gm (by rfl) 26 z3 #[.int .i64 ((0 : Nat) : Int), .int .i64 (lnA W 0), .int .i64 (((0 : Nat) : Int) - stA W 0 + 1)] (by rfl) BZm.out I26.out rfl (by simp [Value.oneCell']) ?_; intro wpm hb_ hk_ hbl_ hsz_; have BPm := Aside0.mk hb_; have KPm := Aside0.mk hk_; have QPm := Aside0.mk hbl_; clear hb_ hk_ hbl_ hsz_; have HBPm := Aside0.mk ((below_then HB7.out HB7.out.size HZm.out).trans (QPm.out _ (by rw [GZm.out]; exact HB7.out.size))); have HSm := Aside0.mk (HZm.out.trans (QPm.out _ (Nat.le_of_eq GZm.out.symm))))
                      | (go_at_call 15; (with_reducible refine (lives_calls _ mx (MXb HM.out HBPm.out)).mono ?_); rintro e wl ⟨rfl, hb⟩; have HBl := Aside0.mk (below_then HBPm.out HBPm.out.size hb); clear hb))
                    go_ret
                    exact ⟨rfl, HBl.out⟩
                  · have HR9 : Aside0 (lexA W.data.toList = .ok L2) := ⟨by rw [hWl, lexA_eq, if_neg (by rw [← hWl, slen]; exact hbig)]; exact hx2⟩
                    have q9 : (W.size : Int) ≤ 65536 := by omega
                    have HN2 : Aside0 (L2.length = j) := ⟨by rw [← hsame.len, HN.out]⟩
                    have HM2 : Aside0 ((L2.map (tk33 W)).length = j) := ⟨by rw [List.length_map, HN2.out]⟩
                    have HSM := Aside0.mk hsame
                    have HCF := Aside0.mk (Kd.C_below HCT.out HBJJ.out)
                    have hj9 : j ≤ 1000000000 := by omega
                    clear hx2 hsame hWl hWs hbig
                    go_wp2_with (first
                      | (go_at_call 11; (with_reducible refine (all_ok W _ mx (MXb HM.out HBR.out) hWz HR9.out).mono ?_); rw [HN2.out]; rintro e w7 ⟨A7, c7, rfl, hc7, hR, hb⟩; have HB7 := Aside0.mk (below_then HBR.out HBR.out.size hb); have HC7 := Aside0.mk (Kd.C_below HCF.out hb); have HD7 := Aside0.mk (show Kd.C k33 w7 A7 j (L2.map (tk33 W)) from by have h_ := (Kd.R_reads' hR).2.2; rw [HM2.out] at h_; exact h_); clear hb hR)
                      | ((with_reducible refine gate_dst (N := 17) rfl ?_); refine box_event ?hg (N := 17) ?hd (cs := z3) (t := 26) ?hr ?_; (case hd => rfl); (case hg => rfl); (case hr => exact alloc26 _ _ _ _ _ _); intro gm hg_ wbm hbox_ hba_; have BZm := Aside0.mk hbox_; have HZm := Aside0.mk hba_; have GZm := Aside0.mk hg_; clear hg_ hbox_ hba_)
                      | ((with_reducible refine gate_op (.store 26 (.tmp 17) (.tmp 91)) rfl ?_); refine put_row rfl 26 (.tmp 17) (.tmp 91) rfl gm (by rfl) 26 z3 #[.int .i64 0, .int .i64 0, .int .i64 0] (by rfl) BZm.out I26.out rfl (by simp [Value.oneCell']) ?_; intro wpm hb_ hk_ hbl_ hsz_; have BPm := Aside0.mk hb_; have KPm := Aside0.mk hk_; have QPm := Aside0.mk hbl_; clear hb_ hk_ hbl_ hsz_; have HBPm := Aside0.mk ((below_then HB7.out HB7.out.size HZm.out).trans (QPm.out _ (by rw [GZm.out]; exact HB7.out.size))); have HSm := Aside0.mk (HZm.out.trans (QPm.out _ (Nat.le_of_eq GZm.out.symm))))
                      | (go_at_call 13; (with_reducible refine (same_calls A cp (L.map (tk33 t)) A7 c7 (L2.map (tk33 W)) j wpm HM1.out HM2.out (Kd.C_below HC7.out HSm.out) hcp (Kd.C_below HD7.out HSm.out) hc7 hj9 (fun q h1 h2 => by rw [List.getElem_map, List.getElem_map]; exact sameC_of (HSM.out.at q _ _))).mono ?_); rintro e w9 ⟨rfl, hd⟩; have HB9 := Aside0.mk (below_then HBPm.out HBPm.out.size hd.below); clear hd)
                      | (go_at_call 15; (with_reducible refine (lives_calls _ mx (MXb HM.out HB9.out)).mono ?_); rintro e wl ⟨rfl, hb⟩; have HBl := Aside0.mk (below_then HB9.out HB9.out.size hb); clear hb))
                    go_ret
                    exact ⟨rfl, HBl.out⟩

end Go.Proofs.Ytbmabnmidacpdaa.L
