import Derived.Test.YtbmabnmidacpdaaProg
import Derived.Below
import Derived.Deep.Draws
import Derived.Deep.AppendLies
import Derived.Maps.AppendAt
import Derived.OwnWalk
import Derived.Laws.BytesArg
import Derived.Laws.MakeOwn
import Derived.Laws.OwnMore
import Derived.Deep.OwnRows
import Derived.Tactics
import Derived.Lib.ConvBytes
import Derived.Laws.Slices
import Derived.WalkKit
import Derived.KernelRfl
import Derived.RowKit3
import Derived.Deep.LoopGhost
import Derived.Deep.QuietTactic
import Derived.BigQuiet
import Derived.WideLaws
import Derived.Deep.DeepCutAuto
import Derived.Deep.CutBlock
import Derived.Deep.RegionHeld3
import Derived.Laws.Rows
import Derived.Lib.AppendStr
import Derived.ArgAppend
import Derived.Laws.IdiomCopy
import Derived.OrdersHeld
import Derived.Laws.BitsLemmas
import Derived.RowKit
import Derived.Test.YtbmabnmidacpdaaWWords
import Derived.Test.YtbmabnmidacpdaaWLast
import Derived.Test.YtbmabnmidacpdaaWTab
import Derived.Test.YtbmabnmidacpdaaWQPut
import Derived.Test.YtbmabnmidacpdaaWApart
import Derived.Test.YtbmabnmidacpdaaWArr
import Derived.Test.YtbmabnmidacpdaaWZeros
import Derived.Test.YtbmabnmidacpdaaWFoot
import Derived.Test.YtbmabnmidacpdaaWKept
import Derived.Test.YtbmabnmidacpdaaWShare
import Derived.Test.YtbmabnmidacpdaaWN
import Derived.Test.YtbmabnmidacpdaaWEqStruct
import Derived.Test.YtbmabnmidacpdaaWGuard
import Derived.Test.YtbmabnmidacpdaaWNEv
import Derived.Test.YtbmabnmidacpdaaWMore
import Derived.Test.YtbmabnmidacpdaaX1
import Derived.Test.YtbmabnmidacpdaaX2
import Derived.Test.YtbmabnmidacpdaaX3
import Derived.Test.YtbmabnmidacpdaaX4
import Derived.Test.YtbmabnmidacpdaaSh
import Derived.Test.YtbmabnmidacpdaaLxA
import Derived.Test.YtbmabnmidacpdaaLxB
import Derived.Test.YtbmabnmidacpdaaLxC
import Derived.Test.YtbmabnmidacpdaaLxD
import Derived.Test.YtbmabnmidacpdaaLxP
import Derived.Test.YtbmabnmidacpdaaHw
import Derived.Test.YtbmabnmidacpdaaLxE
import Derived.Test.YtbmabnmidacpdaaLxS
import Derived.DataShut
import Derived.Deep.RegionLawGrows
import Derived.Deep.Upon
import Derived.Deep.MidRow
namespace Go.Proofs.Ytbmabnmidacpdaa.L
open Go.RowKit Go.Proofs.Ytbmabnmidacpdaa.X Go.Proofs.YtbmabnmidacpdaaW.PrintWords Go.Proofs.YtbmabnmidacpdaaW.PrintLast Go.Proofs.YtbmabnmidacpdaaW.PrintMore
attribute [local go_sem] max2_int min2_int max_two min_two max_three min_three max_four min_four   -- for this text's walks alone
set_option linter.unusedVariables false
set_option linter.unusedSimpArgs false
/-! The document's places and words. -/
theorem refat_l (s : ByteArray) (hs : s.size ≤ 1000000000) (off : Int) (n : Nat) (hn : (n : Int) = max 0 (min off (s.size : Int))) : ∀ (m j : Nat), j + m = n → brazierref07_At.l0 (2 * m + 2) s off (j : Int) (lnA s j) ((j : Int) - stA s j + 1) = some ((n : Int), lnA s n, (n : Int) - stA s n + 1) := by
  intro m
  induction m with
  | zero =>
    intro j h
    obtain rfl : j = n := by omega
    show brazierref07_At.l0 (1 + 1) s off (j : Int) (lnA s j) ((j : Int) - stA s j + 1) = _
    unfold brazierref07_At.l0
    by_cases h1 : (j : Int) < off
    · rw [if_pos h1, decide_eq_false (by omega)]
      show brazierref07_At.j1 (0 + 1) _ _ _ _ _ _ = _
      unfold brazierref07_At.j1
      rw [if_neg (by decide)]
    · rw [if_neg h1]
      show brazierref07_At.j1 (0 + 1) _ _ _ _ _ _ = _
      unfold brazierref07_At.j1
      rw [if_neg (by decide)]
  | succ m ih =>
    intro j h
    have ihj := ih (j + 1) (by omega)
    have hst := stA_bd s j
    have hln := lnA_bd s j
    show brazierref07_At.l0 (((2 * m + 2) + 1) + 1) s off (j : Int) (lnA s j) ((j : Int) - stA s j + 1) = _
    unfold brazierref07_At.l0
    rw [if_pos (by omega), decide_eq_true (by omega)]
    unfold brazierref07_At.j1
    rw [if_pos rfl, if_pos (by omega), if_pos (by omega)]
    have e1 : wrap64 ((j : Int) + 1) = ((j + 1 : Nat) : Int) := by rw [w64 _ (by omega) (by omega)]; rfl
    rw [e1]
    split
    · rename_i hc
      rw [w64 _ (by omega) (by omega), ← ihj]
      congr 1
      · conv => rhs; unfold lnA; rw [if_pos hc]
      · conv => rhs; unfold stA; rw [if_pos hc]
        omega
    · rename_i hc
      rw [w64 _ (by omega) (by omega), ← ihj]
      congr 1
      · rw [show lnA s (j + 1) = lnA s j from by conv => lhs; unfold lnA; rw [if_neg hc]]
      · rw [show stA s (j + 1) = stA s j from by conv => lhs; unfold stA; rw [if_neg hc]]
        omega
theorem refat_calls (s : ByteArray) (off : Int) (n : Nat) (w : World) (hs : s.size ≤ 1000000000) (hn : (n : Int) = max 0 (min off (s.size : Int))) :
    Calls Try.prog 14 #[.string s, .int .i64 off] w fun e w' => e = .returned (plV s n) ∧ Below w.heap.size w w' :=
  brazierref07_At.calls (2 * n + 2) s off _ _ _ w (by
    unfold brazierref07_At.f
    exact refat_l s hs off n hn n 0 (by omega))
theorem refword_l (a : ByteArray) (ws : List ByteArray) (hw : ws.length ≤ 100) : ∀ (m j : Nat), j + m = ws.length → brazierref07_IsWord.l0 (m + 1) a ws (ws.length : Int) (j : Int) = some (decide (a.toList ∈ (ws.drop j).map ByteArray.toList)) := by
  intro m
  induction m with
  | zero =>
    intro j h
    unfold brazierref07_IsWord.l0
    rw [if_neg (by omega), List.drop_eq_nil_of_le (by omega)]
    rfl
  | succ m ih =>
    intro j h
    have hj : j < ws.length := by omega
    have e1 : wrap64 ((j : Int) + 1) = ((j + 1 : Nat) : Int) := by rw [w64 _ (by omega) (by omega)]; rfl
    have e2 : rdOf ByteArray.empty ws (j : Int) = ws[j] := by
      unfold rdOf
      rw [Int.toNat_natCast, List.getD_eq_getElem?_getD, List.getElem?_eq_getElem hj]
      rfl
    unfold brazierref07_IsWord.l0
    rw [if_pos (by omega), if_pos (by omega), if_pos (by omega), e1, e2, ih (j + 1) (by omega), List.drop_eq_getElem_cons hj, List.map_cons]
    by_cases hc : ws[j].toList = a.toList
    · rw [if_pos hc, hc]
      simp
    · rw [if_neg hc]
      congr 1
      rw [decide_eq_decide, List.mem_cons]
      exact ⟨.inr, fun h => h.resolve_left (fun e => hc e.symm)⟩
theorem refword_f (t : ByteArray) : brazierref07_IsWord.f 10 t = some (decide (t.data.toList ∈ wordsL)) := by
  unfold brazierref07_IsWord.f
  obtain ⟨ws, hws⟩ : ∃ ws, brazierref07_Words.f = some ws := ⟨_, rfl⟩
  have h9 : ws.length = 9 := by
    obtain rfl := Option.some.inj hws
    rfl
  have hm : ws.map ByteArray.toList = wordsL := by
    obtain rfl := Option.some.inj hws
    simp only [List.map_cons, List.map_nil, bal_list]
    rfl
  rw [hws]
  show brazierref07_IsWord.l0 10 t ws (ws.length : Int) 0 = _
  have h := refword_l t ws (by omega) 9 0 (by omega)
  rw [List.drop_zero, hm, bal_list t] at h
  exact h
theorem refword_calls (t : ByteArray) (w : World) {b : Bool} (h : decide (t.data.toList ∈ wordsL) = b) : Calls Try.prog 19 #[.string t] w fun e w' => e = .returned (.bool b) ∧ Below w.heap.size w w' :=
  (brazierref07_IsWord.calls 10 t b w (by rw [refword_f, h])).mono fun _ _ h => h
/-! Signs: the first of the list that the text begins with. -/
def signsL : List (List UInt8) := [[60, 60], [62, 62], [60, 61], [62, 61], [61, 61], [33, 61], [38, 38], [124, 124], [43], [45], [42], [47], [37], [38], [124], [94], [60], [62], [33], [126], [61], [40], [41], [123], [125], [91], [93], [44], [59]]
def sgF (l : List UInt8) : List (List UInt8) → List UInt8
  | [] => []
  | p :: r => if Lib.hasPrefix l p then p else sgF l r
theorem sgF_snoc (l : List UInt8) (p : List UInt8) : ∀ a : List (List UInt8), (∀ q ∈ a, q ≠ []) → sgF l (a ++ [p]) = if sgF l a = [] then (if Lib.hasPrefix l p then p else []) else sgF l a
  | [], _ => by simp [sgF]
  | q :: a, h => by
    have ih := sgF_snoc l p a (fun x hx => h x (List.mem_cons_of_mem _ hx))
    have hq := h q List.mem_cons_self
    by_cases hp : Lib.hasPrefix l q = true
    · have e1 : sgF l (q :: a) = q := if_pos hp
      have e2 : sgF l ((q :: a) ++ [p]) = q := if_pos hp
      rw [e2]
      simp only [e1, hq, if_false]
    · have e1 : sgF l (q :: a) = sgF l a := if_neg hp
      have e2 : sgF l ((q :: a) ++ [p]) = sgF l (a ++ [p]) := if_neg hp
      rw [e2, ih]
      simp only [e1]
theorem signs_ne : ∀ q ∈ signsL, q ≠ [] := by decide
theorem pre1 (c a : UInt8) (r : List UInt8) : Lib.hasPrefix (c :: r) [a] = (a == c) := by
  unfold Lib.hasPrefix
  simp [List.isPrefixOf]
theorem pre2 (c a b : UInt8) (r : List UInt8) : Lib.hasPrefix (c :: r) [a, b] = decide ((c :: r).take 2 = [a, b]) := by
  unfold Lib.hasPrefix
  cases r with
  | nil => simp [List.isPrefixOf]
  | cons d r =>
    rw [Bool.eq_iff_iff, decide_eq_true_eq]
    simp [List.isPrefixOf]
    constructor
    · rintro ⟨rfl, rfl⟩; exact ⟨rfl, rfl⟩
    · rintro ⟨rfl, rfl⟩; exact ⟨rfl, rfl⟩
theorem sg_one (c : UInt8) (r : List UInt8) : ∀ a : List UInt8, sgF (c :: r) (a.map fun x => [x]) = if c ∈ a then [c] else []
  | [] => rfl
  | x :: a => by
    have ih := sg_one c r a
    simp only [List.map_cons, sgF, pre1]
    by_cases h : x = c
    · subst h; simp
    · rw [if_neg (by simpa using h), ih]
      have h2 : ¬ c = x := fun e => h e.symm
      simp [h2]
theorem sg_two (c : UInt8) (r : List UInt8) (b : List (List UInt8)) : ∀ a : List (List UInt8), (∀ q ∈ a, q.length = 2) → sgF (c :: r) (a ++ b) = if (c :: r).take 2 ∈ a then (c :: r).take 2 else sgF (c :: r) b
  | [], _ => by simp
  | q :: a, h => by
    have ih := sg_two c r b a (fun x hx => h x (List.mem_cons_of_mem _ hx))
    have hq := h q List.mem_cons_self
    match q, hq with
    | [x, y], _ =>
      simp only [List.cons_append, sgF, pre2]
      by_cases h1 : (c :: r).take 2 = [x, y]
      · rw [if_pos (by simpa using h1), h1]; simp
      · have h2 : ((c :: r).take 2 ∈ [x, y] :: a) = ((c :: r).take 2 ∈ a) := by
          rw [List.mem_cons]
          exact propext ⟨fun h => h.resolve_left h1, .inr⟩
        rw [if_neg (by simpa using h1), ih]
        simp only [h2]
theorem sg_is (c : UInt8) (r : List UInt8) : sgF (c :: r) signsL = (c :: r).take (signL (c :: r)) := by
  have h0 : signsL = twos ++ ones.map (fun x => [x]) := by decide
  rw [h0, sg_two c r _ twos (by decide), sg_one]
  unfold signL
  by_cases h1 : (c :: r).take 2 ∈ twos
  · rw [if_pos h1, if_pos h1]
  · rw [if_neg h1, if_neg h1]
    by_cases h2 : c ∈ ones
    · rw [if_pos h2, if_pos (by simpa using h2)]; rfl
    · rw [if_neg h2, if_neg (by simpa using h2)]; rfl
/-! Numbers, read from the left. -/
theorem numG_snoc (l : List UInt8) (c : UInt8) (a : Int) : numG a (l ++ [c]) = 10 * numG a l + ((c.toNat : Int) - 48) := by
  unfold numG
  rw [List.foldl_append]
  rfl
theorem numG_mono (l : List UInt8) : ∀ a : Int, 0 ≤ a → l.all dig = true → a ≤ numG a l := by
  induction l with
  | nil => intro a h _; exact Int.le_refl _
  | cons c l ih =>
    intro a h ha
    simp only [List.all_cons, Bool.and_eq_true] at ha
    have hb := dig_bd ha.1
    have := ih (10 * a + ((c.toNat : Int) - 48)) (by omega) ha.2
    show a ≤ numG (10 * a + ((c.toNat : Int) - 48)) l
    omega
theorem p10 (n : Nat) : (0 : Int) ≤ 10 ^ n := by
  have h : ((10 ^ n : Nat) : Int) = (10 : Int) ^ n := by simp
  rw [← h]
  exact Int.natCast_nonneg _
theorem numG_pow (l : List UInt8) : ∀ a : Int, 0 ≤ a → l.all dig = true → a * 10 ^ l.length ≤ numG a l := by
  induction l with
  | nil => intro a h _; simp [numG]
  | cons c l ih =>
    intro a h ha
    simp only [List.all_cons, Bool.and_eq_true] at ha
    have hb := dig_bd ha.1
    have h1 := ih (10 * a + ((c.toNat : Int) - 48)) (by omega) ha.2
    have h2 : a * 10 ^ (c :: l).length ≤ (10 * a + ((c.toNat : Int) - 48)) * 10 ^ l.length := by
      rw [List.length_cons, Int.pow_succ]
      have h3 : (0 : Int) ≤ 10 ^ l.length := p10 _
      have h5 : a * (10 ^ l.length * 10) = (10 * a) * 10 ^ l.length := by
        rw [Int.mul_comm (10 ^ l.length) 10, ← Int.mul_assoc, Int.mul_comm a 10]
      rw [h5]
      exact Int.mul_le_mul_of_nonneg_right (by omega) h3
    exact Int.le_trans h2 h1
theorem numL_some {l : List UInt8} (hd : l.all dig = true) (hv : numV l ≤ 2147483647) (hz : l.length ≤ 1 ∨ l.head? ≠ some 48) : numL l = some (numV l) := by
  unfold numL
  rw [if_pos]
  refine ⟨?_, hz, hd, by omega⟩
  rcases hz with hz | hz
  · omega
  · cases l with
    | nil => simp
    | cons c r =>
      simp only [List.all_cons, Bool.and_eq_true] at hd
      have hb := dig_bd hd.1
      have hc : (c.toNat : Int) ≠ 48 := fun h => hz (congrArg some ((u8_int c 48 (by decide)).mp h))
      have h1 := numG_pow r ((c.toNat : Int) - 48) (by omega) hd.2
      have h2 : numV (c :: r) = numG ((c.toNat : Int) - 48) r := by
        show numG (10 * 0 + ((c.toNat : Int) - 48)) r = _
        rw [Int.mul_zero, Int.zero_add]
      rw [h2] at hv
      by_cases hl : r.length ≤ 9
      · simp; omega
      · exfalso
        have h3 : ((10 ^ 10 : Nat) : Int) ≤ ((10 ^ r.length : Nat) : Int) := Int.ofNat_le.2 (Nat.pow_le_pow_right (by decide) (by omega))
        have h4 : ((10 ^ r.length : Nat) : Int) = (10 : Int) ^ r.length := by simp
        have h5 : (10 : Int) ^ r.length ≤ ((c.toNat : Int) - 48) * 10 ^ r.length := by
          have h6 : (1 : Int) * 10 ^ r.length ≤ ((c.toNat : Int) - 48) * 10 ^ r.length := Int.mul_le_mul_of_nonneg_right (by omega) (p10 _)
          rw [Int.one_mul] at h6
          exact h6
        rw [h4] at h3
        have h7 : ((10 ^ 10 : Nat) : Int) = 10000000000 := by decide
        rw [h7] at h3
        generalize (10 : Int) ^ r.length = P at *
        omega
theorem numL_none_d {l : List UInt8} (hd : ¬ l.all dig = true) : numL l = none := by
  unfold numL; rw [if_neg]; rintro ⟨_, _, h, _⟩; exact hd h
theorem numL_none_v {l : List UInt8} (hv : 2147483647 < numV l) : numL l = none := by
  unfold numL; rw [if_neg]; rintro ⟨_, _, _, h⟩; omega
theorem numL_none_z {l : List UInt8} (h1 : 1 < l.length) (h2 : l.head? = some 48) : numL l = none := by
  unfold numL; rw [if_neg]; rintro ⟨_, h | h, _⟩; · omega
  exact h h2

end Go.Proofs.Ytbmabnmidacpdaa.L
