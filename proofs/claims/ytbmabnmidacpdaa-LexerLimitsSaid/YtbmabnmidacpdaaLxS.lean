import Derived.Test.YtbmabnmidacpdaaProg
import Derived.Below
import Derived.Deep.Draws
import Derived.Deep.AppendLies
import Derived.Maps.AppendAt
import Derived.OwnWalk
import Derived.Laws.BytesArg
import Derived.Laws.MakeOwn
import Derived.Laws.OwnMore
import Derived.Deep.OwnRows
import Derived.Tactics
import Derived.Lib.ConvBytes
import Derived.Laws.Slices
import Derived.WalkKit
import Derived.KernelRfl
import Derived.RowKit3
import Derived.Deep.LoopGhost
import Derived.Deep.QuietTactic
import Derived.BigQuiet
import Derived.WideLaws
import Derived.Deep.DeepCutAuto
import Derived.Deep.CutBlock
import Derived.Deep.RegionHeld3
import Derived.Laws.Rows
import Derived.Lib.AppendStr
import Derived.ArgAppend
import Derived.Laws.IdiomCopy
import Derived.OrdersHeld
import Derived.Laws.BitsLemmas
import Derived.RowKit
import Derived.Test.YtbmabnmidacpdaaWWords
import Derived.Test.YtbmabnmidacpdaaWLast
import Derived.Test.YtbmabnmidacpdaaWTab
import Derived.Test.YtbmabnmidacpdaaWQPut
import Derived.Test.YtbmabnmidacpdaaWApart
import Derived.Test.YtbmabnmidacpdaaWArr
import Derived.Test.YtbmabnmidacpdaaWZeros
import Derived.Test.YtbmabnmidacpdaaWFoot
import Derived.Test.YtbmabnmidacpdaaWKept
import Derived.Test.YtbmabnmidacpdaaWShare
import Derived.Test.YtbmabnmidacpdaaWN
import Derived.Test.YtbmabnmidacpdaaWEqStruct
import Derived.Test.YtbmabnmidacpdaaWGuard
import Derived.Test.YtbmabnmidacpdaaWNEv
import Derived.Test.YtbmabnmidacpdaaWMore
import Derived.Test.YtbmabnmidacpdaaX1
import Derived.Test.YtbmabnmidacpdaaX2
import Derived.Test.YtbmabnmidacpdaaX3
import Derived.Test.YtbmabnmidacpdaaX4
import Derived.Test.YtbmabnmidacpdaaSh
import Derived.Test.YtbmabnmidacpdaaLxA
import Derived.Test.YtbmabnmidacpdaaLxB
import Derived.Test.YtbmabnmidacpdaaLxC
import Derived.Test.YtbmabnmidacpdaaLxD
import Derived.Test.YtbmabnmidacpdaaLxP
import Derived.Test.YtbmabnmidacpdaaHw
import Derived.Test.YtbmabnmidacpdaaLxE
import Derived.DataShut
import Derived.Deep.RegionLawGrows
import Derived.Deep.Upon
import Derived.Deep.MidRow
namespace Go.Proofs.Ytbmabnmidacpdaa.L
open Go.RowKit Go.Proofs.Ytbmabnmidacpdaa.X Go.Proofs.YtbmabnmidacpdaaW.PrintWords Go.Proofs.YtbmabnmidacpdaaW.PrintLast Go.Proofs.YtbmabnmidacpdaaW.PrintMore
attribute [local go_sem] max2_int min2_int max_two min_two max_three min_three max_four min_four   -- for this text's walks alone
set_option linter.unusedVariables false
set_option linter.unusedSimpArgs false
/-! Past blanks and comments. -/
def skG : Nat → List UInt8 → Nat → Int
  | 0, _, _ => -1
  | k + 1, l, o => if gapL l < 0 then -1 else if 0 < gapL l then skG k (l.drop (gapL l).toNat) (o + (gapL l).toNat) else (o : Int)
theorem skG_fuel : ∀ (k k' : Nat) (l : List UInt8) (o : Nat), l.length < k → l.length < k' → skG k l o = skG k' l o := by
  intro k
  induction k with
  | zero => intro k' l o h; omega
  | succ k ih =>
    intro k' l o h h'
    cases k' with
    | zero => omega
    | succ k' =>
      unfold skG
      have hb := gap_bd l
      split
      · rfl
      · split
        · exact ih k' _ _ (by rw [List.length_drop]; omega) (by rw [List.length_drop]; omega)
        · rfl
def skP (l : List UInt8) (o : Nat) : Int := skG (l.length + 1) l o
theorem skP_eq (l : List UInt8) (o : Nat) : skP l o = if gapL l < 0 then -1 else if 0 < gapL l then skP (l.drop (gapL l).toNat) (o + (gapL l).toNat) else (o : Int) := by
  have hb := gap_bd l
  unfold skP
  conv => lhs; unfold skG
  split
  · rfl
  · split
    · exact skG_fuel _ _ _ _ (by rw [List.length_drop]; omega) (by rw [List.length_drop]; omega)
    · rfl
theorem skP_err {l : List UInt8} (o : Nat) (h : gapL l < 0) : skP l o = -1 := by rw [skP_eq, if_pos h]
theorem skP_gap {l : List UInt8} (o : Nat) (h : 0 < gapL l) : skP l o = skP (l.drop (gapL l).toNat) (o + (gapL l).toNat) := by
  conv => lhs; rw [skP_eq, if_neg (by omega), if_pos h]
theorem skP_end {l : List UInt8} (o : Nat) (h : gapL l = 0) : skP l o = (o : Int) := by rw [skP_eq, if_neg (by omega), if_neg (by omega)]
/-- What a skip says of the lexer. -/
theorem skP_lex : ∀ (k : Nat) (l : List UInt8) (o : Nat), l.length < k → (skP l o = -1 ∧ lexP l o = .err 12 (o + l.length)) ∨ (∃ n : Nat, skP l o = ((o + n : Nat) : Int) ∧ n ≤ l.length ∧ gapL (l.drop n) = 0 ∧ lexP l o = lexP (l.drop n) (o + n)) := by
  intro k
  induction k with
  | zero => intro l o h; omega
  | succ k ih =>
    intro l o h
    have hb := gap_bd l
    by_cases h0 : gapL l < 0
    · exact .inl ⟨skP_err o h0, lexP_err o h0⟩
    · by_cases h1 : 0 < gapL l
      · rw [skP_gap o h1, lexP_gap o h1]
        rcases ih (l.drop (gapL l).toNat) (o + (gapL l).toNat) (by rw [List.length_drop]; omega) with ⟨h2, h3⟩ | ⟨n, h2, h3, h4, h5⟩
        · refine .inl ⟨h2, ?_⟩
          rw [h3, List.length_drop]
          congr 1
          omega
        · refine .inr ⟨(gapL l).toNat + n, ?_, ?_, ?_, ?_⟩
          · rw [h2, Nat.add_assoc]
          · rw [List.length_drop] at h3; omega
          · rw [← List.drop_drop]; exact h4
          · rw [h5, List.drop_drop, Nat.add_assoc]
      · exact .inr ⟨0, by rw [skP_end o (by omega)]; rfl, by omega, by show gapL l = 0; omega, rfl⟩
theorem begins_f (a b : ByteArray) : brazierref07_begins.f a b = some (Lib.hasPrefix a.data.toList b.data.toList) := by
  unfold brazierref07_begins.f Lib.hasPrefix
  have ha := slen a
  have hb := slen b
  by_cases h : (a.size : Int) ≥ (b.size : Int)
  · rw [if_pos h, if_pos (by omega), if_pos (by omega), Int.toNat_natCast, bal_list, bal_list, ext_list]
    congr 1
    rw [Bool.eq_iff_iff, beq_iff_eq, List.isPrefixOf_iff_prefix, List.prefix_iff_eq_take, hb]
    exact ⟨fun h => h.symm, fun h => h.symm⟩
  · rw [if_neg h]
    congr 1
    rw [eq_comm, ← Bool.not_eq_true, List.isPrefixOf_iff_prefix]
    intro hp
    have := hp.length_le
    omega
/-! What a gap is made of. -/
theorem gap_cons (c : UInt8) (r : List UInt8) : gapL (c :: r) = if blk c = true then 1
    else if Lib.hasPrefix (c :: r) [47, 47] = true then (if 0 ≤ Lib.indexByte (c :: r) 10 then Lib.indexByte (c :: r) 10 else ((c :: r).length : Int))
    else if Lib.hasPrefix (c :: r) [47, 42] = true then (if Lib.index ((c :: r).drop 2) [42, 47] < 0 then -1 else Lib.index ((c :: r).drop 2) [42, 47] + 4)
    else 0 := rfl
theorem gap_blk {c : UInt8} {r : List UInt8} (h : blk c = true) : gapL (c :: r) = 1 := by rw [gap_cons, if_pos h]
theorem gap_none {c : UInt8} {r : List UInt8} (h : blk c = false) (h1 : Lib.hasPrefix (c :: r) [47, 47] = false) (h2 : Lib.hasPrefix (c :: r) [47, 42] = false) : gapL (c :: r) = 0 := by
  rw [gap_cons, if_neg (by rw [h]; decide), if_neg (by rw [h1]; decide), if_neg (by rw [h2]; decide)]
/-- A comment up to the line's end: e bytes, none of them the line's end, but for what stands behind. -/
theorem gap_line {c : UInt8} {r : List UInt8} (h : blk c = false) (h1 : Lib.hasPrefix (c :: r) [47, 47] = true) : ∃ e : Nat, gapL (c :: r) = (e : Int) ∧ 0 < e ∧ e ≤ (c :: r).length ∧ (∀ k, k < e → ∃ x, (c :: r)[k]? = some x ∧ x ≠ 10) ∧ (e = (c :: r).length ∨ (c :: r)[e]? = some 10) := by
  have hp : c = 47 := by
    have h2 := List.isPrefixOf_iff_prefix.1 h1
    obtain ⟨t, ht⟩ := h2
    injection ht with ht _
    exact ht.symm
  have hg : gapL (c :: r) = if 0 ≤ Lib.indexByte (c :: r) 10 then Lib.indexByte (c :: r) 10 else ((c :: r).length : Int) := by
    rw [gap_cons, if_neg (by rw [h]; decide), if_pos h1]
  rw [hg]
  have hge := Lib.indexByte_ge (c :: r) 10
  by_cases h0 : 0 ≤ Lib.indexByte (c :: r) 10
  · obtain ⟨e, he⟩ := Int.eq_ofNat_of_zero_le h0
    obtain ⟨h3, h4⟩ := Lib.indexByte_some he
    have hl := (List.getElem?_eq_some_iff.1 h3).1
    refine ⟨e, by rw [if_pos h0, he], ?_, by omega, fun k hk => ?_, .inr h3⟩
    · rcases Nat.eq_zero_or_pos e with h5 | h5
      · subst h5
        rw [hp] at h3
        simp at h3
      · exact h5
    · have hkl : k < (c :: r).length := by omega
      exact ⟨(c :: r)[k], List.getElem?_eq_getElem hkl, fun hx => h4 k hk (by rw [List.getElem?_eq_getElem hkl, hx])⟩
  · have hm : Lib.indexByte (c :: r) 10 = -1 := by omega
    have h4 := Lib.indexByte_none hm
    refine ⟨(c :: r).length, by rw [if_neg h0], by simp, Nat.le_refl _, fun k hk => ?_, .inl rfl⟩
    exact ⟨(c :: r)[k], List.getElem?_eq_getElem hk, fun hx => h4 k (by rw [List.getElem?_eq_getElem hk, hx])⟩
/-- A comment in brackets, from its third byte on: no end ahead of place e; there is one there, or nothing more. -/
theorem gap_note {c : UInt8} {r : List UInt8} (h : blk c = false) (h1 : Lib.hasPrefix (c :: r) [47, 47] = false) (h2 : Lib.hasPrefix (c :: r) [47, 42] = true) : 2 ≤ (c :: r).length ∧ ((gapL (c :: r) = -1 ∧ ∀ k, 2 ≤ k → Lib.hasPrefix ((c :: r).drop k) [42, 47] = false) ∨ (∃ e : Nat, gapL (c :: r) = ((e + 2 : Nat) : Int) ∧ 2 ≤ e ∧ e + 2 ≤ (c :: r).length ∧ (∀ k, 2 ≤ k → k < e → Lib.hasPrefix ((c :: r).drop k) [42, 47] = false) ∧ Lib.hasPrefix ((c :: r).drop e) [42, 47] = true)) := by
  have hg : gapL (c :: r) = if Lib.index ((c :: r).drop 2) [42, 47] < 0 then -1 else Lib.index ((c :: r).drop 2) [42, 47] + 4 := by
    rw [gap_cons, if_neg (by rw [h]; decide), if_neg (by rw [h1]; decide), if_pos h2]
  have hl2 : 2 ≤ (c :: r).length := (List.isPrefixOf_iff_prefix.1 h2).length_le
  refine ⟨hl2, ?_⟩
  rw [hg]
  rcases Lib.index_spec ((c :: r).drop 2) [42, 47] with ⟨h3, h4⟩ | ⟨i, h3, h4, h5, h6⟩
  · left
    rw [h3]
    refine ⟨rfl, fun k hk => ?_⟩
    by_cases hkl : k - 2 ≤ ((c :: r).drop 2).length
    · have := h4 (k - 2) hkl
      unfold Lib.occAt at this
      rw [List.drop_drop, show 2 + (k - 2) = k from by omega] at this
      exact this
    · rw [List.drop_eq_nil_of_le (by rw [List.length_drop] at hkl; omega)]
      rfl
  · right
    have hlen : i + 2 ≤ ((c :: r).drop 2).length := by
      unfold Lib.occAt at h5
      have := (List.isPrefixOf_iff_prefix.1 h5).length_le
      rw [List.length_drop] at this
      simp only [List.length_cons, List.length_nil] at this
      omega
    refine ⟨i + 2, ?_, by omega, by rw [List.length_drop] at hlen; omega, fun k hk hk2 => ?_, ?_⟩
    · rw [h3, if_neg (by omega)]; omega
    · have := h6 (k - 2) (by omega)
      unfold Lib.occAt at this
      rw [List.drop_drop, show 2 + (k - 2) = k from by omega] at this
      exact this
    · unfold Lib.occAt at h5
      rw [List.drop_drop, show 2 + i = i + 2 from by omega] at h5
      exact h5
theorem begins_is (a b : ByteArray) {r : Bool} (h : Lib.hasPrefix a.data.toList b.data.toList = r) (w : World) : Calls Try.prog 29 #[.string a, .string b] w fun e w' => e = .returned (.bool r) ∧ Drawn0 w w' :=
  brazierref07_begins.calls a b r w (by rw [begins_f, h])
theorem drawn_trans {a b c : World} (h : Drawn0 a b) (k : Drawn0 b c) : Drawn0 a c := by
  obtain ⟨n, rfl⟩ := k.out
  exact h.step n
theorem rst_drop (s : ByteArray) (n k : Nat) : (rst s n).drop k = rst s (n + k) := by unfold rst; rw [List.drop_drop]
theorem rst_get {s : ByteArray} {n k : Nat} {x : UInt8} (h : (rst s n)[k]? = some x) : n + k < s.size ∧ bt s ((n + k : Nat) : Int) = (x.toNat : Int) := by
  unfold rst at h
  rw [List.getElem?_drop] at h
  obtain ⟨hl, hx⟩ := List.getElem?_eq_some_iff.1 h
  exact ⟨by rw [slen] at hl; exact hl, by rw [bt_list s (n + k) hl, hx]⟩
theorem blk_cases {c : UInt8} : (blk c = true ∧ ((c.toNat : Int) = 32 ∨ ((c.toNat : Int) ≠ 32 ∧ (c.toNat : Int) = 9) ∨ ((c.toNat : Int) ≠ 32 ∧ (c.toNat : Int) ≠ 9 ∧ (c.toNat : Int) = 10) ∨ ((c.toNat : Int) ≠ 32 ∧ (c.toNat : Int) ≠ 9 ∧ (c.toNat : Int) ≠ 10 ∧ (c.toNat : Int) = 13))) ∨ (blk c = false ∧ (c.toNat : Int) ≠ 32 ∧ (c.toNat : Int) ≠ 9 ∧ (c.toNat : Int) ≠ 10 ∧ (c.toNat : Int) ≠ 13) := by
  have e32 : ((c.toNat : Int) = 32) = (c = 32) := u8_int c 32 (by decide)
  have e9 : ((c.toNat : Int) = 9) = (c = 9) := u8_int c 9 (by decide)
  have e10 : ((c.toNat : Int) = 10) = (c = 10) := u8_int c 10 (by decide)
  have e13 : ((c.toNat : Int) = 13) = (c = 13) := u8_int c 13 (by decide)
  have hb : blk c = (c == 32 || c == 9 || c == 10 || c == 13) := rfl
  rw [hb]
  simp only [ne_eq, e32, e9, e10, e13]
  by_cases h1 : c = 32
  · subst h1; left; exact ⟨rfl, .inl rfl⟩
  · by_cases h2 : c = 9
    · subst h2; left; exact ⟨rfl, .inr (.inl ⟨by decide, rfl⟩)⟩
    · by_cases h3 : c = 10
      · subst h3; left; exact ⟨rfl, .inr (.inr (.inl ⟨by decide, by decide, rfl⟩))⟩
      · by_cases h4 : c = 13
        · subst h4; left; exact ⟨rfl, .inr (.inr (.inr ⟨by decide, by decide, by decide, rfl⟩))⟩
        · right; exact ⟨by simp [h1, h2, h3, h4], h1, h2, h3, h4⟩
set_option maxHeartbeats 8000000 in
set_option maxRecDepth 100000 in
theorem skip_calls (s : ByteArray) (o : Nat) (w : World) (hs : s.size ≤ 1000000000) (ho : o ≤ s.size) :
    Calls Try.prog 25 #[.string s, .int .i64 (o : Int)] w fun e w' => e = .returned (.int .i64 (skP (rst s o) o)) ∧ Drawn0 w w' := by
  have hsz : (s.size : Int) ≤ 1000000000 := by omega
  obtain ⟨x, hx⟩ : ∃ x, skP (rst s o) o = x := ⟨_, rfl⟩
  rw [hx]
  have HX := Aside0.mk hx
  clear hx
  go_enter Try.func25, Try.ntmps25
  go_wp2_with fail
  go_loopg [1] (s.size + 1) (fun kq v wr => ∃ (i : Nat), v = .int .i64 (i : Int) ∧ Aside0 (s.size + 1 ≤ i + kq) ∧ Aside0 (i ≤ s.size) ∧ Aside0 (skP (rst s i) i = x) ∧ Drawn0 w wr)
  case atStart => exact ⟨o, rfl, ⟨by omega⟩, ⟨ho⟩, HX, Drawn0.refl w⟩
  case round =>
    obtain ⟨i, rfl, HK, HI, HR, hD⟩ := hrel
    have HD := Aside0.mk hD
    clear hD ho HX
    cases gk with
    | zero => exact absurd HK.out (by have h_ := HI.out; omega)
    | succ k1 =>
      by_cases hi : i < s.size
      · obtain ⟨c, r, hcr, hbt⟩ := rst_cons s i hi
        have q1 : ((i : Int) < (s.size : Int)) = True := by apply eq_true; omega
        have q2 : (i < s.size) = True := eq_true hi
        have q3 : ∀ h : i < s.size, ((s[i]'h).toNat : Int) = (c.toNat : Int) := fun h => (bt_at s (i : Int) h).trans hbt.symm
        have HIS := Aside0.mk hi
        have HCR := Aside0.mk hcr
        clear hi hcr hbt
        rcases blk_cases (c := c) with ⟨hb, hcs⟩ | ⟨hb, h32, h9, h10, h13⟩
        · have HR2 : Aside0 (skP (rst s (i + 1)) (i + 1) = x) := ⟨by have h_ := HR.out; rw [HCR.out, skP_gap i (by rw [gap_blk hb]; decide), gap_blk hb, ← HCR.out] at h_; rw [← h_]; show _ = skP ((rst s i).drop 1) (i + 1); rw [rst_drop]⟩
          clear hb
          rcases hcs with h_ | ⟨h1_, h_⟩ | ⟨h1_, h2_, h_⟩ | ⟨h1_, h2_, h3_, h_⟩
          all_goals
            (try have b32 : ((c.toNat : Int) == 32) = true := beq_iff_eq.mpr h_)
            (try have b32 : ((c.toNat : Int) == 32) = false := beq_eq_false_iff_ne.mpr h1_)
            (try have b9 : ((c.toNat : Int) == 9) = true := beq_iff_eq.mpr h_)
            (try have b9 : ((c.toNat : Int) == 9) = false := beq_eq_false_iff_ne.mpr h2_)
            (try have b10 : ((c.toNat : Int) == 10) = true := beq_iff_eq.mpr h_)
            (try have b10 : ((c.toNat : Int) == 10) = false := beq_eq_false_iff_ne.mpr h3_)
            (try have b13 : ((c.toNat : Int) == 13) = true := beq_iff_eq.mpr h_)
            clear h_
            (try clear h1_)
            (try clear h2_)
            (try clear h3_)
            have HEW : Aside0 (wrap64 ((i : Int) + 1) = ((i + 1 : Nat) : Int)) := ⟨by rw [w64 _ (by omega) (by have h_ := HIS.out; omega)]; rfl⟩
            go_wp2
            go_roundg k1
            case measure => omega
            case rel => exact ⟨i + 1, by first | (rw [HEW.out]; done) | rfl | go_num, ⟨by have h_ := HK.out; omega⟩, ⟨by have h_ := HIS.out; omega⟩, HR2, HD.out⟩
        · have b32 : ((c.toNat : Int) == 32) = false := beq_eq_false_iff_ne.mpr h32
          have b9 : ((c.toNat : Int) == 9) = false := beq_eq_false_iff_ne.mpr h9
          have b10 : ((c.toNat : Int) == 10) = false := beq_eq_false_iff_ne.mpr h10
          have b13 : ((c.toNat : Int) == 13) = false := beq_eq_false_iff_ne.mpr h13
          have HB := Aside0.mk hb
          clear hb h32 h9 h10 h13
          have q6 : (i : Int) ≤ (s.size : Int) := by have h_ := HIS.out; omega
          cases h1 : Lib.hasPrefix (c :: r) [47, 47] with
          | true =>
            have H1 := Aside0.mk h1
            clear h1
            have hE : ∃ E : Nat, i < E ∧ E ≤ s.size ∧ (∀ k, i ≤ k → k < E → ∃ y : UInt8, bt s (k : Int) = (y.toNat : Int) ∧ ¬ ((y.toNat : Int) = 10)) ∧ (E = s.size ∨ (E < s.size ∧ bt s (E : Int) = 10)) ∧ skP (rst s E) E = x := by
              obtain ⟨e, hg, he0, hel, hk, hend⟩ := gap_line HB.out H1.out
              rw [← HCR.out] at hk hend hel hg
              rw [rst_len] at hel
              refine ⟨i + e, by omega, by have h_ := HI.out; omega, fun k h3 h4 => ?_, ?_, ?_⟩
              · obtain ⟨y, hy, hy10⟩ := hk (k - i) (by omega)
                obtain ⟨hjs, hbt⟩ := rst_get hy
                rw [show i + (k - i) = k from by omega] at hbt
                exact ⟨y, hbt, fun h => hy10 ((u8_int y 10 (by decide)).mp h)⟩
              · rcases hend with h_ | h_
                · left; rw [rst_len] at h_; have h1_ := HI.out; omega
                · right; exact rst_get h_
              · have h5 := HR.out
                rw [skP_gap i (by rw [hg]; omega), hg, Int.toNat_natCast, rst_drop] at h5
                exact h5
            obtain ⟨E, hE1, hE2, hE3, hE4, hE5⟩ := hE
            have HL2 := Aside0.mk (And.intro hE1 hE2)
            have HK2 := Aside0.mk hE3
            have HE2 := Aside0.mk hE4
            have HR2 := Aside0.mk hE5
            clear hE1 hE2 hE3 hE4 hE5
            have H1b : Aside0 (Lib.hasPrefix (s.extract i s.size).data.toList (⟨#[47, 47]⟩ : ByteArray).data.toList = true) := ⟨by rw [rst_ext, HCR.out]; exact H1.out⟩
            go_wp2_with (go_at_call 29; (with_reducible refine (begins_is _ ⟨#[47, 47]⟩ H1b.out _).mono ?_); rintro e w1 ⟨rfl, hd⟩; have HD1 := Aside0.mk hd; clear hd)
            go_loopg [1] (s.size + 1) (fun kq v wr2 => ∃ (j : Nat), v = .int .i64 (j : Int) ∧ Aside0 (s.size + 1 ≤ j + kq) ∧ Aside0 (i ≤ j) ∧ Aside0 (j ≤ E) ∧ Aside0 (Drawn0 w1 wr2))
            case atStart => exact ⟨i, rfl, ⟨by omega⟩, ⟨Nat.le_refl _⟩, ⟨by have h_ := HL2.out; omega⟩, ⟨Drawn0.refl _⟩⟩
            case round =>
              obtain ⟨j, rfl, HJK, HJ0, HJ1, HDJ⟩ := hrel
              cases gk with
              | zero => exact absurd HJK.out (by have h_ := HJ1.out; have h1_ := HL2.out; omega)
              | succ k2 =>
                by_cases hj : j < E
                · have hjs : j < s.size := by have h_ := HL2.out; omega
                  obtain ⟨y, hbt, hyn⟩ := HK2.out j HJ0.out hj
                  have q11 : ((j : Int) < (s.size : Int)) = True := by apply eq_true; omega
                  have q12 : (j < s.size) = True := eq_true hjs
                  have q13 : ∀ h : j < s.size, ((s[j]'h).toNat : Int) = (y.toNat : Int) := fun h => (bt_at s (j : Int) h).trans hbt
                  have q14 : decide ((j : Int) < (s.size : Int)) = true := decide_eq_true (by omega)
                  have q15 : ((y.toNat : Int) != 10) = true := bne_iff_ne.mpr hyn
                  have q16 : ((y.toNat : Int) == 10) = false := beq_eq_false_iff_ne.mpr hyn
                  have HEW : Aside0 (wrap64 ((j : Int) + 1) = ((j + 1 : Nat) : Int)) := ⟨by rw [w64 _ (by omega) (by omega)]; rfl⟩
                  have HJ := Aside0.mk hj
                  have HY := Aside0.mk (And.intro hjs hyn)
                  clear hj hjs hbt hyn
                  go_wp2
                  go_roundg k2
                  case measure => omega
                  case rel => exact ⟨j + 1, by first | (rw [HEW.out]; done) | rfl | go_num, ⟨by have h_ := HJK.out; omega⟩, ⟨by have h_ := HJ0.out; omega⟩, ⟨by have h_ := HJ.out; omega⟩, HDJ⟩
                · obtain rfl : j = E := by have h_ := HJ1.out; omega
                  clear hj
                  rcases HE2.out with h_ | ⟨hjs, hbt⟩
                  · have q14 : decide ((j : Int) < (s.size : Int)) = false := decide_eq_false (by omega)
                    have q15 : ((j : Int) < (s.size : Int)) = False := by apply eq_false; omega
                    clear h_
                    go_wp2
                    go_roundg k1
                    case measure => omega
                    case rel => exact ⟨j, by first | rfl | go_num, ⟨by have h_ := HK.out; have h1_ := HL2.out; omega⟩, ⟨HL2.out.2⟩, HR2, drawn_trans (drawn_trans HD.out HD1.out) HDJ.out⟩
                  · have q11 : ((j : Int) < (s.size : Int)) = True := by apply eq_true; omega
                    have q12 : (j < s.size) = True := eq_true hjs
                    have q13 : ∀ h : j < s.size, ((s[j]'h).toNat : Int) = 10 := fun h => (bt_at s (j : Int) h).trans hbt
                    have q14 : decide ((j : Int) < (s.size : Int)) = true := decide_eq_true (by omega)
                    clear hjs hbt
                    go_wp2
                    go_roundg k1
                    case measure => omega
                    case rel => exact ⟨j, by first | rfl | go_num, ⟨by have h_ := HK.out; have h1_ := HL2.out; omega⟩, ⟨HL2.out.2⟩, HR2, drawn_trans (drawn_trans HD.out HD1.out) HDJ.out⟩
          | false =>
            have H1 := Aside0.mk h1
            clear h1
            cases h2 : Lib.hasPrefix (c :: r) [47, 42] with
            | false =>
              have H2 : Aside0 (Lib.hasPrefix (s.extract i s.size).data.toList (⟨#[47, 42]⟩ : ByteArray).data.toList = false) := ⟨by rw [rst_ext, HCR.out]; exact h2⟩
              have H1b : Aside0 (Lib.hasPrefix (s.extract i s.size).data.toList (⟨#[47, 47]⟩ : ByteArray).data.toList = false) := ⟨by rw [rst_ext, HCR.out]; exact H1.out⟩
              have HE : Aside0 (x = (i : Int)) := ⟨by rw [← HR.out, HCR.out, skP_end i (gap_none HB.out H1.out h2)]⟩
              clear h2
              go_wp2_with (first
                | (go_at_call 29; (with_reducible refine (begins_is _ ⟨#[47, 47]⟩ H1b.out _).mono ?_); rintro e w1 ⟨rfl, hd⟩; have HD1 := Aside0.mk hd; clear hd)
                | (go_at_call 29; (with_reducible refine (begins_is _ ⟨#[47, 42]⟩ H2.out _).mono ?_); rintro e w2 ⟨rfl, hd⟩; have HD2 := Aside0.mk hd; clear hd))
              go_ret
              exact ⟨by rw [HE.out]; rfl, drawn_trans (drawn_trans HD.out HD1.out) HD2.out⟩
            | true =>
              have H2 := Aside0.mk h2
              clear h2
              have hE : ∃ E : Nat, i + 2 ≤ E ∧ E ≤ s.size ∧ (∀ k, i + 2 ≤ k → k < E → Lib.hasPrefix (rst s k) [42, 47] = false) ∧ ((E = s.size ∧ x = -1) ∨ (E + 2 ≤ s.size ∧ Lib.hasPrefix (rst s E) [42, 47] = true ∧ skP (rst s (E + 2)) (E + 2) = x)) := by
                obtain ⟨hl2, h_ | ⟨e, hg, he2, hel, hk, hp⟩⟩ := gap_note HB.out H1.out H2.out
                · obtain ⟨hg, hk⟩ := h_
                  rw [← HCR.out, rst_len] at hl2
                  refine ⟨s.size, by have h_ := HI.out; omega, Nat.le_refl _, fun k h3 h4 => ?_, .inl ⟨rfl, ?_⟩⟩
                  · have h5 := hk (k - i) (by omega)
                    rw [← HCR.out, rst_drop, show i + (k - i) = k from by omega] at h5
                    exact h5
                  · rw [← HR.out, HCR.out, skP_err i (by rw [hg]; decide)]
                · rw [← HCR.out] at hel hk hp hg
                  rw [rst_len] at hel
                  refine ⟨i + e, by omega, by have h_ := HI.out; omega, fun k h3 h4 => ?_, .inr ⟨by have h_ := HI.out; omega, ?_, ?_⟩⟩
                  · have h5 := hk (k - i) (by omega) (by omega)
                    rw [rst_drop, show i + (k - i) = k from by omega] at h5
                    exact h5
                  · rw [rst_drop] at hp; exact hp
                  · have h5 := HR.out
                    rw [skP_gap i (by rw [hg]; omega), hg, Int.toNat_natCast, rst_drop] at h5
                    exact h5
              obtain ⟨E, hE1, hE2, hE3, hE4⟩ := hE
              have HE1 := Aside0.mk (And.intro hE1 hE2)
              have HE3 := Aside0.mk hE3
              have HE4 := Aside0.mk hE4
              have H2b : Aside0 (Lib.hasPrefix (s.extract i s.size).data.toList (⟨#[47, 42]⟩ : ByteArray).data.toList = true) := ⟨by rw [rst_ext, HCR.out]; exact H2.out⟩
              have H1b : Aside0 (Lib.hasPrefix (s.extract i s.size).data.toList (⟨#[47, 47]⟩ : ByteArray).data.toList = false) := ⟨by rw [rst_ext, HCR.out]; exact H1.out⟩
              have HEW2 : Aside0 (wrap64 ((i : Int) + 2) = ((i + 2 : Nat) : Int)) := ⟨by rw [w64 _ (by omega) (by have h_ := HI.out; omega)]; rfl⟩
              have hi2 : (i : Int) + 2 ≤ 1000000000 := by omega
              clear hE1 hE2 hE3 hE4
              go_wp2_with (first
                | (go_at_call 29; (with_reducible refine (begins_is _ ⟨#[47, 47]⟩ H1b.out _).mono ?_); rintro e w1 ⟨rfl, hd⟩; have HD1 := Aside0.mk hd; clear hd)
                | (go_at_call 29; (with_reducible refine (begins_is _ ⟨#[47, 42]⟩ H2b.out _).mono ?_); rintro e w2 ⟨rfl, hd⟩; have HD2 := Aside0.mk hd; clear hd))
              go_loopg [6] (s.size + 1) (fun kq v wr2 => ∃ (j : Nat), v = .int .i64 (j : Int) ∧ Aside0 (s.size + 1 ≤ j + kq) ∧ Aside0 (i + 2 ≤ j) ∧ Aside0 (j ≤ E) ∧ Aside0 (Drawn0 w2 wr2))
              case atStart => exact ⟨i + 2, by first | (rw [HEW2.out]; done) | rfl | go_num, ⟨by omega⟩, ⟨Nat.le_refl _⟩, ⟨HE1.out.1⟩, ⟨Drawn0.refl _⟩⟩
              case round =>
                obtain ⟨j, rfl, HJK, HJ0, HJ1, HDJ⟩ := hrel
                clear hi2
                cases gk with
                | zero => exact absurd HJK.out (by have h_ := HJ1.out; have h1_ := HE1.out; omega)
                | succ k2 =>
                  have hjle : (j : Int) ≤ (s.size : Int) := by have h_ := HJ1.out; have h1_ := HE1.out; omega
                  by_cases hj : j < E
                  · have q11 : ((j : Int) < (s.size : Int)) = True := by apply eq_true; have h1_ := HE1.out; omega
                    have q14 : decide ((j : Int) < (s.size : Int)) = true := decide_eq_true (by have h1_ := HE1.out; omega)
                    have H3 : Aside0 (Lib.hasPrefix (s.extract j s.size).data.toList (⟨#[42, 47]⟩ : ByteArray).data.toList = false) := ⟨by rw [rst_ext]; exact HE3.out j HJ0.out hj⟩
                    have HEW : Aside0 (wrap64 ((j : Int) + 1) = ((j + 1 : Nat) : Int)) := ⟨by rw [w64 _ (by omega) (by omega)]; rfl⟩
                    have HJ := Aside0.mk hj
                    clear hj
                    go_wp2_with (go_at_call 29; (with_reducible refine (begins_is _ ⟨#[42, 47]⟩ H3.out _).mono ?_); rintro e w3 ⟨rfl, hd⟩; have HD3 := Aside0.mk hd; clear hd)
                    go_roundg k2
                    case measure => omega
                    case rel => exact ⟨j + 1, by first | (rw [HEW.out]; done) | rfl | go_num, ⟨by have h_ := HJK.out; omega⟩, ⟨by have h_ := HJ0.out; omega⟩, ⟨by have h_ := HJ.out; omega⟩, ⟨drawn_trans HDJ.out HD3.out⟩⟩
                  · obtain rfl : j = E := by have h_ := HJ1.out; omega
                    clear hj
                    rcases HE4.out with ⟨h1_, h2_⟩ | ⟨h1_, h2_, h3_⟩
                    · have q14 : decide ((j : Int) < (s.size : Int)) = false := decide_eq_false (by omega)
                      have q15 : ((j : Int) < (s.size : Int)) = False := by apply eq_false; omega
                      have q17 : decide ((s.size : Int) ≤ (j : Int)) = true := decide_eq_true (by omega)
                      have q18 : ((s.size : Int) ≤ (j : Int)) = True := by apply eq_true; omega
                      have HEX := Aside0.mk h2_
                      clear h1_ h2_
                      go_wp2
                      go_ret
                      exact ⟨by rw [HEX.out]; rfl, drawn_trans (drawn_trans (drawn_trans HD.out HD1.out) HD2.out) HDJ.out⟩
                    · have q11 : ((j : Int) < (s.size : Int)) = True := by apply eq_true; omega
                      have q14 : decide ((j : Int) < (s.size : Int)) = true := decide_eq_true (by omega)
                      have H3 : Aside0 (Lib.hasPrefix (s.extract j s.size).data.toList (⟨#[42, 47]⟩ : ByteArray).data.toList = true) := ⟨by rw [rst_ext]; exact h2_⟩
                      have HEW : Aside0 (wrap64 ((j : Int) + 2) = ((j + 2 : Nat) : Int)) := ⟨by rw [w64 _ (by omega) (by omega)]; rfl⟩
                      have q17 : decide ((s.size : Int) ≤ (j : Int)) = false := decide_eq_false (by omega)
                      have q18 : ((s.size : Int) ≤ (j : Int)) = False := by apply eq_false; omega
                      have HEX := Aside0.mk h3_
                      have HEL := Aside0.mk h1_
                      clear h1_ h2_ h3_
                      go_wp2_with (go_at_call 29; (with_reducible refine (begins_is _ ⟨#[42, 47]⟩ H3.out _).mono ?_); rintro e w3 ⟨rfl, hd⟩; have HD3 := Aside0.mk hd; clear hd)
                      go_roundg k1
                      case measure => omega
                      case rel => exact ⟨j + 2, by first | (rw [HEW.out]; done) | rfl | go_num, ⟨by have h_ := HK.out; have h1_ := HJ0.out; omega⟩, ⟨HEL.out⟩, HEX, drawn_trans (drawn_trans (drawn_trans (drawn_trans HD.out HD1.out) HD2.out) HDJ.out) HD3.out⟩
      · have hie : i = s.size := by have h_ := HI.out; omega
        have HE : Aside0 (x = (i : Int)) := ⟨by rw [← HR.out, hie, show rst s s.size = [] from by unfold rst; rw [List.drop_eq_nil_iff, slen]; exact Nat.le_refl _]; exact skP_end s.size rfl⟩
        have q1 : ((i : Int) < (s.size : Int)) = False := by apply eq_false; omega
        have q5 : decide ((i : Int) < (s.size : Int)) = false := decide_eq_false (by omega)
        clear hi hie
        go_wp2
        go_ret
        exact ⟨by rw [HE.out]; rfl, HD.out⟩

end Go.Proofs.Ytbmabnmidacpdaa.L
