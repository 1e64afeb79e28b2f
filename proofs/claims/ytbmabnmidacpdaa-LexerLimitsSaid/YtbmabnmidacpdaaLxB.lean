import Derived.Test.YtbmabnmidacpdaaProg
import Derived.Below
import Derived.Deep.Draws
import Derived.Deep.AppendLies
import Derived.Maps.AppendAt
import Derived.OwnWalk
import Derived.Laws.BytesArg
import Derived.Laws.MakeOwn
import Derived.Laws.OwnMore
import Derived.Deep.OwnRows
import Derived.Tactics
import Derived.Lib.ConvBytes
import Derived.Laws.Slices
import Derived.WalkKit
import Derived.KernelRfl
import Derived.RowKit3
import Derived.Deep.LoopGhost
import Derived.Deep.QuietTactic
import Derived.BigQuiet
import Derived.WideLaws
import Derived.Deep.DeepCutAuto
import Derived.Deep.CutBlock
import Derived.Deep.RegionHeld3
import Derived.Laws.Rows
import Derived.Lib.AppendStr
import Derived.ArgAppend
import Derived.Laws.IdiomCopy
import Derived.OrdersHeld
import Derived.Laws.BitsLemmas
import Derived.RowKit
import Derived.Test.YtbmabnmidacpdaaWWords
import Derived.Test.YtbmabnmidacpdaaWLast
import Derived.Test.YtbmabnmidacpdaaWTab
import Derived.Test.YtbmabnmidacpdaaWQPut
import Derived.Test.YtbmabnmidacpdaaWApart
import Derived.Test.YtbmabnmidacpdaaWArr
import Derived.Test.YtbmabnmidacpdaaWZeros
import Derived.Test.YtbmabnmidacpdaaWFoot
import Derived.Test.YtbmabnmidacpdaaWKept
import Derived.Test.YtbmabnmidacpdaaWShare
import Derived.Test.YtbmabnmidacpdaaWN
import Derived.Test.YtbmabnmidacpdaaWEqStruct
import Derived.Test.YtbmabnmidacpdaaWGuard
import Derived.Test.YtbmabnmidacpdaaWNEv
import Derived.Test.YtbmabnmidacpdaaWMore
import Derived.Test.YtbmabnmidacpdaaX4
import Derived.Test.YtbmabnmidacpdaaSh
import Derived.Test.YtbmabnmidacpdaaLxA
import Derived.DataShut
import Derived.Deep.RegionLawGrows
import Derived.Deep.Upon
import Derived.Deep.MidRow
namespace Go.Proofs.Ytbmabnmidacpdaa.L
open Go.RowKit Go.Proofs.Ytbmabnmidacpdaa.X Go.Proofs.YtbmabnmidacpdaaW.PrintWords Go.Proofs.YtbmabnmidacpdaaW.PrintLast Go.Proofs.YtbmabnmidacpdaaW.PrintMore
attribute [local go_sem] max2_int min2_int max_two min_two max_three min_three max_four min_four   -- for this text's walks alone
set_option linter.unusedVariables false
set_option linter.unusedSimpArgs false
/-! The document's lexer on a list of bytes. -/
def blk (c : UInt8) : Bool := c == 32 || c == 9 || c == 10 || c == 13
def ltr (c : UInt8) : Bool := (decide (97 ≤ c.toNat) && decide (c.toNat ≤ 122)) || (decide (65 ≤ c.toNat) && decide (c.toNat ≤ 90)) || c == 95
def dig (c : UInt8) : Bool := decide (48 ≤ c.toNat) && decide (c.toNat ≤ 57)
def idc (c : UInt8) : Bool := ltr c || dig c
def gapL : List UInt8 → Int
  | [] => 0
  | c :: r => if blk c then 1
    else if Lib.hasPrefix (c :: r) [47, 47] then (if 0 ≤ Lib.indexByte (c :: r) 10 then Lib.indexByte (c :: r) 10 else ((c :: r).length : Int))
    else if Lib.hasPrefix (c :: r) [47, 42] then (if Lib.index ((c :: r).drop 2) [42, 47] < 0 then -1 else Lib.index ((c :: r).drop 2) [42, 47] + 4)
    else 0
def twos : List (List UInt8) := [[60, 60], [62, 62], [60, 61], [62, 61], [61, 61], [33, 61], [38, 38], [124, 124]]
def ones : List UInt8 := [43, 45, 42, 47, 37, 38, 124, 94, 60, 62, 33, 126, 61, 40, 41, 123, 125, 91, 93, 44, 59]
def signL (l : List UInt8) : Nat := if l.take 2 ∈ twos then 2 else if l.head?.any (ones.contains ·) then 1 else 0
def numV (l : List UInt8) : Int := l.foldl (fun n c => 10 * n + ((c.toNat : Int) - 48)) 0
def numL (l : List UInt8) : Option Int := if l.length ≤ 10 ∧ (l.length ≤ 1 ∨ l.head? ≠ some 48) ∧ l.all dig ∧ numV l < 2147483648 then some (numV l) else none
def wordsL : List (List UInt8) := [[105, 110, 116], [105, 102], [101, 108, 115, 101], [119, 104, 105, 108, 101], [98, 114, 101, 97, 107], [99, 111, 110, 116, 105, 110, 117, 101], [114, 101, 116, 117, 114, 110], [112, 114, 105, 110, 116], [114, 101, 97, 100]]
def idL (l : List UInt8) : Nat := (l.takeWhile idc).length
/-- What a token is: its kind, its bytes, its value; or an error. -/
inductive TR where
  | err (e : Int)
  | ok (kd : Int) (n : Nat) (v : Int)
def tokL (l : List UInt8) : TR :=
  if idL l = 0 then (if signL l = 0 then .err 10 else .ok 4 (signL l) 0)
  else if l.head?.any dig then (match numL (l.take (idL l)) with
    | none => .err 11
    | some v => .ok 2 (idL l) v)
  else if l.take (idL l) ∈ wordsL then .ok 3 (idL l) 0
  else if 64 < idL l then .err 2
  else .ok 1 (idL l) 0
structure T where
  kd : Int
  tx : List UInt8
  v : Int
  off : Nat
inductive R where
  | err (e : Int) (off : Nat)
  | ok (l : List T)
def R.cons (t : T) : R → R
  | .err e o => .err e o
  | .ok l => .ok (t :: l)
def R.app (l : List T) : R → R
  | .err e o => .err e o
  | .ok m => .ok (l ++ m)
def lexG : Nat → List UInt8 → Nat → R
  | 0, _, o => .err 0 o
  | k + 1, l, o =>
    if gapL l < 0 then .err 12 (o + l.length)
    else if 0 < gapL l then lexG k (l.drop (gapL l).toNat) (o + (gapL l).toNat)
    else if l = [] then .ok []
    else match tokL l with
      | .err e => .err e o
      | .ok kd n v => R.cons ⟨kd, l.take n, v, o⟩ (lexG k (l.drop n) (o + n))
def lexA (l : List UInt8) : R := if 65536 < l.length then .err 2 0 else lexG (l.length + 1) l 0
theorem app_cons (a : List T) (t : T) (r : R) : R.app a (R.cons t r) = R.app (a ++ [t]) r := by
  cases r <;> simp [R.cons, R.app]
theorem app_nil (r : R) : R.app [] r = r := by cases r <;> rfl
/-! Bounds. -/
theorem iB_lt (l : List UInt8) (c : UInt8) : Lib.indexByte l c < l.length ∨ l = [] := by
  induction l with
  | nil => exact .inr rfl
  | cons b l ih =>
    left
    unfold Lib.indexByte
    split
    · simp
    · split
      · simp; omega
      · rcases ih with h | h
        · simp; omega
        · subst h; exact absurd rfl (by assumption)
theorem ix_lt (l : List UInt8) (a b : UInt8) : Lib.index l [a, b] + 2 ≤ l.length ∨ Lib.index l [a, b] = -1 := by
  induction l with
  | nil => exact .inr rfl
  | cons x l ih =>
    unfold Lib.index
    split
    · rename_i h
      left
      have h2 := (List.isPrefixOf_iff_prefix.1 h).length_le
      simp at h2 ⊢
      omega
    · split
      · exact .inr rfl
      · rename_i h1 h2
        rcases ih with h | h
        · left; simp; omega
        · exact absurd (by simpa using h) h2
theorem gap_bd (l : List UInt8) : -1 ≤ gapL l ∧ gapL l ≤ l.length := by
  cases l with
  | nil => exact ⟨by decide, by decide⟩
  | cons c r =>
    unfold gapL
    have h1 := iB_lt (c :: r) 10
    have h2 := ix_lt ((c :: r).drop 2) 42 47
    have h3 := Lib.index_ge ((c :: r).drop 2) [42, 47]
    simp only [List.drop_succ_cons] at *
    split
    · simp; omega
    · split
      · rename_i hp
        split
        · simp at *; omega
        · simp; omega
      · split
        · rename_i hp
          have hl := (List.isPrefixOf_iff_prefix.1 hp).length_le
          split
          · simp; omega
          · simp at *; omega
        · simp; omega
theorem take_sign {l : List UInt8} (h : l.take 2 ∈ twos) : 2 ≤ l.length := by
  have h2 : ∀ t, t ∈ twos → t.length = 2 := by decide
  have h3 := h2 _ h
  rw [List.length_take] at h3
  omega
theorem sign_bd (l : List UInt8) : signL l ≤ l.length ∧ signL l ≤ 2 := by
  unfold signL
  split
  · rename_i h; exact ⟨take_sign h, Nat.le_refl _⟩
  · split
    · cases l with
      | nil => simp at *
      | cons c r => simp
    · simp
theorem id_bd (l : List UInt8) : idL l ≤ l.length := (List.takeWhile_sublist _).length_le
theorem tok_bd {l : List UInt8} {kd v : Int} {n : Nat} (h : tokL l = .ok kd n v) : 1 ≤ n ∧ n ≤ l.length := by
  have h1 := sign_bd l
  have h2 := id_bd l
  unfold tokL at h
  split at h
  · split at h
    · cases h
    · injection h with _ h _; omega
  · split at h
    · split at h
      · cases h
      · injection h with _ h _; omega
    · split at h
      · injection h with _ h _; omega
      · split at h
        · cases h
        · injection h with _ h _; omega
/-! The printed functions of one byte. -/
theorem u8_int (c : UInt8) (n : Nat) (h : n < 256) : ((c.toNat : Int) = n) = (c = UInt8.ofNat n) := by
  apply propext
  constructor
  · intro e
    apply UInt8.toNat_inj.1
    simp
    omega
  · rintro rfl
    simp
    omega
theorem isBlank_f (c : UInt8) : lexer_isBlank.f (c.toNat : Int) = some (blk c) := by
  unfold lexer_isBlank.f blk
  have h4 : ((c.toNat : Int) == 13) = (c == 13) := by
    have := u8_int c 13 (by decide)
    rw [Bool.eq_iff_iff]; simp only [beq_iff_eq]; simpa using this
  by_cases e1 : c = 32
  · subst e1; rfl
  by_cases e2 : c = 9
  · subst e2; rfl
  by_cases e3 : c = 10
  · subst e3; rfl
  rw [if_neg (by rw [show ((32 : Int)) = ((32 : Nat) : Int) from rfl, u8_int c 32 (by decide)]; exact e1), if_neg (by rw [show ((9 : Int)) = ((9 : Nat) : Int) from rfl, u8_int c 9 (by decide)]; exact e2), if_neg (by rw [show ((10 : Int)) = ((10 : Nat) : Int) from rfl, u8_int c 10 (by decide)]; exact e3), h4]
  simp [e1, e2, e3]
theorem isLetter_f (c : UInt8) : lexer_isLetter.f (c.toNat : Int) = some (ltr c) := by
  unfold lexer_isLetter.f ltr
  have h4 : ((c.toNat : Int) == 95) = (c == 95) := by
    rw [Bool.eq_iff_iff]; simp only [beq_iff_eq]; rw [show ((95 : Int)) = ((95 : Nat) : Int) from rfl, u8_int c 95 (by decide)]; rfl
  rw [h4]
  repeat' split
  all_goals (first | (simp; omega) | (congr 1; rw [Bool.eq_iff_iff]; simp; omega))
theorem isDigit_f (c : UInt8) : lexer_isDigit.f (c.toNat : Int) = some (dig c) := by
  unfold lexer_isDigit.f dig
  split
  · congr 1; rw [Bool.eq_iff_iff]; simp; omega
  · congr 1; symm; simp; omega
theorem refletter_f (c : UInt8) : brazierref07_letter.f (c.toNat : Int) = some (ltr c) := isLetter_f c
theorem refdigit_f (c : UInt8) : brazierref07_digit.f (c.toNat : Int) = some (dig c) := isDigit_f c
/-! The reader. -/
def rst (s : ByteArray) (n : Nat) : List UInt8 := s.data.toList.drop n
theorem slen (s : ByteArray) : s.data.toList.length = s.size := by simp
theorem rst_len (s : ByteArray) (n : Nat) : (rst s n).length = s.size - n := by unfold rst; rw [List.length_drop, slen]
theorem rst_ext (s : ByteArray) (n : Nat) : (s.extract n s.size).data.toList = rst s n := by
  rw [Lib.extract_data]
  simp only [rst]
  exact List.take_of_length_le (by rw [List.length_drop, slen]; omega)
theorem wrap64_nat (k : Nat) (h : (k : Int) ≤ 1000000000000) : wrap64 (k : Int) = k := by
  have := @IntKind.wrap_i64
  simp [wrap64]; omega
theorem pass_l (s : ByteArray) (hs : s.size ≤ 1000000000) : ∀ (m : Nat) (off j : Nat), off + m ≤ s.size → j + m ≤ 1000000000 →
    lexer_reader_pass.l0 (m + 1) ((j : Int) + m) (j : Int) (off : Int) (lnA s off) (stA s off) s = some (((off + m : Nat) : Int), lnA s (off + m), stA s (off + m), s) := by
  intro m
  induction m with
  | zero =>
    intro off j h1 h2
    unfold lexer_reader_pass.l0
    rw [if_neg (by omega)]
    rfl
  | succ m ih =>
    intro off j h1 h2
    have hb1 := lnA_bd s off
    have ihm := ih (off + 1) (j + 1) (by omega) (by omega)
    unfold lexer_reader_pass.l0
    rw [if_pos (by omega), if_pos (by omega), if_pos (by omega)]
    have e1 : wrap64 ((j : Int) + 1) = ((j + 1 : Nat) : Int) := by rw [← wrap64_nat (j + 1) (by omega)]; congr 1
    have e2 : wrap64 ((off : Int) + 1) = ((off + 1 : Nat) : Int) := by rw [← wrap64_nat (off + 1) (by omega)]; congr 1
    have e3 : wrap64 (lnA s off + 1) = lnA s off + 1 := by
      obtain ⟨q, hq⟩ : ∃ q : Nat, lnA s off + 1 = (q : Int) := ⟨(lnA s off + 1).toNat, by omega⟩
      rw [hq]; exact wrap64_nat q (by omega)
    have e4 : (j : Int) + ((m + 1 : Nat) : Int) = ((j + 1 : Nat) : Int) + (m : Int) := by omega
    have e5 : off + 1 + m = off + (m + 1) := by omega
    rw [e5] at ihm
    split
    · rename_i hc
      rw [e1, e2, e3, e4, ← ihm]
      congr 1
      · conv => rhs; unfold lnA; rw [if_pos hc]
      · conv => rhs; unfold stA; rw [if_pos hc]
        exact Int.natCast_add off 1
    · rename_i hc
      rw [e1, e2, e4, ← ihm]
      congr 1
      · rw [show lnA s (off + 1) = lnA s off from by conv => lhs; unfold lnA; rw [if_neg hc]]
      · rw [show stA s (off + 1) = stA s off from by conv => lhs; unfold stA; rw [if_neg hc]]
theorem pass_f (s : ByteArray) (hs : s.size ≤ 1000000000) (m off : Nat) (h : off + m ≤ s.size) :
    lexer_reader_pass.f (m + 1) (off : Int) (lnA s off) (stA s off) s (m : Int) = some (((off + m : Nat) : Int), lnA s (off + m), stA s (off + m), s) := by
  have h1 := pass_l s hs m off 0 h (by omega)
  unfold lexer_reader_pass.f
  rw [show ((0 : Nat) : Int) + (m : Int) = (m : Int) from by omega] at h1
  exact h1
/-- The reader at block g, its text gone through up to 'off'. -/
def Rd (w0 w : World) (g : Nat) (s : ByteArray) (off : Nat) : Prop := IsS50 w0 w g (off : Int) (lnA s off) (stA s off) s
theorem pass_calls (w0 w : World) (g : Nat) (s : ByteArray) (hs : s.size ≤ 1000000000) (m off : Nat) (h : off + m ≤ s.size) (hI : Rd w0 w g s off) (hB : Below w0.heap.size w0 w) :
    Calls Try.prog 23 #[.pointer (some ⟨g, 0, none⟩), .int .i64 (m : Int)] w fun e w' => e = .returned (.tuple #[]) ∧ Rd w0 w' g s (off + m) ∧ Below w0.heap.size w0 w' ∧ KeepBut w w' g none :=
  lexer_reader_pass.calls (m + 1) g _ _ _ s (m : Int) _ _ _ _ w0 w hI hB (pass_f s hs m off h)
theorem rest_calls (w0 w : World) (g : Nat) (s : ByteArray) (off : Nat) (h : off ≤ s.size) (hI : Rd w0 w g s off) (hB : Below w0.heap.size w0 w) :
    Calls Try.prog 38 #[.pointer (some ⟨g, 0, none⟩)] w fun e w' => e = .returned (.string (s.extract off s.size)) ∧ Rd w0 w' g s off ∧ Below w0.heap.size w0 w' ∧ KeepBut w w' g none :=
  lexer_reader_rest.calls g (off : Int) (lnA s off) (stA s off) s (s.extract off s.size) (off : Int) (lnA s off) (stA s off) s w0 w hI hB (by
    unfold lexer_reader_rest.f
    rw [if_pos (by omega), if_pos (by omega)]
    rfl)
/-! The gap. -/
theorem rst_cons (s : ByteArray) (n : Nat) (h : n < s.size) : ∃ c r, rst s n = c :: r ∧ (c.toNat : Int) = bt s (n : Int) := by
  have hl : n < s.data.toList.length := by rw [slen]; exact h
  refine ⟨s.data.toList[n], s.data.toList.drop (n + 1), ?_, (bt_list s n hl).symm⟩
  unfold rst
  exact List.drop_eq_getElem_cons hl
theorem ext_cons {s t : ByteArray} {n : Nat} (ht : t.data.toList = rst s n) {c : UInt8} {r : List UInt8} (h : rst s n = c :: r) : bt t 0 = (c.toNat : Int) := by
  have hl : 0 < t.data.toList.length := by rw [ht, h]; simp
  have := bt_list t 0 hl
  rw [show ((0 : Nat) : Int) = 0 from rfl] at this
  rw [this]
  congr 2
  simp only [ht, h, List.getElem_cons_zero]
theorem pw_cell_below2 {w0 w1 w2 : World} {a : Addr} {v : Value} (hb : Below w0.heap.size w0 w1) (hd : Drawn0 w1 w2) (hc : w0.cell? a = some v) : w2.cell? a = some v := pw_cell_below hd.below (pw_cell_below hb hc)
set_option maxHeartbeats 4000000 in
set_option maxRecDepth 100000 in
theorem gap_calls (w0 w : World) (g : Nat) (s : ByteArray) (mx : Int) (hm : w0.cell? ⟨0, 0, none⟩ = some (.int .i64 mx)) (hs : s.size ≤ 1000000000) (off : Nat) (h : off ≤ s.size) (hI : Rd w0 w g s off) (hB : Below w0.heap.size w0 w) :
    Calls Try.prog 22 #[.pointer (some ⟨g, 0, none⟩)] w fun e w' => e = .returned (.int .i64 (gapL (rst s off))) ∧ Rd w0 w' g s off ∧ Below w0.heap.size w0 w' ∧ KeepBut w w' g none := by
  have HI := Aside0.mk hI
  have HB := Aside0.mk hB
  clear hI hB
  obtain ⟨t, hte⟩ : ∃ t, t = s.extract off s.size := ⟨_, rfl⟩
  have HT := Aside0.mk (show t.data.toList = rst s off by rw [hte]; exact rst_ext s off)
  have HTS := Aside0.mk (show t.size = s.size - off from by rw [← slen, HT.out, rst_len])
  have HTE := Aside0.mk hte
  clear hte
  by_cases h0 : off = s.size
  · have ht0 : t = ⟨#[]⟩ := by
      have h1 : t.data.toList = [] := by rw [HT.out]; unfold rst; rw [List.drop_eq_nil_iff, slen]; omega
      have h2 : t.data = #[] := Array.toList_inj.1 (by rw [h1])
      cases t; cases h2; rfl
    have HG : Aside0 (gapL (rst s off) = 0) := ⟨by rw [← HT.out, ht0]; rfl⟩
    rw [HG.out]
    go_enter Try.func22, Try.ntmps22
    go_wp2_with (go_at_call 38; (with_reducible refine (rest_calls w0 w g s off h HI.out HB.out).mono ?_); rw [← HTE.out, ht0]; rintro e w1 ⟨rfl, hI1, hB1, hK1⟩; have HI1 := Aside0.mk hI1; have HB1 := Aside0.mk hB1; have HK1 := Aside0.mk hK1; clear hI1 hB1 hK1)
    go_ret
    exact ⟨rfl, HI1.out, HB1.out, HK1.out⟩
  · obtain ⟨c, r, hcr, hbt⟩ := rst_cons s off (by omega)
    have hb0 := ext_cons HT.out hcr
    have hE : t.toList.isEmpty = false := by rw [ByteArray.toList_eq, HT.out, hcr]; rfl
    have q1 : (0 < (t.size : Int)) = True := by apply eq_true; have h_ := HTS.out; omega
    have q2 : (0 < t.size) = True := by apply eq_true; have h_ := HTS.out; omega
    have q3 : ∀ h : 0 < t.size, ((t[0]'h).toNat : Int) = (c.toNat : Int) := fun h => (bt_at t 0 h).trans hb0
    have q4 : ∀ h : 0 < t.size, (t[0]'h).toNat = c.toNat := fun h => by have := q3 h; omega
    have HCR := Aside0.mk hcr
    clear hcr hbt
    have HL : Aside0 (gapL (rst s off) = if blk c then 1
      else if Lib.hasPrefix t.data.toList [47, 47] then (if 0 ≤ Lib.indexByte t.data.toList 10 then Lib.indexByte t.data.toList 10 else (t.size : Int))
      else if Lib.hasPrefix t.data.toList [47, 42] then (if Lib.index (t.extract 2 t.size).data.toList [42, 47] < 0 then -1 else Lib.index (t.extract 2 t.size).data.toList [42, 47] + 4)
      else 0) := ⟨by
        rw [rst_ext, ← slen t, show rst t 2 = t.data.toList.drop 2 from rfl, HT.out, HCR.out]
        rfl⟩
    have hts2 : (t.extract 2 t.size).size ≤ t.size := by
      rw [← slen, rst_ext, rst_len]; omega
    have hts4 : (t.extract 2 t.size).size < 4294967281 := by have h_ := HTS.out; omega
    have HTS2 := Aside0.mk hts2
    clear hts2
    by_cases hk : blk c = true
    · have HG : Aside0 (gapL (rst s off) = 1) := ⟨by rw [HL.out]; exact if_pos hk⟩
      rw [HG.out]
      go_enter Try.func22, Try.ntmps22
      go_wp2_with (first
        | (go_at_call 38; (with_reducible refine (rest_calls w0 w g s off h HI.out HB.out).mono ?_); rw [← HTE.out]; rintro e w1 ⟨rfl, hI1, hB1, hK1⟩; have HI1 := Aside0.mk hI1; have HB1 := Aside0.mk hB1; have HK1 := Aside0.mk hK1; clear hI1 hB1 hK1)
        | (go_at_call 39; (with_reducible refine (lexer_isBlank.calls (c.toNat : Int) (blk c) _ (isBlank_f c)).mono ?_); rw [hk]; rintro e w2 ⟨rfl, hd⟩; have HD := Aside0.mk hd; clear hd))
      go_ret
      exact ⟨rfl, HI1.out.below HD.out.below, below_then HB1.out HB1.out.size HD.out.below, HK1.out.trans (KeepBut.of_below HD.out.below g none) (.inl rfl)⟩
    · have HL2 := Aside0.mk (HL.out.trans (if_neg hk))
      have hk : blk c = false := by simpa using hk
      by_cases hp1 : Lib.hasPrefix t.data.toList [47, 47] = true
      · have HL3 := Aside0.mk (HL2.out.trans (if_pos hp1))
        obtain ⟨n, hib⟩ : ∃ n, Lib.indexByte t.data.toList 10 = n := ⟨_, rfl⟩
        rw [hib] at HL3
        have hn1 := Lib.indexByte_ge t.data.toList 10
        have hn2 := iB_lt t.data.toList 10
        by_cases hn : 0 ≤ n
        · have HG : Aside0 (gapL (rst s off) = n) := ⟨HL3.out.trans (if_pos hn)⟩
          rw [HG.out]
          go_enter Try.func22, Try.ntmps22
          go_wp2_with (first
            | (go_at_call 38; (with_reducible refine (rest_calls w0 w g s off h HI.out HB.out).mono ?_); rw [← HTE.out]; rintro e w1 ⟨rfl, hI1, hB1, hK1⟩; have HI1 := Aside0.mk hI1; have HB1 := Aside0.mk hB1; have HK1 := Aside0.mk hK1; clear hI1 hB1 hK1)
            | (go_at_call 39; (with_reducible refine (lexer_isBlank.calls (c.toNat : Int) (blk c) _ (isBlank_f c)).mono ?_); rw [hk]; rintro e w2 ⟨rfl, hd⟩; have HD := Aside0.mk hd; clear hd)
            | (go_at_call 40; (with_reducible refine (Try.strings_HasPrefix t ⟨#[47, 47]⟩ _).mono ?_); rw [hp1]; rintro e w3 ⟨rfl, rfl⟩)
            | (go_at_call 41; (with_reducible refine (Try.strings_IndexByte t 10 _).mono ?_); rw [show Lib.indexByte t.data.toList (10 : Int).toNat.toUInt8 = n from hib]; rintro e w3 ⟨rfl, rfl⟩))
          go_ret
          exact ⟨rfl, HI1.out.below HD.out.below, below_then HB1.out HB1.out.size HD.out.below, HK1.out.trans (KeepBut.of_below HD.out.below g none) (.inl rfl)⟩
        · have HG : Aside0 (gapL (rst s off) = (t.size : Int)) := ⟨HL3.out.trans (if_neg hn)⟩
          rw [HG.out]
          go_enter Try.func22, Try.ntmps22
          go_wp2_with (first
            | (go_at_call 38; (with_reducible refine (rest_calls w0 w g s off h HI.out HB.out).mono ?_); rw [← HTE.out]; rintro e w1 ⟨rfl, hI1, hB1, hK1⟩; have HI1 := Aside0.mk hI1; have HB1 := Aside0.mk hB1; have HK1 := Aside0.mk hK1; clear hI1 hB1 hK1)
            | (go_at_call 39; (with_reducible refine (lexer_isBlank.calls (c.toNat : Int) (blk c) _ (isBlank_f c)).mono ?_); rw [hk]; rintro e w2 ⟨rfl, hd⟩; have HD := Aside0.mk hd; clear hd)
            | (go_at_call 40; (with_reducible refine (Try.strings_HasPrefix t ⟨#[47, 47]⟩ _).mono ?_); rw [hp1]; rintro e w3 ⟨rfl, rfl⟩)
            | (go_at_call 41; (with_reducible refine (Try.strings_IndexByte t 10 _).mono ?_); rw [show Lib.indexByte t.data.toList (10 : Int).toNat.toUInt8 = n from hib]; rintro e w3 ⟨rfl, rfl⟩))
          go_ret
          exact ⟨rfl, HI1.out.below HD.out.below, below_then HB1.out HB1.out.size HD.out.below, HK1.out.trans (KeepBut.of_below HD.out.below g none) (.inl rfl)⟩
      · have HL3 := Aside0.mk (HL2.out.trans (if_neg hp1))
        have hp1 : Lib.hasPrefix t.data.toList [47, 47] = false := by simpa using hp1
        by_cases hp2 : Lib.hasPrefix t.data.toList [47, 42] = true
        · have HL4 := Aside0.mk (HL3.out.trans (if_pos hp2))
          have ht2 : 2 ≤ t.size := by
            have h_ := (List.isPrefixOf_iff_prefix.1 hp2).length_le
            rw [slen] at h_
            exact h_
          obtain ⟨n, hix⟩ : ∃ n, Lib.index (t.extract 2 t.size).data.toList [42, 47] = n := ⟨_, rfl⟩
          have hn1 := Lib.index_ge (t.extract 2 t.size).data.toList [42, 47]
          have hn2 := ix_lt (t.extract 2 t.size).data.toList 42 47
          rw [slen] at hn2
          rw [hix] at HL4 hn1 hn2
          by_cases hn : n < 0
          · have HG : Aside0 (gapL (rst s off) = -1) := ⟨HL4.out.trans (if_pos hn)⟩
            rw [HG.out]
            go_enter Try.func22, Try.ntmps22
            go_wp2_with (first
              | (go_at_call 38; (with_reducible refine (rest_calls w0 w g s off h HI.out HB.out).mono ?_); rw [← HTE.out]; rintro e w1 ⟨rfl, hI1, hB1, hK1⟩; have HI1 := Aside0.mk hI1; have HB1 := Aside0.mk hB1; have HK1 := Aside0.mk hK1; clear hI1 hB1 hK1)
              | (go_at_call 39; (with_reducible refine (lexer_isBlank.calls (c.toNat : Int) (blk c) _ (isBlank_f c)).mono ?_); rw [hk]; rintro e w2 ⟨rfl, hd⟩; have HD := Aside0.mk hd; clear hd)
              | (go_at_call 40; (with_reducible refine (Try.strings_HasPrefix t ⟨#[47, 47]⟩ _).mono ?_); rw [hp1]; rintro e w3 ⟨rfl, rfl⟩)
              | (go_at_call 40; (with_reducible refine (Try.strings_HasPrefix t ⟨#[47, 42]⟩ _).mono ?_); rw [hp2]; rintro e w3 ⟨rfl, rfl⟩)
              | (go_at_call 42; go_loud ((with_reducible refine (Try.strings_Index (t.extract 2 t.size) ⟨#[42, 47]⟩ mx _ ?hsz ?hmx).mono ?_); (case hsz => exact hts4); (case hmx => exact pw_cell_below2 HB1.out HD.out hm); rw [show Lib.index (t.extract 2 t.size).data.toList (⟨#[42, 47]⟩ : ByteArray).data.toList = n from hix]; rintro e w3 ⟨rfl, rfl⟩)))
            go_ret
            exact ⟨rfl, HI1.out.below HD.out.below, below_then HB1.out HB1.out.size HD.out.below, HK1.out.trans (KeepBut.of_below HD.out.below g none) (.inl rfl)⟩
          · have HG : Aside0 (gapL (rst s off) = n + 4) := ⟨HL4.out.trans (if_neg hn)⟩
            rw [HG.out]
            go_enter Try.func22, Try.ntmps22
            go_wp2_with (first
              | (go_at_call 38; (with_reducible refine (rest_calls w0 w g s off h HI.out HB.out).mono ?_); rw [← HTE.out]; rintro e w1 ⟨rfl, hI1, hB1, hK1⟩; have HI1 := Aside0.mk hI1; have HB1 := Aside0.mk hB1; have HK1 := Aside0.mk hK1; clear hI1 hB1 hK1)
              | (go_at_call 39; (with_reducible refine (lexer_isBlank.calls (c.toNat : Int) (blk c) _ (isBlank_f c)).mono ?_); rw [hk]; rintro e w2 ⟨rfl, hd⟩; have HD := Aside0.mk hd; clear hd)
              | (go_at_call 40; (with_reducible refine (Try.strings_HasPrefix t ⟨#[47, 47]⟩ _).mono ?_); rw [hp1]; rintro e w3 ⟨rfl, rfl⟩)
              | (go_at_call 40; (with_reducible refine (Try.strings_HasPrefix t ⟨#[47, 42]⟩ _).mono ?_); rw [hp2]; rintro e w3 ⟨rfl, rfl⟩)
              | (go_at_call 42; (with_reducible refine (Try.strings_Index (t.extract 2 t.size) ⟨#[42, 47]⟩ mx _ ?hsz ?hmx).mono ?_); (case hsz => exact hts4); (case hmx => exact pw_cell_below2 HB1.out HD.out hm); rw [show Lib.index (t.extract 2 t.size).data.toList (⟨#[42, 47]⟩ : ByteArray).data.toList = n from hix]; rintro e w3 ⟨rfl, rfl⟩))
            go_ret
            exact ⟨rfl, HI1.out.below HD.out.below, below_then HB1.out HB1.out.size HD.out.below, HK1.out.trans (KeepBut.of_below HD.out.below g none) (.inl rfl)⟩
        · have HG := Aside0.mk (HL3.out.trans (if_neg hp2))
          have hp2 : Lib.hasPrefix t.data.toList [47, 42] = false := by simpa using hp2
          rw [HG.out]
          go_enter Try.func22, Try.ntmps22
          go_wp2_with (first
            | (go_at_call 38; (with_reducible refine (rest_calls w0 w g s off h HI.out HB.out).mono ?_); rw [← HTE.out]; rintro e w1 ⟨rfl, hI1, hB1, hK1⟩; have HI1 := Aside0.mk hI1; have HB1 := Aside0.mk hB1; have HK1 := Aside0.mk hK1; clear hI1 hB1 hK1)
            | (go_at_call 39; (with_reducible refine (lexer_isBlank.calls (c.toNat : Int) (blk c) _ (isBlank_f c)).mono ?_); rw [hk]; rintro e w2 ⟨rfl, hd⟩; have HD := Aside0.mk hd; clear hd)
            | (go_at_call 40; (with_reducible refine (Try.strings_HasPrefix t ⟨#[47, 47]⟩ _).mono ?_); rw [hp1]; rintro e w3 ⟨rfl, rfl⟩)
            | (go_at_call 40; (with_reducible refine (Try.strings_HasPrefix t ⟨#[47, 42]⟩ _).mono ?_); rw [hp2]; rintro e w3 ⟨rfl, rfl⟩))
          go_ret
          exact ⟨rfl, HI1.out.below HD.out.below, below_then HB1.out HB1.out.size HD.out.below, HK1.out.trans (KeepBut.of_below HD.out.below g none) (.inl rfl)⟩

end Go.Proofs.Ytbmabnmidacpdaa.L
