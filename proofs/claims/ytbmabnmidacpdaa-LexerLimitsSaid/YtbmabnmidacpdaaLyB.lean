import Derived.Test.YtbmabnmidacpdaaProg
import Derived.Below
import Derived.Deep.Draws
import Derived.Deep.AppendLies
import Derived.Maps.AppendAt
import Derived.OwnWalk
import Derived.Laws.BytesArg
import Derived.Laws.MakeOwn
import Derived.Laws.OwnMore
import Derived.Deep.OwnRows
import Derived.Tactics
import Derived.Lib.ConvBytes
import Derived.Laws.Slices
import Derived.WalkKit
import Derived.KernelRfl
import Derived.RowKit3
import Derived.IntWalk
import Derived.Deep.LoopGhost
import Derived.Deep.QuietTactic
import Derived.BigQuiet
import Derived.WideLaws
import Derived.Deep.DeepCutAuto
import Derived.Deep.CutBlock
import Derived.Deep.RegionHeld3
import Derived.Laws.Rows
import Derived.Lib.AppendStr
import Derived.ArgAppend
import Derived.Laws.IdiomCopy
import Derived.OrdersHeld
import Derived.Laws.BitsLemmas
import Derived.RowKit
import Derived.Test.YtbmabnmidacpdaaWWords
import Derived.Test.YtbmabnmidacpdaaWLast
import Derived.Test.YtbmabnmidacpdaaWTab
import Derived.Test.YtbmabnmidacpdaaWQPut
import Derived.Test.YtbmabnmidacpdaaWApart
import Derived.Test.YtbmabnmidacpdaaWArr
import Derived.Test.YtbmabnmidacpdaaWZeros
import Derived.Test.YtbmabnmidacpdaaWFoot
import Derived.Test.YtbmabnmidacpdaaWKept
import Derived.Test.YtbmabnmidacpdaaWShare
import Derived.Test.YtbmabnmidacpdaaWN
import Derived.Test.YtbmabnmidacpdaaWEqStruct
import Derived.Test.YtbmabnmidacpdaaWGuard
import Derived.Test.YtbmabnmidacpdaaWNEv
import Derived.Test.YtbmabnmidacpdaaWMore
import Derived.Test.YtbmabnmidacpdaaX1
import Derived.Test.YtbmabnmidacpdaaX2
import Derived.Test.YtbmabnmidacpdaaX3
import Derived.Test.YtbmabnmidacpdaaX4
import Derived.Test.YtbmabnmidacpdaaSh
import Derived.Test.YtbmabnmidacpdaaLxA
import Derived.Test.YtbmabnmidacpdaaLxB
import Derived.Test.YtbmabnmidacpdaaLxC
import Derived.Test.YtbmabnmidacpdaaLxD
import Derived.Test.YtbmabnmidacpdaaLxP
import Derived.Test.YtbmabnmidacpdaaHw
import Derived.Test.YtbmabnmidacpdaaLxE
import Derived.Test.YtbmabnmidacpdaaLxS
import Derived.Test.YtbmabnmidacpdaaLxT
import Derived.Test.YtbmabnmidacpdaaLxV
import Derived.Test.YtbmabnmidacpdaaLxU
import Derived.Test.YtbmabnmidacpdaaLxW
import Derived.Test.YtbmabnmidacpdaaLxX
import Derived.Test.YtbmabnmidacpdaaLxR
import Derived.Test.YtbmabnmidacpdaaLxZ
import Derived.Test.YtbmabnmidacpdaaLyA
import Derived.Lib.Builder

import Derived.Lib.UnsafeStr
import Derived.Laws.Externs
import Derived.DataShut
import Derived.Deep.RegionLawGrows
import Derived.Deep.Upon
import Derived.Deep.MidRow
namespace Go.Proofs.Ytbmabnmidacpdaa.L
open Go.RowKit Go.Proofs.Ytbmabnmidacpdaa.X Go.Proofs.YtbmabnmidacpdaaW.PrintWords Go.Proofs.YtbmabnmidacpdaaW.PrintLast Go.Proofs.YtbmabnmidacpdaaW.PrintMore
attribute [local go_sem] max2_int min2_int max_two min_two max_three min_three max_four min_four   -- for this text's walks alone
set_option linter.unusedVariables false
set_option linter.unusedSimpArgs false
/-! Tokens that stand by themselves. -/
def Sep (r : List UInt8) : Prop := r = [] ∨ ∃ b q, r = b :: q ∧ blk b = true
def Alone (t : T) : Prop := t.tx ≠ [] ∧ ∀ r, Sep r → tokL (t.tx ++ r) = .ok t.kd t.tx.length t.v ∧ gapL (t.tx ++ r) = 0
theorem blk_is {b : UInt8} (h : blk b = true) : b = 32 ∨ b = 9 ∨ b = 10 ∨ b = 13 := by
  unfold blk at h
  simp only [Bool.or_eq_true, beq_iff_eq] at h
  rcases h with ((h | h) | h) | h
  · exact .inl h
  · exact .inr (.inl h)
  · exact .inr (.inr (.inl h))
  · exact .inr (.inr (.inr h))
theorem blk_idc {b : UInt8} (h : blk b = true) : idc b = false := by
  rcases blk_is h with rfl | rfl | rfl | rfl <;> rfl
theorem idc_blk {c : UInt8} (h : idc c = true) : blk c = false := by
  cases hb : blk c with
  | false => rfl
  | true => rw [blk_idc hb] at h; cases h
theorem idc_47 {c : UInt8} (h : idc c = true) : c ≠ 47 := by
  intro e; subst e; cases h
theorem idL_cons (c : UInt8) (l : List UInt8) : idL (c :: l) = if idc c = true then idL l + 1 else 0 := by
  unfold idL
  rw [List.takeWhile_cons]
  split <;> rfl
theorem idL_app {r : List UInt8} (hr : Sep r) : ∀ x : List UInt8, x.all idc = true → idL (x ++ r) = x.length
  | [], _ => by
    rcases hr with rfl | ⟨b, q, rfl, hb⟩
    · rfl
    · rw [List.nil_append, idL_cons, if_neg (by rw [blk_idc hb]; decide)]; rfl
  | c :: x, h => by
    simp only [List.all_cons, Bool.and_eq_true] at h
    rw [List.cons_append, idL_cons, if_pos h.1, idL_app hr x h.2]
    rfl
theorem idL_all : ∀ l : List UInt8, (l.take (idL l)).all idc = true
  | [] => rfl
  | c :: l => by
    rw [idL_cons]
    split
    · rename_i h
      rw [List.take_succ_cons, List.all_cons, h, idL_all l]
      rfl
    · rfl
theorem pre_two {c d : UInt8} {r : List UInt8} {a b : UInt8} : Lib.hasPrefix (c :: d :: r) [a, b] = (a == c && b == d) := by
  unfold Lib.hasPrefix
  simp [List.isPrefixOf]
theorem twos_no {c b : UInt8} (h : blk b = true) : [c, b] ∉ twos := by
  intro hm
  unfold twos at hm
  simp only [List.mem_cons, List.not_mem_nil, or_false, List.cons.injEq, and_true] at hm
  rcases blk_is h with rfl | rfl | rfl | rfl <;> rcases hm with ⟨_, hm⟩ | ⟨_, hm⟩ | ⟨_, hm⟩ | ⟨_, hm⟩ | ⟨_, hm⟩ | ⟨_, hm⟩ | ⟨_, hm⟩ | ⟨_, hm⟩ <;> cases hm
theorem alone_of {l : List UInt8} {kd v : Int} {k : Nat} {o : Nat} (hg : gapL l = 0) (hl : l ≠ []) (ht : tokL l = .ok kd k v) : Alone ⟨kd, l.take k, v, o⟩ := by
  have hb := tok_bd ht
  have htl : (l.take k).length = k := by rw [List.length_take]; omega
  refine ⟨fun e => ?_, fun r hr => ?_⟩
  · have e2 : (l.take k).length = 0 := by rw [show l.take k = [] from e]; rfl
    omega
  · show tokL (l.take k ++ r) = .ok kd (l.take k).length v ∧ gapL (l.take k ++ r) = 0
    rw [htl]
    obtain ⟨c, q, rfl⟩ : ∃ c q, l = c :: q := by
      cases l with
      | nil => exact absurd rfl hl
      | cons c q => exact ⟨c, q, rfl⟩
    have hcb : blk c = false := by
      cases hc : blk c with
      | false => rfl
      | true => rw [gap_blk hc] at hg; cases hg
    obtain ⟨k, rfl⟩ : ∃ m, k = m + 1 := ⟨k - 1, by omega⟩
    have htk : (c :: q).take (k + 1) ++ r = c :: (q.take k ++ r) := rfl
    by_cases hid : idL (c :: q) = 0
    · -- a sign
      have hci : idc c = false := by
        rw [idL_cons] at hid
        cases hc : idc c with
        | false => rfl
        | true => rw [hc, if_pos rfl] at hid; omega
      have hid2 : idL (c :: (q.take k ++ r)) = 0 := by rw [idL_cons, if_neg (by rw [hci]; decide)]
      rw [tok_sign hid] at ht
      by_cases hs0 : signL (c :: q) = 0
      · rw [if_pos hs0] at ht; cases ht
      · rw [if_neg hs0] at ht
        injection ht with h1 h2 h3
        subst h1
        subst h3
        rw [htk, tok_sign hid2]
        unfold signL at h2
        by_cases h22 : (c :: q).take 2 ∈ twos
        · rw [if_pos h22] at h2
          obtain rfl : k = 1 := by omega
          obtain ⟨d, q2, rfl⟩ : ∃ d q2, q = d :: q2 := by
            cases q with
            | nil => exact absurd (take_sign h22) (by simp)
            | cons d q2 => exact ⟨d, q2, rfl⟩
          have h23 : [c, d] ∈ twos := h22
          have hsg : signL (c :: (([d] : List UInt8) ++ r)) = 2 := by
            unfold signL
            rw [if_pos (show (c :: ([d] ++ r)).take 2 ∈ twos from h23)]
          refine ⟨?_, ?_⟩
          · show (if signL (c :: ([d] ++ r)) = 0 then TR.err 10 else TR.ok 4 (signL (c :: ([d] ++ r))) 0) = TR.ok 4 2 0
            rw [hsg, if_neg (by decide)]
          · show gapL (c :: d :: r) = 0
            refine gap_none hcb ?_ ?_
            · rw [pre_two]
              unfold twos at h23
              simp only [List.mem_cons, List.not_mem_nil, or_false, List.cons.injEq, and_true] at h23
              rcases h23 with ⟨rfl, rfl⟩ | ⟨rfl, rfl⟩ | ⟨rfl, rfl⟩ | ⟨rfl, rfl⟩ | ⟨rfl, rfl⟩ | ⟨rfl, rfl⟩ | ⟨rfl, rfl⟩ | ⟨rfl, rfl⟩ <;> rfl
            · rw [pre_two]
              unfold twos at h23
              simp only [List.mem_cons, List.not_mem_nil, or_false, List.cons.injEq, and_true] at h23
              rcases h23 with ⟨rfl, rfl⟩ | ⟨rfl, rfl⟩ | ⟨rfl, rfl⟩ | ⟨rfl, rfl⟩ | ⟨rfl, rfl⟩ | ⟨rfl, rfl⟩ | ⟨rfl, rfl⟩ | ⟨rfl, rfl⟩ <;> rfl
        · rw [if_neg h22] at h2
          by_cases h1c : (c :: q).head?.any (ones.contains ·) = true
          · rw [if_pos h1c] at h2
            obtain rfl : k = 0 := by omega
            have hno : (c :: ([] ++ r)).take 2 ∉ twos := by
              rcases hr with rfl | ⟨b, q3, rfl, hb3⟩
              · intro hm; exact absurd (take_sign hm) (by simp)
              · exact twos_no hb3
            have hsg : signL (c :: (q.take 0 ++ r)) = 1 := by
              unfold signL
              rw [List.take_zero, if_neg hno, if_pos (show (c :: ([] ++ r)).head?.any (ones.contains ·) = true from h1c)]
            refine ⟨?_, ?_⟩
            · rw [hsg, if_neg (by decide)]
            · show gapL (c :: r) = 0
              rcases hr with rfl | ⟨b, q3, rfl, hb3⟩
              · exact gap_none hcb (by unfold Lib.hasPrefix; simp [List.isPrefixOf]) (by unfold Lib.hasPrefix; simp [List.isPrefixOf])
              · refine gap_none hcb ?_ ?_
                · rw [pre_two]; rcases blk_is hb3 with rfl | rfl | rfl | rfl <;> simp
                · rw [pre_two]; rcases blk_is hb3 with rfl | rfl | rfl | rfl <;> simp
          · rw [if_neg h1c] at h2; omega
    · -- a number, a word, a name
      have hkid : idL (c :: q) = k + 1 := by
        unfold tokL at ht
        rw [if_neg hid] at ht
        split at ht
        · split at ht
          · cases ht
          · injection ht
        · split at ht
          · injection ht
          · split at ht
            · cases ht
            · injection ht
      have hall : ((c :: q).take (k + 1)).all idc = true := by rw [← hkid]; exact idL_all _
      have hci : idc c = true := by
        rw [List.take_succ_cons, List.all_cons, Bool.and_eq_true] at hall
        exact hall.1
      have hid2 : idL ((c :: q).take (k + 1) ++ r) = k + 1 := by rw [idL_app hr _ hall, htl]
      have htake : ((c :: q).take (k + 1) ++ r).take (k + 1) = (c :: q).take (k + 1) := by
        rw [List.take_append_of_le_length (by rw [htl]; exact Nat.le_refl _), List.take_of_length_le (by rw [htl]; exact Nat.le_refl _)]
      refine ⟨?_, ?_⟩
      · rw [← ht]
        unfold tokL
        rw [hid2, hkid, htake]
        rfl
      · rw [htk]
        refine gap_none hcb ?_ ?_
        · cases hp : Lib.hasPrefix (c :: (q.take k ++ r)) [47, 47] with
          | false => rfl
          | true =>
            obtain ⟨t, hx⟩ := List.isPrefixOf_iff_prefix.1 hp
            injection hx with hx _
            exact absurd hx.symm (idc_47 hci)
        · cases hp : Lib.hasPrefix (c :: (q.take k ++ r)) [47, 42] with
          | false => rfl
          | true =>
            obtain ⟨t, hx⟩ := List.isPrefixOf_iff_prefix.1 hp
            injection hx with hx _
            exact absurd hx.symm (idc_47 hci)
theorem alone_all : ∀ (k : Nat) (l : List UInt8) (o : Nat) (m : List T), l.length < k → lexP l o = .ok m → ∀ t ∈ m, Alone t := by
  intro k
  induction k with
  | zero => intro l o m h; omega
  | succ k ih =>
    intro l o m h he t ht
    cases m with
    | nil => cases ht
    | cons x m =>
      obtain ⟨n, k2, hoff, hnk, hk1, htx, htl, _, htok, hgz, hnext⟩ := lexP_next he
      rcases List.mem_cons.1 ht with rfl | ht
      · have ha := alone_of (o := t.off) hgz (fun e => by
          have h2 : (l.drop n).length = 0 := by rw [e]; rfl
          rw [List.length_drop] at h2
          omega) htok
        rw [← htx] at ha
        cases t
        exact ha
      · exact ih _ _ m (by rw [List.length_drop]; omega) hnext t ht
theorem lex_tok {t : T} (h : Alone t) {r : List UInt8} (hr : Sep r) (o : Nat) : lexP (t.tx ++ r) o = R.cons ⟨t.kd, t.tx, t.v, o⟩ (lexP r (o + t.tx.length)) := by
  obtain ⟨h1, h2⟩ := h
  obtain ⟨h3, h4⟩ := h2 r hr
  rw [lexP_tok o h4 (by intro e; exact h1 (List.append_eq_nil_iff.1 e).1) h3, List.take_left, List.drop_left]
/-- The same tokens, elsewhere. -/
def sameT (a b : T) : Prop := a.kd = b.kd ∧ a.tx = b.tx ∧ a.v = b.v
inductive SameL : List T → List T → Prop where
  | nil : SameL [] []
  | cons {a b : T} {l m : List T} (h : sameT a b) (t : SameL l m) : SameL (a :: l) (b :: m)
theorem SameL.len {l m : List T} (h : SameL l m) : l.length = m.length := by
  induction h with
  | nil => rfl
  | cons _ _ ih => simp [ih]
theorem SameL.tx {l m : List T} (h : SameL l m) : l.map T.tx = m.map T.tx := by
  induction h with
  | nil => rfl
  | cons h _ ih => rw [List.map_cons, List.map_cons, ih, h.2.1]
theorem SameL.at {l m : List T} (h : SameL l m) : ∀ (j : Nat) (h1 : j < l.length) (h2 : j < m.length), sameT l[j] m[j] := by
  induction h with
  | nil => intro j h1; exact absurd h1 (by simp)
  | cons h _ ih =>
    intro j h1 h2
    cases j with
    | zero => exact h
    | succ j => exact ih j (by simpa using h1) (by simpa using h2)
/-! Printed with a blank between two. -/
def bjL : List (List UInt8) → List UInt8
  | [] => []
  | [x] => x
  | x :: y :: r => x ++ 32 :: bjL (y :: r)
theorem jn_cons (x : List UInt8) (L : List (List UInt8)) : ∀ k, jn (x :: L) (k + 1) = x ++ (if 0 < k then 32 :: jn L k else [])
  | 0 => by simp [jn]
  | k + 1 => by
    have ih := jn_cons x L k
    have h1 : jn (x :: L) (k + 1 + 1) = jn (x :: L) (k + 1) ++ [32] ++ L.getD k [] := by
      show jn (x :: L) (k + 1) ++ (if 0 < k + 1 then [32] else []) ++ (x :: L).getD (k + 1) [] = _
      rw [if_pos (Nat.succ_pos k)]
      rfl
    have h2 : jn L (k + 1) = jn L k ++ (if 0 < k then [32] else []) ++ L.getD k [] := rfl
    rw [h1, ih, if_pos (Nat.succ_pos k), h2]
    by_cases hk : 0 < k
    · rw [if_pos hk, if_pos hk]; simp
    · rw [if_neg hk, if_neg hk]
      obtain rfl : k = 0 := by omega
      simp [jn]
theorem jn_bj : ∀ L : List (List UInt8), jn L L.length = bjL L
  | [] => rfl
  | [x] => by simp [jn, bjL]
  | x :: y :: r => by
    have ih := jn_bj (y :: r)
    show jn (x :: y :: r) ((y :: r).length + 1) = _
    rw [jn_cons, if_pos (by simp), ih]
    rfl
theorem lex_bj : ∀ (m : List T) (o : Nat), (∀ t ∈ m, Alone t) → ∃ m2, lexP (bjL (m.map T.tx)) o = .ok m2 ∧ SameL m m2
  | [], o, _ => ⟨[], rfl, .nil⟩
  | [t], o, h => by
    have h1 := lex_tok (h t List.mem_cons_self) (r := []) (.inl rfl) o
    rw [List.append_nil] at h1
    exact ⟨_, h1, .cons ⟨rfl, rfl, rfl⟩ .nil⟩
  | t :: u :: m, o, h => by
    obtain ⟨m2, h1, h2⟩ := lex_bj (u :: m) (o + t.tx.length + 1) (fun x hx => h x (List.mem_cons_of_mem _ hx))
    have h3 := lex_tok (h t List.mem_cons_self) (r := 32 :: bjL ((u :: m).map T.tx)) (.inr ⟨32, _, rfl, rfl⟩) o
    rw [lexP_gap (o + t.tx.length) (by rw [gap_blk (c := 32) rfl]; decide), gap_blk (c := 32) rfl] at h3
    rw [show (32 :: bjL ((u :: m).map T.tx)).drop (1 : Int).toNat = bjL ((u :: m).map T.tx) from rfl, show (1 : Int).toNat = 1 from rfl, h1] at h3
    exact ⟨_, h3, .cons ⟨rfl, rfl, rfl⟩ h2⟩
theorem tx_map (s : ByteArray) (l : List T) : ((l.map (tk33 s)).map fun x => x.f1.data.toList) = l.map T.tx := by
  rw [List.map_map]
  refine List.map_congr_left fun x _ => ?_
  show (⟨x.tx.toArray⟩ : ByteArray).data.toList = x.tx
  exact ba_list _
theorem sameC_of {s t : ByteArray} {a b : T} (h : sameT a b) : sameC (tk33 s a) (tk33 t b) := by
  obtain ⟨h1, h2, h3⟩ := h
  exact And.intro h1 (And.intro (by show (⟨a.tx.toArray⟩ : ByteArray).toList = (⟨b.tx.toArray⟩ : ByteArray).toList; rw [h2]) h3)
theorem bj_len : ∀ (k : Nat) (l : List UInt8) (o : Nat) (m : List T), l.length < k → lexP l o = .ok m → (bjL (m.map T.tx)).length ≤ 2 * l.length := by
  intro k
  induction k with
  | zero => intro l o m h; omega
  | succ k ih =>
    intro l o m h he
    cases m with
    | nil => exact Nat.zero_le _
    | cons x m =>
      obtain ⟨n, k2, hoff, hnk, hk1, htx, htl, _, htok, hgz, hnext⟩ := lexP_next he
      have h1 := ih _ _ m (by rw [List.length_drop]; omega) hnext
      rw [List.length_drop] at h1
      cases m with
      | nil => show x.tx.length ≤ _; omega
      | cons y m =>
        show (x.tx ++ 32 :: bjL ((y :: m).map T.tx)).length ≤ _
        rw [List.length_append, List.length_cons]
        omega
set_option maxHeartbeats 16000000 in
set_option maxRecDepth 100000 in
theorem back_calls (s : ByteArray) (w : World) (mx : Int) (hm : w.cell? ⟨0, 0, none⟩ = some (.int .i64 mx)) (hs : s.size ≤ 140737488351232) :
    Calls Try.prog 8 #[.string s] w fun e w' => e = .returned (.bool true) ∧ Below w.heap.size w w' := by
  have I26 : Aside0 ((Try.prog.info? 26).map (·.size) = some 3) := ⟨by kernel_rfl⟩
  obtain ⟨t, ht⟩ : ∃ t, cutB s = t := ⟨_, rfl⟩
  have ht2 : t.size ≤ 2000 := by rw [← ht]; exact cut_size s
  have hts : t.size ≤ 1000000000 := by omega
  have HT := Aside0.mk ht
  have HM := Aside0.mk hm
  clear ht hm hs
  cases hr : lexA t.data.toList with
  | err c off =>
    have hoff := lexA_off (by rw [slen]; omega) hr
    have HR := Aside0.mk hr
    have qc0 : (c != 0) = true := by rw [bne_iff_ne]; omega
    have qc1 : (c == 0) = false := by rw [beq_eq_false_iff_ne]; omega
    clear hr hoff
    go_enter Try.func8, Try.ntmps8
    go_wp2_with (first
      | (go_at_call 10; (with_reducible refine (cut_calls s _).mono ?_); rw [HT.out]; rintro e w1 ⟨rfl, hb⟩; have HB1 := Aside0.mk hb; clear hb)
      | (go_at_call 11; (with_reducible refine (all_err t _ mx (MXb HM.out HB1.out) hts HR.out).mono ?_); rintro e w2 ⟨rfl, hb⟩; have HB2 := Aside0.mk (below_then HB1.out HB1.out.size hb); clear hb)
      | ((with_reducible refine gate_dst (N := 5) rfl ?_); refine box_event ?hg (N := 5) ?hd (cs := z3) (t := 26) ?hr ?_; (case hd => rfl); (case hg => rfl); (case hr => exact alloc26 _ _ _ _ _ _); intro g5 hg_ wb5 hbox_ hba_; have BZ5 := Aside0.mk hbox_; have HZ5 := Aside0.mk hba_; have GZ5 := Aside0.mk hg_; clear hg_ hbox_ hba_)
      | ((with_reducible refine gate_op (.store 26 (.tmp 5) (.tmp 15)) rfl ?_); refine put_row rfl 26 (.tmp 5) (.tmp 15) rfl g5 (by rfl) 26 z3 #[.int .i64 (off : Int), .int .i64 (lnA t off), .int .i64 ((off : Int) - stA t off + 1)] (by rfl) BZ5.out I26.out rfl (by simp [Value.oneCell']) ?_; intro wp5 hb_ hk_ hbl_ hsz_; have BP5 := Aside0.mk hb_; have KP5 := Aside0.mk hk_; have QP5 := Aside0.mk hbl_; clear hb_ hk_ hbl_ hsz_; have HBP5 := Aside0.mk ((below_then HB2.out HB2.out.size HZ5.out).trans (QP5.out _ (by rw [GZ5.out]; exact HB2.out.size))); have HS5 := Aside0.mk (HZ5.out.trans (QP5.out _ (Nat.le_of_eq GZ5.out.symm))))
      | (go_at_call 15; (with_reducible refine (lives_calls _ mx (MXb HM.out HBP5.out)).mono ?_); rintro e wl ⟨rfl, hb⟩; have HBl := Aside0.mk (below_then HBP5.out HBP5.out.size hb); clear hb))
    go_ret
    exact ⟨rfl, HBl.out⟩
  | ok L =>
    have hl := lexA_len (by rw [slen]; omega) hr
    rw [slen] at hl
    have hr0 : lexP t.data.toList 0 = .ok L := by
      have h_ := hr
      rw [lexA_eq, if_neg (by rw [slen]; omega)] at h_
      exact h_
    have hal := alone_all _ _ 0 L (Nat.lt_succ_self _) hr0
    have hbl := bj_len _ _ 0 L (Nat.lt_succ_self _) hr0
    rw [slen] at hbl
    obtain ⟨L2, hx2, hsame⟩ := lex_bj L 0 hal
    obtain ⟨n, hn⟩ : ∃ n, L.length = n := ⟨_, rfl⟩
    have hn3 : L2.length = n := by rw [← hsame.len, hn]
    obtain ⟨Y, hY⟩ : ∃ Y : ByteArray, ⟨(bjL (L.map T.tx)).toArray⟩ = Y := ⟨_, rfl⟩
    have hYl : Y.data.toList = bjL (L.map T.tx) := by rw [← hY, ba_list]
    have hYs : Y.size ≤ 1000000000 := by rw [← slen, hYl]; omega
    have hr2 : lexA Y.data.toList = .ok L2 := by rw [hYl, lexA_eq, if_neg (by omega)]; exact hx2
    have hj1 : jn ((L.map (tk33 t)).map fun x => x.f1.data.toList) n = bjL (L.map T.tx) := by
      rw [tx_map, ← jn_bj, List.length_map, hn]
    have hj2 : jn ((L2.map (tk33 Y)).map fun x => x.f1.data.toList) n = bjL (L.map T.tx) := by
      rw [tx_map, ← hsame.tx, ← jn_bj, List.length_map, hn]
    rw [hn] at hl
    have HR := Aside0.mk hr
    have HR2 := Aside0.mk hr2
    have HN := Aside0.mk hn
    have HN3 := Aside0.mk hn3
    have HY := Aside0.mk hY
    have HJ1 := Aside0.mk hj1
    have HJ2 := Aside0.mk hj2
    have HBL : Aside0 ((bjL (L.map T.tx)).length ≤ 1000000) := ⟨by omega⟩
    have HM1 : Aside0 ((L.map (tk33 t)).length = n) := ⟨by rw [List.length_map, hn]⟩
    have HM2 : Aside0 ((L2.map (tk33 Y)).length = n) := ⟨by rw [List.length_map, hn3]⟩
    have HSM := Aside0.mk hsame
    have hn2 : n ≤ 1000000 := by omega
    have hn9 : n ≤ 1000000000 := by omega
    have qY : (Y.toList == Y.toList) = true := by simp
    clear hr hr0 hal hbl hx2 hsame hn hn3 hY hYl hr2 hj1 hj2 hl
    go_enter Try.func8, Try.ntmps8
    go_wp2_with (first
      | (go_at_call 10; (with_reducible refine (cut_calls s _).mono ?_); rw [HT.out]; rintro e w1 ⟨rfl, hb⟩; have HB1 := Aside0.mk hb; clear hb)
      | (go_at_call 11; (with_reducible refine (all_ok t _ mx (MXb HM.out HB1.out) hts HR.out).mono ?_); rw [HN.out]; rintro e w2 ⟨A, cp, rfl, hcp, hR, hb⟩; have HB2 := Aside0.mk (below_then HB1.out HB1.out.size hb); have HC2 := Aside0.mk (show Kd.C k33 w2 A n (L.map (tk33 t)) from by have h_ := (Kd.R_reads' hR).2.2; rw [HM1.out] at h_; exact h_); clear hb hR)
      | ((with_reducible refine gate_dst (N := 5) rfl ?_); refine box_event ?hg (N := 5) ?hd (cs := z3) (t := 26) ?hr ?_; (case hd => rfl); (case hg => rfl); (case hr => exact alloc26 _ _ _ _ _ _); intro g5 hg_ wb5 hbox_ hba_; have BZ5 := Aside0.mk hbox_; have HZ5 := Aside0.mk hba_; have GZ5 := Aside0.mk hg_; clear hg_ hbox_ hba_)
      | ((with_reducible refine gate_op (.store 26 (.tmp 5) (.tmp 15)) rfl ?_); refine put_row rfl 26 (.tmp 5) (.tmp 15) rfl g5 (by rfl) 26 z3 #[.int .i64 0, .int .i64 0, .int .i64 0] (by rfl) BZ5.out I26.out rfl (by simp [Value.oneCell']) ?_; intro wp5 hb_ hk_ hbl_ hsz_; have BP5 := Aside0.mk hb_; have KP5 := Aside0.mk hk_; have QP5 := Aside0.mk hbl_; clear hb_ hk_ hbl_ hsz_; have HBP5 := Aside0.mk ((below_then HB2.out HB2.out.size HZ5.out).trans (QP5.out _ (by rw [GZ5.out]; exact HB2.out.size))); have HS5 := Aside0.mk (HZ5.out.trans (QP5.out _ (Nat.le_of_eq GZ5.out.symm))))
      | (go_at_call 21; (with_reducible refine (print_calls A cp (L.map (tk33 t)) n wp5 HM1.out hcp hn2 (Kd.C_below HC2.out HS5.out) (by rw [HJ1.out]; exact HBL.out)).mono ?_); rw [HJ1.out, HY.out]; rintro e w3 ⟨rfl, hb⟩; have HB3 := Aside0.mk (below_then HBP5.out HBP5.out.size hb); have HC3 := Aside0.mk (Kd.C_below (Kd.C_below HC2.out HS5.out) hb); clear hb)
      | (go_at_call 11; (with_reducible refine (all_ok Y w3 mx (MXb HM.out HB3.out) hYs HR2.out).mono ?_); rw [HN3.out]; rintro e w4 ⟨A2, cp2, rfl, hcp2, hR, hb⟩; have HB4 := Aside0.mk (below_then HB3.out HB3.out.size hb); have HC4 := Aside0.mk (Kd.C_below HC3.out hb); have HD4 := Aside0.mk (show Kd.C k33 w4 A2 n (L2.map (tk33 Y)) from by have h_ := (Kd.R_reads' hR).2.2; rw [HM2.out] at h_; exact h_); clear hb hR)
      | ((with_reducible refine gate_dst (N := 8) rfl ?_); refine box_event ?hg (N := 8) ?hd (cs := z3) (t := 26) ?hr ?_; (case hd => rfl); (case hg => rfl); (case hr => exact alloc26 _ _ _ _ _ _); intro g8 hg_ wb8 hbox_ hba_; have BZ8 := Aside0.mk hbox_; have HZ8 := Aside0.mk hba_; have GZ8 := Aside0.mk hg_; clear hg_ hbox_ hba_)
      | ((with_reducible refine gate_op (.store 26 (.tmp 8) (.tmp 30)) rfl ?_); refine put_row rfl 26 (.tmp 8) (.tmp 30) rfl g8 (by rfl) 26 z3 #[.int .i64 0, .int .i64 0, .int .i64 0] (by rfl) BZ8.out I26.out rfl (by simp [Value.oneCell']) ?_; intro wp8 hb_ hk_ hbl_ hsz_; have BP8 := Aside0.mk hb_; have KP8 := Aside0.mk hk_; have QP8 := Aside0.mk hbl_; clear hb_ hk_ hbl_ hsz_; have HBP8 := Aside0.mk ((below_then HB4.out HB4.out.size HZ8.out).trans (QP8.out _ (by rw [GZ8.out]; exact HB4.out.size))); have HS8 := Aside0.mk (HZ8.out.trans (QP8.out _ (Nat.le_of_eq GZ8.out.symm))))
      | (go_at_call 13; (with_reducible refine (same_calls A cp (L.map (tk33 t)) A2 cp2 (L2.map (tk33 Y)) n wp8 HM1.out HM2.out (Kd.C_below HC4.out HS8.out) hcp (Kd.C_below HD4.out HS8.out) hcp2 hn9 (fun j h1 h2 => by rw [List.getElem_map, List.getElem_map]; exact sameC_of (HSM.out.at j _ _))).mono ?_); rintro e w5 ⟨rfl, hd⟩; have HB5 := Aside0.mk (below_then HBP8.out HBP8.out.size hd.below); have HC5 := Aside0.mk (Kd.C_below (Kd.C_below HC4.out HS8.out) hd.below); have HD5 := Aside0.mk (Kd.C_below (Kd.C_below HD4.out HS8.out) hd.below); clear hd)
      | (go_at_call 21; (with_reducible refine (print_calls A2 cp2 (L2.map (tk33 Y)) n w5 HM2.out hcp2 hn2 HD5.out (by rw [HJ2.out]; exact HBL.out)).mono ?_); rw [HJ2.out, HY.out]; rintro e w6 ⟨rfl, hb⟩; have HB6 := Aside0.mk (below_then HB5.out HB5.out.size hb); have HC6 := Aside0.mk (Kd.C_below HC5.out hb); clear hb)
      | (go_at_call 21; (with_reducible refine (print_calls A cp (L.map (tk33 t)) n w6 HM1.out hcp hn2 HC6.out (by rw [HJ1.out]; exact HBL.out)).mono ?_); rw [HJ1.out, HY.out]; rintro e w7 ⟨rfl, hb⟩; have HB7 := Aside0.mk (below_then HB6.out HB6.out.size hb); clear hb)
      | (go_at_call 15; (with_reducible refine (lives_calls _ mx (MXb HM.out HB7.out)).mono ?_); rintro e wl ⟨rfl, hb⟩; have HBl := Aside0.mk (below_then HB7.out HB7.out.size hb); clear hb))
    go_ret
    exact ⟨rfl, HBl.out⟩

end Go.Proofs.Ytbmabnmidacpdaa.L
