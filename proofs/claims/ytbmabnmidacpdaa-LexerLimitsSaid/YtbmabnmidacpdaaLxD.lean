import Derived.Test.YtbmabnmidacpdaaProg
import Derived.Below
import Derived.Deep.Draws
import Derived.Deep.AppendLies
import Derived.Maps.AppendAt
import Derived.OwnWalk
import Derived.Laws.BytesArg
import Derived.Laws.MakeOwn
import Derived.Laws.OwnMore
import Derived.Deep.OwnRows
import Derived.Tactics
import Derived.Lib.ConvBytes
import Derived.Laws.Slices
import Derived.WalkKit
import Derived.KernelRfl
import Derived.RowKit3
import Derived.Deep.LoopGhost
import Derived.Deep.QuietTactic
import Derived.BigQuiet
import Derived.WideLaws
import Derived.Deep.DeepCutAuto
import Derived.Deep.CutBlock
import Derived.Deep.RegionHeld3
import Derived.Laws.Rows
import Derived.Lib.AppendStr
import Derived.ArgAppend
import Derived.Laws.IdiomCopy
import Derived.OrdersHeld
import Derived.Laws.BitsLemmas
import Derived.RowKit
import Derived.Test.YtbmabnmidacpdaaWWords
import Derived.Test.YtbmabnmidacpdaaWLast
import Derived.Test.YtbmabnmidacpdaaWTab
import Derived.Test.YtbmabnmidacpdaaWQPut
import Derived.Test.YtbmabnmidacpdaaWApart
import Derived.Test.YtbmabnmidacpdaaWArr
import Derived.Test.YtbmabnmidacpdaaWZeros
import Derived.Test.YtbmabnmidacpdaaWFoot
import Derived.Test.YtbmabnmidacpdaaWKept
import Derived.Test.YtbmabnmidacpdaaWShare
import Derived.Test.YtbmabnmidacpdaaWN
import Derived.Test.YtbmabnmidacpdaaWEqStruct
import Derived.Test.YtbmabnmidacpdaaWGuard
import Derived.Test.YtbmabnmidacpdaaWNEv
import Derived.Test.YtbmabnmidacpdaaWMore
import Derived.Test.YtbmabnmidacpdaaX1
import Derived.Test.YtbmabnmidacpdaaX2
import Derived.Test.YtbmabnmidacpdaaX3
import Derived.Test.YtbmabnmidacpdaaX4
import Derived.Test.YtbmabnmidacpdaaSh
import Derived.Test.YtbmabnmidacpdaaLxA
import Derived.Test.YtbmabnmidacpdaaLxB
import Derived.Test.YtbmabnmidacpdaaLxC
import Derived.DataShut
import Derived.Deep.RegionLawGrows
import Derived.Deep.Upon
import Derived.Deep.MidRow
namespace Go.Proofs.Ytbmabnmidacpdaa.L
open Go.RowKit Go.Proofs.Ytbmabnmidacpdaa.X Go.Proofs.YtbmabnmidacpdaaW.PrintWords Go.Proofs.YtbmabnmidacpdaaW.PrintLast Go.Proofs.YtbmabnmidacpdaaW.PrintMore
attribute [local go_sem] max2_int min2_int max_two min_two max_three min_three max_four min_four   -- for this text's walks alone
set_option linter.unusedVariables false
set_option linter.unusedSimpArgs false
/-- A token as the code hands it on. -/
def tkV (s : ByteArray) (off : Nat) (kd : Int) (tx : ByteArray) (v : Int) : Value := .agg #[.int .i64 kd, .string tx, .int .i32 v, .int .i64 (off : Int), .int .i64 (lnA s off), .int .i64 ((off : Int) - stA s off + 1)]
/-- What 'token' answers: the value and the error. -/
def tkR (s : ByteArray) (off : Nat) : TR → Value × Value
  | .err e => (tkV s off 0 ⟨#[]⟩ 0, .int .i64 e)
  | .ok kd n v => (tkV s off kd (s.extract off (off + n)) v, .int .i64 0)
theorem id_get : ∀ (l : List UInt8) (n : Nat) (h : n < idL l) (hl : n < l.length), idc l[n] = true
  | [], n, h, hl => by simp at hl
  | c :: l, n, h, hl => by
    unfold idL at h
    rw [List.takeWhile_cons] at h
    by_cases hc : idc c = true
    · rw [if_pos hc] at h
      cases n with
      | zero => exact hc
      | succ n => exact id_get l n (by unfold idL; simpa using h) (by simpa using hl)
    · rw [if_neg hc] at h
      simp at h
theorem id_end : ∀ (l : List UInt8) (hl : idL l < l.length), idc l[idL l] = false
  | [], hl => by simp at hl
  | c :: l, hl => by
    by_cases hc : idc c = true
    · have e : idL (c :: l) = idL l + 1 := by unfold idL; rw [List.takeWhile_cons, if_pos hc]; rfl
      simp only [e]
      exact id_end l (by rw [e] at hl; simpa using hl)
    · have e : idL (c :: l) = 0 := by unfold idL; rw [List.takeWhile_cons, if_neg hc]; rfl
      simp only [e]
      simpa using hc
def zcells : Array Value := #[.int .i64 0, .string ⟨#[]⟩, .int .i32 0, .int .i64 0, .int .i64 0, .int .i64 0]
theorem alloc33 (ev : Operand → Value) (d : Option Tmp) (ty : TypeId) (ps : String) (af : Array Edge) (W : World) :
    (execOp ev ⟨d, .alloc 33, ty, ps, af, none⟩).run Try.prog W = .ok (.value (.pointer (some ⟨W.heap.size, 0, none⟩))) (W.alloc (.cells zcells 33 (0, 0))) := by
  kernel_rfl
theorem Rd.below {w0 w w1 : World} {g : Nat} {s : ByteArray} {off : Nat} (h : Rd w0 w g s off) (hb : Below w.heap.size w w1) : Rd w0 w1 g s off := IsS50.below h hb
def TokPost (w0 : World) (g : Nat) (s : ByteArray) (off : Nat) (r : TR) (e : Ending) (w' : World) : Prop := match r with
  | .err c => (∃ kd tx v, e = .returned (.tuple #[tkV s off kd tx v, .int .i64 c])) ∧ Rd w0 w' g s off
  | .ok kd n v => e = .returned (.tuple #[tkV s off kd (s.extract off (off + n)) v, .int .i64 0]) ∧ Rd w0 w' g s (off + n)
theorem Rd.far {w0 w : World} {g : Nat} {s : ByteArray} {off : Nat} (h : Rd w0 w g s off) {p : Addr} (hne : g ≠ p.block) (u : Value) : Rd w0 (w.setCell p u) g s off := IsS50.far h hne u
theorem ext_ext (s t : ByteArray) (off n : Nat) (ht : t = s.extract off s.size) (hn : n ≤ t.size) : t.extract 0 n = s.extract off (off + n) := by
  have hs : t.size = s.size - off := by rw [← slen t, ht, rst_ext, rst_len]
  have h1 : (t.extract 0 n).data.toList = (s.extract off (off + n)).data.toList := by
    rw [ext_list, Lib.extract_data, ht, rst_ext]
    unfold rst
    simp [List.drop_take]
  have h2 := Array.toList_inj.1 h1
  generalize t.extract 0 n = a at h2 ⊢
  generalize s.extract off (off + n) = b at h2 ⊢
  cases a; cases b; cases h2; rfl
theorem rd6 {w0 w : World} {g g2 : Nat} {s : ByteArray} {off : Nat} (h : Rd w0 w g s off) (hne : g2 ≠ g) (a b c d e f : Value) : Rd w0 ((((((w.setCell ⟨g2, 0, none⟩ a).setCell ⟨g2, 1, none⟩ b).setCell ⟨g2, 2, none⟩ c).setCell ⟨g2, 3, none⟩ d).setCell ⟨g2, 4, none⟩ e).setCell ⟨g2, 5, none⟩ f) g s off :=
  (((((h.far (Ne.symm hne) _).far (Ne.symm hne) _).far (Ne.symm hne) _).far (Ne.symm hne) _).far (Ne.symm hne) _).far (Ne.symm hne) _
theorem below6 {w0 w : World} {g2 : Nat} (h : Below w0.heap.size w0 w) (hg : w0.heap.size ≤ g2) (a b c d e f : Value) : Below w0.heap.size w0 ((((((w.setCell ⟨g2, 0, none⟩ a).setCell ⟨g2, 1, none⟩ b).setCell ⟨g2, 2, none⟩ c).setCell ⟨g2, 3, none⟩ d).setCell ⟨g2, 4, none⟩ e).setCell ⟨g2, 5, none⟩ f) :=
  below_set (below_set (below_set (below_set (below_set (below_set h hg) hg) hg) hg) hg) hg
theorem keep6 {w0 w : World} {g g2 : Nat} (h : KeepBut w0 w g none) (hg : w0.heap.size ≤ g2) (a b c d e f : Value) : KeepBut w0 ((((((w.setCell ⟨g2, 0, none⟩ a).setCell ⟨g2, 1, none⟩ b).setCell ⟨g2, 2, none⟩ c).setCell ⟨g2, 3, none⟩ d).setCell ⟨g2, 4, none⟩ e).setCell ⟨g2, 5, none⟩ f) g none :=
  keep_far (keep_far (keep_far (keep_far (keep_far (keep_far h hg _) hg _) hg _) hg _) hg _) hg _
theorem set6 (cs : Array Value) (hs : cs.size = 6) (a b c d e f : Value) : (((((cs.setIfInBounds 0 a).setIfInBounds 1 b).setIfInBounds 2 c).setIfInBounds 3 d).setIfInBounds 4 e).setIfInBounds 5 f = #[a, b, c, d, e, f] := by
  obtain ⟨l⟩ := cs
  match l, hs with
  | [_, _, _, _, _, _], _ => simp only [List.setIfInBounds_toArray, List.set_cons_zero, List.set_cons_succ]
theorem blk6 {w : World} {g2 : Nat} {t : TypeId} {cs : Array Value} (h : w.heap[g2]? = some (.cells cs t (0, 0))) (hs : cs.size = 6) (a b c d e f : Value) : ((((((w.setCell ⟨g2, 0, none⟩ a).setCell ⟨g2, 1, none⟩ b).setCell ⟨g2, 2, none⟩ c).setCell ⟨g2, 3, none⟩ d).setCell ⟨g2, 4, none⟩ e).setCell ⟨g2, 5, none⟩ f).heap[g2]? = some (.cells #[a, b, c, d, e, f] t (0, 0)) :=
  blk_put (blk_set (blk_set (blk_set (blk_set (blk_set h 0 a) 1 b) 2 c) 3 d) 4 e) 5 f (set6 cs hs a b c d e f)
set_option maxHeartbeats 4000000 in
set_option maxRecDepth 100000 in
theorem token_calls (w0 w : World) (g : Nat) (s : ByteArray) (hs : s.size ≤ 1000000000) (off : Nat) (h : off < s.size) (hI : Rd w0 w g s off) (hB : Below w0.heap.size w0 w) :
    Calls Try.prog 24 #[.pointer (some ⟨g, 0, none⟩)] w fun e w' => TokPost w0 g s off (tokL (rst s off)) e w' ∧ Below w0.heap.size w0 w' ∧ KeepBut w w' g none := by
  have HI := Aside0.mk hI
  have HB := Aside0.mk hB
  clear hI hB
  obtain ⟨t, hte⟩ : ∃ t, t = s.extract off s.size := ⟨_, rfl⟩
  have HT := Aside0.mk (show t.data.toList = rst s off by rw [hte]; exact rst_ext s off)
  have HTS := Aside0.mk (show t.size = s.size - off from by rw [← slen, HT.out, rst_len])
  have HTE := Aside0.mk hte
  clear hte
  go_enter Try.func24, Try.ntmps24
  have I33 : Aside0 ((Try.prog.info? 33).map (·.size) = some 6) := ⟨by kernel_rfl⟩
  go_upto_block 0 with (first
    | ((with_reducible refine gate_dst (N := 2) rfl ?_); refine box_event ?hg (N := 2) ?hd (cs := zcells) (t := 33) ?hr ?_; (case hd => rfl); (case hg => rfl); (case hr => exact alloc33 _ _ _ _ _ _); intro g2 hg2 wa hbox hba; have B2 := Aside0.mk hbox; have HBA := Aside0.mk hba; have G2 := Aside0.mk hg2; have HIa := Aside0.mk (HI.out.below hba); have HBa := Aside0.mk (below_then HB.out HB.out.size hba); clear hg2 hbox hba)
    | (go_at_call 38; (with_reducible refine (rest_calls w0 wa g s off (by omega) HIa.out HBa.out).mono ?_); rw [← HTE.out]; rintro e w1 ⟨rfl, hI1, hB1, hK1⟩; have HI1 := Aside0.mk hI1; have HB1 := Aside0.mk hB1; have HK1 := Aside0.mk hK1; have c0 := cellS50_0 hI1.1; have c1 := cellS50_1 hI1.1; have c2 := cellS50_2 hI1.1; clear hI1 hB1 hK1)
    | (go_at_call 43; (with_reducible refine (placeat_calls s off _ hs (by omega)).mono ?_); unfold plV; rintro e w2 ⟨rfl, hb⟩; have HB2 := Aside0.mk hb; clear hb c0 c1 c2))
  have B5 := blk_new w2 (.cells #[.int .i64 0, .string ⟨#[]⟩, .int .i32 0, .int .i64 (off : Int), .int .i64 (lnA s off), .int .i64 ((off : Int) - stA s off + 1)] 33 (0, 0))
  have HBW : Below w2.heap.size w2 (w2.alloc (.cells #[.int .i64 0, .string ⟨#[]⟩, .int .i32 0, .int .i64 (off : Int), .int .i64 (lnA s off), .int .i64 ((off : Int) - stA s off + 1)] 33 (0, 0))) := below_alloc (Below.refl _ _) _
  have G5 : w2.heap.size ≤ w2.heap.size := Nat.le_refl _
  generalize w2.alloc (.cells #[.int .i64 0, .string ⟨#[]⟩, .int .i32 0, .int .i64 (off : Int), .int .i64 (lnA s off), .int .i64 ((off : Int) - stA s off + 1)] 33 (0, 0)) = wb at B5 HBW ⊢
  have hw12 := HB2.out
  generalize hg5 : w2.heap.size = g5 at B5 G5 ⊢
  have HG5 := Aside0.mk hg5
  have HBW := Aside0.mk HBW
  have B5 := Aside0.mk B5
  clear hg5 G5 hw12
  have HTK : Aside0 (idL (rst s off) ≤ t.size) := ⟨by have h_ := id_bd (rst s off); rw [← HT.out, slen] at h_; rw [← HT.out]; exact h_⟩
  go_cut [6] from 17 to 34 (fun i wr => i = .int .i64 (idL (rst s off)) ∧ Aside0 (Below wb.heap.size wb wr))
  case first =>
    go_wp2_with fail
    go_loopw [6] (fun i wr => ∃ n : Nat, n ≤ idL (rst s off) ∧ i = .int .i64 n ∧ Aside0 (Below wb.heap.size wb wr)) (fun i _ => idL (rst s off) - (intOf i).toNat)
    case atStart => exact ⟨0, by omega, rfl, ⟨Below.refl _ _⟩⟩
    case round =>
      obtain ⟨n, hn, rfl, HBR⟩ := hrel
      by_cases hlt : n < idL (rst s off)
      · have hnt : n < t.size := by have h_ := HTK.out; omega
        have hl : n < t.data.toList.length := by rw [slen]; exact hnt
        obtain ⟨c, hc⟩ : ∃ c, c = t.data.toList[n] := ⟨_, rfl⟩
        have hid : idc c = true := by
          rw [hc]
          have h_ := id_get (rst s off) n hlt (by rw [← HT.out]; exact hl)
          simp only [HT.out]
          exact h_
        have hbt : bt t (n : Int) = (c.toNat : Int) := by rw [bt_list t n hl, hc]
        have q1 : ((n : Int) < (t.size : Int)) = True := by apply eq_true; omega
        have q2 : (n < t.size) = True := eq_true hnt
        have q3 : ∀ h : n < t.size, ((t[n]'h).toNat : Int) = (c.toNat : Int) := fun h => (bt_at t (n : Int) h).trans hbt
        have q5 : decide ((n : Int) < (t.size : Int)) = true := decide_eq_true (by omega)
        have HL := Aside0.mk hl
        have HEW : Aside0 (wrap64 ((n : Int) + 1) = ((n + 1 : Nat) : Int)) := ⟨by rw [w64 _ (by omega) (by have h_ := HTS.out; omega)]; rfl⟩
        clear hc hbt hl
        by_cases hlr : ltr c = true
        · go_wp2_with (go_at_call 30; (with_reducible refine (lexer_isLetter.calls (c.toNat : Int) (ltr c) _ (isLetter_f c)).mono ?_); rw [hlr]; rintro e w3 ⟨rfl, hd⟩; have HD := Aside0.mk hd; clear hd)
          rw [HEW.out]
          exact ⟨⟨n + 1, by omega, rfl, ⟨below_then HBR.out HBR.out.size HD.out.below⟩⟩, by simp [intOf]; omega⟩
        · have hlr : ltr c = false := by simpa using hlr
          have hdg : dig c = true := by unfold idc at hid; rw [hlr] at hid; simpa using hid
          go_wp2_with (first
            | (go_at_call 30; (with_reducible refine (lexer_isLetter.calls (c.toNat : Int) (ltr c) _ (isLetter_f c)).mono ?_); rw [hlr]; rintro e w3 ⟨rfl, hd⟩; have HD := Aside0.mk hd; clear hd)
            | (go_at_call 31; (with_reducible refine (lexer_isDigit.calls (c.toNat : Int) (dig c) _ (isDigit_f c)).mono ?_); rw [hdg]; rintro e w4 ⟨rfl, hd⟩; have HD4 := Aside0.mk hd; clear hd))
          rw [HEW.out]
          exact ⟨⟨n + 1, by omega, rfl, ⟨below_then (below_then HBR.out HBR.out.size HD.out.below) (Nat.le_trans HBR.out.size HD.out.below.size) HD4.out.below⟩⟩, by simp [intOf]; omega⟩
      · have hn2 : n = idL (rst s off) := by omega
        clear hlt hn
        by_cases he : n < t.size
        · have hl : n < t.data.toList.length := by rw [slen]; exact he
          obtain ⟨c, hc⟩ : ∃ c, c = t.data.toList[n] := ⟨_, rfl⟩
          have hid : idc c = false := by
            have h_ := id_end t.data.toList (by rw [HT.out, ← hn2, ← HT.out]; exact hl)
            have e_ : idL t.data.toList = n := by rw [HT.out, hn2]
            simp only [e_] at h_
            rw [hc]
            exact h_
          have hbt : bt t (n : Int) = (c.toNat : Int) := by rw [bt_list t n hl, hc]
          have q1 : ((n : Int) < (t.size : Int)) = True := by apply eq_true; omega
          have q2 : (n < t.size) = True := eq_true he
          have q3 : ∀ h : n < t.size, ((t[n]'h).toNat : Int) = (c.toNat : Int) := fun h => (bt_at t (n : Int) h).trans hbt
          have q5 : decide ((n : Int) < (t.size : Int)) = true := decide_eq_true (by omega)
          have hid2 : ltr c = false ∧ dig c = false := by unfold idc at hid; simpa using hid
          obtain ⟨hlr, hdg⟩ := hid2
          have HN2 := Aside0.mk hn2
          clear hc hbt hl hid hn2
          go_wp2_with (first
            | (go_at_call 30; (with_reducible refine (lexer_isLetter.calls (c.toNat : Int) (ltr c) _ (isLetter_f c)).mono ?_); rw [hlr]; rintro e w3 ⟨rfl, hd⟩; have HD := Aside0.mk hd; clear hd)
            | (go_at_call 31; (with_reducible refine (lexer_isDigit.calls (c.toNat : Int) (dig c) _ (isDigit_f c)).mono ?_); rw [hdg]; rintro e w4 ⟨rfl, hd⟩; have HD4 := Aside0.mk hd; clear hd))
          go_meet
          exact ⟨by rw [HN2.out], ⟨below_then (below_then HBR.out HBR.out.size HD.out.below) (Nat.le_trans HBR.out.size HD.out.below.size) HD4.out.below⟩⟩
        · have q5 : decide ((n : Int) < (t.size : Int)) = false := decide_eq_false (by omega)
          go_wp2
          go_meet
          exact ⟨rfl, HBR⟩
  case rest =>
    obtain ⟨rfl, HBC⟩ := hcut
    have hg := HI1.out.lt
    have hgw := HI.out.lt
    have HI2 := Aside0.mk (HI1.out.below HB2.out)
    have HB02 := Aside0.mk (below_then HB1.out HB1.out.size HB2.out)
    have HBwc := Aside0.mk (below_then HBW.out HBW.out.size HBC.out)
    have B5c : wc.heap[g5]? = some (.cells #[.int .i64 0, .string ⟨#[]⟩, .int .i32 0, .int .i64 (off : Int), .int .i64 (lnA s off), .int .i64 ((off : Int) - stA s off + 1)] 33 (0, 0)) := blk_below B5.out HBC.out
    have HIc := Aside0.mk (HI2.out.below HBwc.out)
    have HBc := Aside0.mk (below_then HB02.out HB02.out.size HBwc.out)
    have B2w : w2.heap[g2]? = some (.cells zcells 33 (0, 0)) := blk_below (HK1.out.blk B2.out (by have h_ := G2.out; omega) (by simp)) HB2.out
    have B2c : wc.heap[g2]? = some (.cells zcells 33 (0, 0)) := blk_below B2w HBwc.out
    have HKw2 : Aside0 (KeepBut w w2 g none) := ⟨((KeepBut.of_below HBA.out g none).trans HK1.out (.inl rfl)).trans (KeepBut.of_below HB2.out g none) (.inl rfl)⟩
    have hg2 : g2 < w2.heap.size := blk_lt B2w
    have h5 := HG5.out
    have hgg : g < w2.heap.size := HI2.out.lt
    have hne5 : g5 ≠ g := by omega
    have hne2 : g2 ≠ g := by have h_ := G2.out; omega
    have hne25 : g2 ≠ g5 := by omega
    have HB5c := Aside0.mk B5c
    have HB2c := Aside0.mk B2c
    clear hg hgw B5c B2w B2c
    have HF : Aside0 (g2 < w2.heap.size ∧ w2.heap.size = g5 ∧ g < w2.heap.size ∧ g5 ≠ g ∧ g2 ≠ g ∧ g2 ≠ g5 ∧ w.heap.size ≤ g2 ∧ w0.heap.size ≤ g2) := ⟨hg2, h5, hgg, hne5, hne2, hne25, by have h_ := G2.out; omega, by have h_ := G2.out; have h1_ := HB.out.size; omega⟩
    clear hg2 h5 hgg hne5 hne2 hne25
    obtain ⟨n, hn⟩ : ∃ n, idL (rst s off) = n := ⟨_, rfl⟩
    rw [hn]
    have hnt : n ≤ t.size := by have h_ := HTK.out; omega
    have HN := Aside0.mk hn
    clear hn
    obtain ⟨c, r, hcr, hbt⟩ := rst_cons s off h
    have hb0 := ext_cons HT.out hcr
    have hf := HF.out
    obtain ⟨_, _, _, hne5, hne2, hne25, _, _⟩ := hf
    by_cases h0 : n = 0
    · subst h0
      have hsg := sign_f (HT.out.trans hcr)
      rw [show (((0 : Nat) : Int)) = 0 from rfl]
      by_cases hm0 : signL (c :: r) = 0
      · rw [hm0] at hsg
        have HSG : Aside0 (lexer_sign.f 1 t = some 0) := ⟨hsg⟩
        have HM := Aside0.mk hm0
        have HCR := Aside0.mk hcr
        clear hsg hm0 hcr hbt hb0
        go_wp2_with (first
          | (go_at_call 44; (with_reducible refine (lexer_sign.calls 1 t 0 _ HSG.out).mono ?_); rintro e w3 ⟨rfl, hd⟩; have HD := Aside0.mk hd; clear hd; have b5_ := blk_below HB5c.out (HD.out.below); have b2_ := blk_below HB2c.out (HD.out.below); have c50 : w3.cell? ⟨g5, 0, none⟩ = some (.int .i64 0) := (blk_cell b5_ 0).trans rfl; have f50 := blk_frozen b5_ 0; have c51 : w3.cell? ⟨g5, 1, none⟩ = some (.string ⟨#[]⟩) := (blk_cell b5_ 1).trans rfl; have f51 := blk_frozen b5_ 1; have c52 : w3.cell? ⟨g5, 2, none⟩ = some (.int .i32 0) := (blk_cell b5_ 2).trans rfl; have f52 := blk_frozen b5_ 2; have c53 : w3.cell? ⟨g5, 3, none⟩ = some (.int .i64 (off : Int)) := (blk_cell b5_ 3).trans rfl; have f53 := blk_frozen b5_ 3; have c54 : w3.cell? ⟨g5, 4, none⟩ = some (.int .i64 (lnA s off)) := (blk_cell b5_ 4).trans rfl; have f54 := blk_frozen b5_ 4; have c55 : w3.cell? ⟨g5, 5, none⟩ = some (.int .i64 ((off : Int) - stA s off + 1)) := (blk_cell b5_ 5).trans rfl; have f55 := blk_frozen b5_ 5; have c20 : w3.cell? ⟨g2, 0, none⟩ = some (.int .i64 0) := (blk_cell b2_ 0).trans rfl; have f20 := blk_frozen b2_ 0; have c21 : w3.cell? ⟨g2, 1, none⟩ = some (.string ⟨#[]⟩) := (blk_cell b2_ 1).trans rfl; have f21 := blk_frozen b2_ 1; have c22 : w3.cell? ⟨g2, 2, none⟩ = some (.int .i32 0) := (blk_cell b2_ 2).trans rfl; have f22 := blk_frozen b2_ 2; have c23 : w3.cell? ⟨g2, 3, none⟩ = some (.int .i64 0) := (blk_cell b2_ 3).trans rfl; have f23 := blk_frozen b2_ 3; have c24 : w3.cell? ⟨g2, 4, none⟩ = some (.int .i64 0) := (blk_cell b2_ 4).trans rfl; have f24 := blk_frozen b2_ 4; have c25 : w3.cell? ⟨g2, 5, none⟩ = some (.int .i64 0) := (blk_cell b2_ 5).trans rfl; have f25 := blk_frozen b2_ 5; have B2X := Aside0.mk b2_; have B5X := Aside0.mk b5_; clear b2_ b5_))
        refine bodyPost_ret (v := .tuple #[tkV s off 0 ⟨#[]⟩ 0, .int .i64 10]) ((results_ct rfl _ _ g2 33 #[.int .i64 0, .string ⟨#[]⟩, .int .i32 0, .int .i64 (off : Int), .int .i64 (lnA s off), .int .i64 ((off : Int) - stA s off + 1)] (0, 0) _ rfl (blk6 B2X.out rfl _ _ _ _ _ _) Try.underlying33 rfl I33.out).trans rfl) rfl ⟨?_, below6 (below_then HBc.out HBc.out.size (HD.out.below)) HF.out.2.2.2.2.2.2.2 _ _ _ _ _ _, keep6 (HKw2.out.trans (KeepBut.of_below (below_then HBwc.out HBwc.out.size (HD.out.below)) g none) (.inl rfl)) HF.out.2.2.2.2.2.2.1 _ _ _ _ _ _⟩
        have htok : tokL (rst s off) = .err 10 := by
          unfold tokL
          rw [if_pos HN.out, HCR.out, if_pos HM.out]
        rw [htok]
        exact ⟨⟨_, _, _, rfl⟩, rd6 (HIc.out.below (HD.out.below)) HF.out.2.2.2.2.1 _ _ _ _ _ _⟩
      · obtain ⟨m, hm⟩ : ∃ m, signL (c :: r) = m := ⟨_, rfl⟩
        have hmt : m ≤ t.size := by have h_ := (sign_bd (c :: r)).1; rw [hm, ← hcr, ← HT.out, slen] at h_; exact h_
        rw [hm] at hsg hm0
        have HSG := Aside0.mk hsg
        have HM := Aside0.mk hm
        have HCR := Aside0.mk hcr
        have HNE := Aside0.mk hm0
        have HMT := Aside0.mk hmt
        have q0 : ((m : Int) == 0) = false := by rw [beq_eq_false_iff_ne]; omega
        have q1 : (m : Int) ≤ (t.size : Int) := by omega
        clear hsg hm hm0 hcr hbt hb0
        go_wp2_with (first
          | (go_at_call 44; (with_reducible refine (lexer_sign.calls 1 t (m : Int) _ HSG.out).mono ?_); rintro e w3 ⟨rfl, hd⟩; have HD := Aside0.mk hd; clear hd; have b5_ := blk_below HB5c.out (HD.out.below); have b2_ := blk_below HB2c.out (HD.out.below); have c50 : w3.cell? ⟨g5, 0, none⟩ = some (.int .i64 0) := (blk_cell b5_ 0).trans rfl; have f50 := blk_frozen b5_ 0; have c51 : w3.cell? ⟨g5, 1, none⟩ = some (.string ⟨#[]⟩) := (blk_cell b5_ 1).trans rfl; have f51 := blk_frozen b5_ 1; have c52 : w3.cell? ⟨g5, 2, none⟩ = some (.int .i32 0) := (blk_cell b5_ 2).trans rfl; have f52 := blk_frozen b5_ 2; have c53 : w3.cell? ⟨g5, 3, none⟩ = some (.int .i64 (off : Int)) := (blk_cell b5_ 3).trans rfl; have f53 := blk_frozen b5_ 3; have c54 : w3.cell? ⟨g5, 4, none⟩ = some (.int .i64 (lnA s off)) := (blk_cell b5_ 4).trans rfl; have f54 := blk_frozen b5_ 4; have c55 : w3.cell? ⟨g5, 5, none⟩ = some (.int .i64 ((off : Int) - stA s off + 1)) := (blk_cell b5_ 5).trans rfl; have f55 := blk_frozen b5_ 5; have c20 : w3.cell? ⟨g2, 0, none⟩ = some (.int .i64 0) := (blk_cell b2_ 0).trans rfl; have f20 := blk_frozen b2_ 0; have c21 : w3.cell? ⟨g2, 1, none⟩ = some (.string ⟨#[]⟩) := (blk_cell b2_ 1).trans rfl; have f21 := blk_frozen b2_ 1; have c22 : w3.cell? ⟨g2, 2, none⟩ = some (.int .i32 0) := (blk_cell b2_ 2).trans rfl; have f22 := blk_frozen b2_ 2; have c23 : w3.cell? ⟨g2, 3, none⟩ = some (.int .i64 0) := (blk_cell b2_ 3).trans rfl; have f23 := blk_frozen b2_ 3; have c24 : w3.cell? ⟨g2, 4, none⟩ = some (.int .i64 0) := (blk_cell b2_ 4).trans rfl; have f24 := blk_frozen b2_ 4; have c25 : w3.cell? ⟨g2, 5, none⟩ = some (.int .i64 0) := (blk_cell b2_ 5).trans rfl; have f25 := blk_frozen b2_ 5; have B2X := Aside0.mk b2_; have B5X := Aside0.mk b5_; clear b2_ b5_)
          | (go_at_call 23; (with_reducible refine (pass_calls w0 _ g s hs m off ?hle ?hI ?hB).mono ?_); (case hle => have h_ := HTS.out; have h1_ := HMT.out; omega); (case hI => exact Rd.far (Rd.far (HIc.out.below (HD.out.below)) (Ne.symm HF.out.2.2.2.1) _) (Ne.symm HF.out.2.2.2.1) _); (case hB => exact below_set (below_set (below_then HBc.out HBc.out.size (HD.out.below)) (by have h_ := HF.out; omega)) (by have h_ := HF.out; omega)); rintro e wp ⟨rfl, hIp, hBp, hKp⟩; have HIp := Aside0.mk hIp; have HBp := Aside0.mk hBp; have HKp := Aside0.mk hKp; have b5_ := hKp.blk (blk_put (blk_put (blk_below HB5c.out (HD.out.below)) 0 _ rfl) 1 _ rfl) HF.out.2.2.2.1 (by simp); have b2_ := hKp.blk (blk_far (blk_far (blk_below HB2c.out (HD.out.below)) HF.out.2.2.2.2.2.1 _) HF.out.2.2.2.2.2.1 _) HF.out.2.2.2.2.1 (by simp); clear hIp hBp hKp; clear c50 f50 c20 f20 c51 f51 c21 f21 c52 f52 c22 f22 c53 f53 c23 f23 c54 f54 c24 f24 c55 f55 c25 f25; have c50 : wp.cell? ⟨g5, 0, none⟩ = some (.int .i64 4) := (blk_cell b5_ 0).trans rfl; have f50 := blk_frozen b5_ 0; have c51 : wp.cell? ⟨g5, 1, none⟩ = some (.string (t.extract 0 m)) := (blk_cell b5_ 1).trans rfl; have f51 := blk_frozen b5_ 1; have c52 : wp.cell? ⟨g5, 2, none⟩ = some (.int .i32 0) := (blk_cell b5_ 2).trans rfl; have f52 := blk_frozen b5_ 2; have c53 : wp.cell? ⟨g5, 3, none⟩ = some (.int .i64 (off : Int)) := (blk_cell b5_ 3).trans rfl; have f53 := blk_frozen b5_ 3; have c54 : wp.cell? ⟨g5, 4, none⟩ = some (.int .i64 (lnA s off)) := (blk_cell b5_ 4).trans rfl; have f54 := blk_frozen b5_ 4; have c55 : wp.cell? ⟨g5, 5, none⟩ = some (.int .i64 ((off : Int) - stA s off + 1)) := (blk_cell b5_ 5).trans rfl; have f55 := blk_frozen b5_ 5; have c20 : wp.cell? ⟨g2, 0, none⟩ = some (.int .i64 0) := (blk_cell b2_ 0).trans rfl; have f20 := blk_frozen b2_ 0; have c21 : wp.cell? ⟨g2, 1, none⟩ = some (.string ⟨#[]⟩) := (blk_cell b2_ 1).trans rfl; have f21 := blk_frozen b2_ 1; have c22 : wp.cell? ⟨g2, 2, none⟩ = some (.int .i32 0) := (blk_cell b2_ 2).trans rfl; have f22 := blk_frozen b2_ 2; have c23 : wp.cell? ⟨g2, 3, none⟩ = some (.int .i64 0) := (blk_cell b2_ 3).trans rfl; have f23 := blk_frozen b2_ 3; have c24 : wp.cell? ⟨g2, 4, none⟩ = some (.int .i64 0) := (blk_cell b2_ 4).trans rfl; have f24 := blk_frozen b2_ 4; have c25 : wp.cell? ⟨g2, 5, none⟩ = some (.int .i64 0) := (blk_cell b2_ 5).trans rfl; have f25 := blk_frozen b2_ 5; have B2P := Aside0.mk b2_; clear b2_ b5_))
        refine bodyPost_ret (v := .tuple #[tkV s off 4 (t.extract 0 m) 0, .int .i64 0]) ((results_ct rfl _ _ g2 33 #[.int .i64 4, .string (t.extract 0 m), .int .i32 0, .int .i64 (off : Int), .int .i64 (lnA s off), .int .i64 ((off : Int) - stA s off + 1)] (0, 0) _ rfl (blk6 B2P.out rfl _ _ _ _ _ _) Try.underlying33 rfl I33.out).trans rfl) rfl ⟨?_, below6 HBp.out HF.out.2.2.2.2.2.2.2 _ _ _ _ _ _, keep6 ((keep_far (keep_far (HKw2.out.trans (KeepBut.of_below (below_then HBwc.out HBwc.out.size (HD.out.below)) g none) (.inl rfl)) (by have h_ := HF.out; show _ ≤ g5; omega) _) (by have h_ := HF.out; show _ ≤ g5; omega) _).trans HKp.out (.inl rfl)) HF.out.2.2.2.2.2.2.1 _ _ _ _ _ _⟩
        have htok : tokL (rst s off) = .ok 4 m 0 := by
          unfold tokL
          rw [if_pos HN.out, HCR.out, HM.out, if_neg HNE.out]
        rw [htok, ext_ext s t off m HTE.out HMT.out]
        exact ⟨rfl, rd6 HIp.out HF.out.2.2.2.2.1 _ _ _ _ _ _⟩
    · have HNE := Aside0.mk h0
      have HMT := Aside0.mk hnt
      have HCR := Aside0.mk hcr
      have q0 : ((n : Int) == 0) = false := by rw [beq_eq_false_iff_ne]; omega
      have q00 : (n : Int) ≤ (t.size : Int) := by omega
      have q1 : (0 < (t.size : Int)) = True := by apply eq_true; omega
      have q2 : (0 < t.size) = True := by apply eq_true; omega
      have q3 : ∀ h : 0 < t.size, ((t[0]'h).toNat : Int) = (c.toNat : Int) := fun h => (bt_at t 0 h).trans hb0
      have q4 : ∀ h : 0 < t.size, (t[0]'h).toNat = c.toNat := fun h => by have := q3 h; omega
      have HX : Aside0 ((t.extract 0 n).data.toList = (rst s off).take n) := ⟨by rw [ext_list, HT.out]⟩
      clear h0 hcr hbt hb0
      by_cases hdg : dig c = true
      · have HDG := Aside0.mk hdg
        clear hdg
        obtain ⟨v, hnf, hnu⟩ := number_f (t.extract 0 n)
        rw [HX.out] at hnf hnu
        cases hnl : numL ((rst s off).take n) with
        | none =>
          rw [hnl] at hnf
          have HNF : Aside0 (lexer_number.f ((t.extract 0 n).size + 2) (t.extract 0 n) = some (v, false)) := ⟨hnf⟩
          have HNL := Aside0.mk hnl
          clear hnf hnu hnl
          go_wp2_with (first
            | (go_at_call 31; (with_reducible refine (lexer_isDigit.calls (c.toNat : Int) (dig c) _ (isDigit_f c)).mono ?_); rw [HDG.out]; rintro e w3 ⟨rfl, hd⟩; have HD3 := Aside0.mk hd; clear hd)
            | (go_at_call 45; (with_reducible refine (lexer_number.calls _ (t.extract 0 n) _ _ _ HNF.out).mono ?_); rintro e w4 ⟨rfl, hd⟩; have HD4 := Aside0.mk hd; clear hd; have b5_ := blk_below HB5c.out (below_then HD3.out.below HD3.out.below.size HD4.out.below); have b2_ := blk_below HB2c.out (below_then HD3.out.below HD3.out.below.size HD4.out.below); have c50 : w4.cell? ⟨g5, 0, none⟩ = some (.int .i64 0) := (blk_cell b5_ 0).trans rfl; have f50 := blk_frozen b5_ 0; have c51 : w4.cell? ⟨g5, 1, none⟩ = some (.string ⟨#[]⟩) := (blk_cell b5_ 1).trans rfl; have f51 := blk_frozen b5_ 1; have c52 : w4.cell? ⟨g5, 2, none⟩ = some (.int .i32 0) := (blk_cell b5_ 2).trans rfl; have f52 := blk_frozen b5_ 2; have c53 : w4.cell? ⟨g5, 3, none⟩ = some (.int .i64 (off : Int)) := (blk_cell b5_ 3).trans rfl; have f53 := blk_frozen b5_ 3; have c54 : w4.cell? ⟨g5, 4, none⟩ = some (.int .i64 (lnA s off)) := (blk_cell b5_ 4).trans rfl; have f54 := blk_frozen b5_ 4; have c55 : w4.cell? ⟨g5, 5, none⟩ = some (.int .i64 ((off : Int) - stA s off + 1)) := (blk_cell b5_ 5).trans rfl; have f55 := blk_frozen b5_ 5; have c20 : w4.cell? ⟨g2, 0, none⟩ = some (.int .i64 0) := (blk_cell b2_ 0).trans rfl; have f20 := blk_frozen b2_ 0; have c21 : w4.cell? ⟨g2, 1, none⟩ = some (.string ⟨#[]⟩) := (blk_cell b2_ 1).trans rfl; have f21 := blk_frozen b2_ 1; have c22 : w4.cell? ⟨g2, 2, none⟩ = some (.int .i32 0) := (blk_cell b2_ 2).trans rfl; have f22 := blk_frozen b2_ 2; have c23 : w4.cell? ⟨g2, 3, none⟩ = some (.int .i64 0) := (blk_cell b2_ 3).trans rfl; have f23 := blk_frozen b2_ 3; have c24 : w4.cell? ⟨g2, 4, none⟩ = some (.int .i64 0) := (blk_cell b2_ 4).trans rfl; have f24 := blk_frozen b2_ 4; have c25 : w4.cell? ⟨g2, 5, none⟩ = some (.int .i64 0) := (blk_cell b2_ 5).trans rfl; have f25 := blk_frozen b2_ 5; have B2X := Aside0.mk b2_; have B5X := Aside0.mk b5_; clear b2_ b5_))
          refine bodyPost_ret (v := .tuple #[tkV s off 0 ⟨#[]⟩ 0, .int .i64 11]) ((results_ct rfl _ _ g2 33 #[.int .i64 0, .string ⟨#[]⟩, .int .i32 0, .int .i64 (off : Int), .int .i64 (lnA s off), .int .i64 ((off : Int) - stA s off + 1)] (0, 0) _ rfl (blk6 B2X.out rfl _ _ _ _ _ _) Try.underlying33 rfl I33.out).trans rfl) rfl ⟨?_, below6 (below_then HBc.out HBc.out.size (below_then HD3.out.below HD3.out.below.size HD4.out.below)) HF.out.2.2.2.2.2.2.2 _ _ _ _ _ _, keep6 (HKw2.out.trans (KeepBut.of_below (below_then HBwc.out HBwc.out.size (below_then HD3.out.below HD3.out.below.size HD4.out.below)) g none) (.inl rfl)) HF.out.2.2.2.2.2.2.1 _ _ _ _ _ _⟩
          have htok : tokL (rst s off) = .err 11 := by
            unfold tokL
            rw [HN.out, if_neg HNE.out, if_pos (show (rst s off).head?.any dig = true by rw [HCR.out]; exact HDG.out), HNL.out]
          rw [htok]
          exact ⟨⟨_, _, _, rfl⟩, rd6 (HIc.out.below (below_then HD3.out.below HD3.out.below.size HD4.out.below)) HF.out.2.2.2.2.1 _ _ _ _ _ _⟩
        | some u =>
          rw [hnl] at hnf
          obtain rfl : v = u := hnu u hnl
          have HNF : Aside0 (lexer_number.f ((t.extract 0 n).size + 2) (t.extract 0 n) = some (v, true)) := ⟨hnf⟩
          have HNL := Aside0.mk hnl
          clear hnf hnu hnl
          go_wp2_with (first
            | (go_at_call 31; (with_reducible refine (lexer_isDigit.calls (c.toNat : Int) (dig c) _ (isDigit_f c)).mono ?_); rw [HDG.out]; rintro e w3 ⟨rfl, hd⟩; have HD3 := Aside0.mk hd; clear hd)
            | (go_at_call 45; (with_reducible refine (lexer_number.calls _ (t.extract 0 n) _ _ _ HNF.out).mono ?_); rintro e w4 ⟨rfl, hd⟩; have HD4 := Aside0.mk hd; clear hd; have b5_ := blk_below HB5c.out (below_then HD3.out.below HD3.out.below.size HD4.out.below); have b2_ := blk_below HB2c.out (below_then HD3.out.below HD3.out.below.size HD4.out.below); have c50 : w4.cell? ⟨g5, 0, none⟩ = some (.int .i64 0) := (blk_cell b5_ 0).trans rfl; have f50 := blk_frozen b5_ 0; have c51 : w4.cell? ⟨g5, 1, none⟩ = some (.string ⟨#[]⟩) := (blk_cell b5_ 1).trans rfl; have f51 := blk_frozen b5_ 1; have c52 : w4.cell? ⟨g5, 2, none⟩ = some (.int .i32 0) := (blk_cell b5_ 2).trans rfl; have f52 := blk_frozen b5_ 2; have c53 : w4.cell? ⟨g5, 3, none⟩ = some (.int .i64 (off : Int)) := (blk_cell b5_ 3).trans rfl; have f53 := blk_frozen b5_ 3; have c54 : w4.cell? ⟨g5, 4, none⟩ = some (.int .i64 (lnA s off)) := (blk_cell b5_ 4).trans rfl; have f54 := blk_frozen b5_ 4; have c55 : w4.cell? ⟨g5, 5, none⟩ = some (.int .i64 ((off : Int) - stA s off + 1)) := (blk_cell b5_ 5).trans rfl; have f55 := blk_frozen b5_ 5; have c20 : w4.cell? ⟨g2, 0, none⟩ = some (.int .i64 0) := (blk_cell b2_ 0).trans rfl; have f20 := blk_frozen b2_ 0; have c21 : w4.cell? ⟨g2, 1, none⟩ = some (.string ⟨#[]⟩) := (blk_cell b2_ 1).trans rfl; have f21 := blk_frozen b2_ 1; have c22 : w4.cell? ⟨g2, 2, none⟩ = some (.int .i32 0) := (blk_cell b2_ 2).trans rfl; have f22 := blk_frozen b2_ 2; have c23 : w4.cell? ⟨g2, 3, none⟩ = some (.int .i64 0) := (blk_cell b2_ 3).trans rfl; have f23 := blk_frozen b2_ 3; have c24 : w4.cell? ⟨g2, 4, none⟩ = some (.int .i64 0) := (blk_cell b2_ 4).trans rfl; have f24 := blk_frozen b2_ 4; have c25 : w4.cell? ⟨g2, 5, none⟩ = some (.int .i64 0) := (blk_cell b2_ 5).trans rfl; have f25 := blk_frozen b2_ 5; have B2X := Aside0.mk b2_; have B5X := Aside0.mk b5_; clear b2_ b5_)
            | (go_at_call 23; (with_reducible refine (pass_calls w0 _ g s hs n off ?hle ?hI ?hB).mono ?_); (case hle => have h_ := HTS.out; have h1_ := HMT.out; omega); (case hI => exact Rd.far (Rd.far (Rd.far (HIc.out.below (below_then HD3.out.below HD3.out.below.size HD4.out.below)) (Ne.symm HF.out.2.2.2.1) _) (Ne.symm HF.out.2.2.2.1) _) (Ne.symm HF.out.2.2.2.1) _); (case hB => exact below_set (below_set (below_set (below_then HBc.out HBc.out.size (below_then HD3.out.below HD3.out.below.size HD4.out.below)) (by have h_ := HF.out; omega)) (by have h_ := HF.out; omega)) (by have h_ := HF.out; omega)); rintro e wp ⟨rfl, hIp, hBp, hKp⟩; have HIp := Aside0.mk hIp; have HBp := Aside0.mk hBp; have HKp := Aside0.mk hKp; have b5_ := hKp.blk (blk_put (blk_put (blk_put (blk_below HB5c.out (below_then HD3.out.below HD3.out.below.size HD4.out.below)) 0 _ rfl) 2 _ rfl) 1 _ rfl) HF.out.2.2.2.1 (by simp); have b2_ := hKp.blk (blk_far (blk_far (blk_far (blk_below HB2c.out (below_then HD3.out.below HD3.out.below.size HD4.out.below)) HF.out.2.2.2.2.2.1 _) HF.out.2.2.2.2.2.1 _) HF.out.2.2.2.2.2.1 _) HF.out.2.2.2.2.1 (by simp); clear hIp hBp hKp; clear c50 f50 c20 f20 c51 f51 c21 f21 c52 f52 c22 f22 c53 f53 c23 f23 c54 f54 c24 f24 c55 f55 c25 f25; have c50 : wp.cell? ⟨g5, 0, none⟩ = some (.int .i64 2) := (blk_cell b5_ 0).trans rfl; have f50 := blk_frozen b5_ 0; have c51 : wp.cell? ⟨g5, 1, none⟩ = some (.string (t.extract 0 n)) := (blk_cell b5_ 1).trans rfl; have f51 := blk_frozen b5_ 1; have c52 : wp.cell? ⟨g5, 2, none⟩ = some (.int .i32 v) := (blk_cell b5_ 2).trans rfl; have f52 := blk_frozen b5_ 2; have c53 : wp.cell? ⟨g5, 3, none⟩ = some (.int .i64 (off : Int)) := (blk_cell b5_ 3).trans rfl; have f53 := blk_frozen b5_ 3; have c54 : wp.cell? ⟨g5, 4, none⟩ = some (.int .i64 (lnA s off)) := (blk_cell b5_ 4).trans rfl; have f54 := blk_frozen b5_ 4; have c55 : wp.cell? ⟨g5, 5, none⟩ = some (.int .i64 ((off : Int) - stA s off + 1)) := (blk_cell b5_ 5).trans rfl; have f55 := blk_frozen b5_ 5; have c20 : wp.cell? ⟨g2, 0, none⟩ = some (.int .i64 0) := (blk_cell b2_ 0).trans rfl; have f20 := blk_frozen b2_ 0; have c21 : wp.cell? ⟨g2, 1, none⟩ = some (.string ⟨#[]⟩) := (blk_cell b2_ 1).trans rfl; have f21 := blk_frozen b2_ 1; have c22 : wp.cell? ⟨g2, 2, none⟩ = some (.int .i32 0) := (blk_cell b2_ 2).trans rfl; have f22 := blk_frozen b2_ 2; have c23 : wp.cell? ⟨g2, 3, none⟩ = some (.int .i64 0) := (blk_cell b2_ 3).trans rfl; have f23 := blk_frozen b2_ 3; have c24 : wp.cell? ⟨g2, 4, none⟩ = some (.int .i64 0) := (blk_cell b2_ 4).trans rfl; have f24 := blk_frozen b2_ 4; have c25 : wp.cell? ⟨g2, 5, none⟩ = some (.int .i64 0) := (blk_cell b2_ 5).trans rfl; have f25 := blk_frozen b2_ 5; have B2P := Aside0.mk b2_; clear b2_ b5_))
          refine bodyPost_ret (v := .tuple #[tkV s off 2 (t.extract 0 n) v, .int .i64 0]) ((results_ct rfl _ _ g2 33 #[.int .i64 2, .string (t.extract 0 n), .int .i32 v, .int .i64 (off : Int), .int .i64 (lnA s off), .int .i64 ((off : Int) - stA s off + 1)] (0, 0) _ rfl (blk6 B2P.out rfl _ _ _ _ _ _) Try.underlying33 rfl I33.out).trans rfl) rfl ⟨?_, below6 HBp.out HF.out.2.2.2.2.2.2.2 _ _ _ _ _ _, keep6 ((keep_far (keep_far (keep_far (HKw2.out.trans (KeepBut.of_below (below_then HBwc.out HBwc.out.size (below_then HD3.out.below HD3.out.below.size HD4.out.below)) g none) (.inl rfl)) (by have h_ := HF.out; show _ ≤ g5; omega) _) (by have h_ := HF.out; show _ ≤ g5; omega) _) (by have h_ := HF.out; show _ ≤ g5; omega) _).trans HKp.out (.inl rfl)) HF.out.2.2.2.2.2.2.1 _ _ _ _ _ _⟩
          have htok : tokL (rst s off) = .ok 2 n v := by
            unfold tokL
            rw [HN.out, if_neg HNE.out, if_pos (show (rst s off).head?.any dig = true by rw [HCR.out]; exact HDG.out), HNL.out]
          rw [htok, ext_ext s t off n HTE.out HMT.out]
          exact ⟨rfl, rd6 HIp.out HF.out.2.2.2.2.1 _ _ _ _ _ _⟩
      · have hdg : dig c = false := by simpa using hdg
        have HDG := Aside0.mk hdg
        clear hdg
        by_cases hw : (rst s off).take n ∈ wordsL
        · have HWF : Aside0 (lexer_IsWord.f (t.extract 0 n) = some true) := ⟨by rw [word_f, HX.out, decide_eq_true hw]⟩
          have HWD := Aside0.mk hw
          clear hw
          go_wp2_with (first
            | (go_at_call 31; (with_reducible refine (lexer_isDigit.calls (c.toNat : Int) (dig c) _ (isDigit_f c)).mono ?_); rw [HDG.out]; rintro e w3 ⟨rfl, hd⟩; have HD3 := Aside0.mk hd; clear hd)
            | (go_at_call 18; (with_reducible refine (lexer_IsWord.calls (t.extract 0 n) _ _ HWF.out).mono ?_); rintro e w4 ⟨rfl, hd⟩; have HD4 := Aside0.mk hd; clear hd; have b5_ := blk_below HB5c.out (below_then HD3.out.below HD3.out.below.size HD4.out.below); have b2_ := blk_below HB2c.out (below_then HD3.out.below HD3.out.below.size HD4.out.below); have c50 : w4.cell? ⟨g5, 0, none⟩ = some (.int .i64 0) := (blk_cell b5_ 0).trans rfl; have f50 := blk_frozen b5_ 0; have c51 : w4.cell? ⟨g5, 1, none⟩ = some (.string ⟨#[]⟩) := (blk_cell b5_ 1).trans rfl; have f51 := blk_frozen b5_ 1; have c52 : w4.cell? ⟨g5, 2, none⟩ = some (.int .i32 0) := (blk_cell b5_ 2).trans rfl; have f52 := blk_frozen b5_ 2; have c53 : w4.cell? ⟨g5, 3, none⟩ = some (.int .i64 (off : Int)) := (blk_cell b5_ 3).trans rfl; have f53 := blk_frozen b5_ 3; have c54 : w4.cell? ⟨g5, 4, none⟩ = some (.int .i64 (lnA s off)) := (blk_cell b5_ 4).trans rfl; have f54 := blk_frozen b5_ 4; have c55 : w4.cell? ⟨g5, 5, none⟩ = some (.int .i64 ((off : Int) - stA s off + 1)) := (blk_cell b5_ 5).trans rfl; have f55 := blk_frozen b5_ 5; have c20 : w4.cell? ⟨g2, 0, none⟩ = some (.int .i64 0) := (blk_cell b2_ 0).trans rfl; have f20 := blk_frozen b2_ 0; have c21 : w4.cell? ⟨g2, 1, none⟩ = some (.string ⟨#[]⟩) := (blk_cell b2_ 1).trans rfl; have f21 := blk_frozen b2_ 1; have c22 : w4.cell? ⟨g2, 2, none⟩ = some (.int .i32 0) := (blk_cell b2_ 2).trans rfl; have f22 := blk_frozen b2_ 2; have c23 : w4.cell? ⟨g2, 3, none⟩ = some (.int .i64 0) := (blk_cell b2_ 3).trans rfl; have f23 := blk_frozen b2_ 3; have c24 : w4.cell? ⟨g2, 4, none⟩ = some (.int .i64 0) := (blk_cell b2_ 4).trans rfl; have f24 := blk_frozen b2_ 4; have c25 : w4.cell? ⟨g2, 5, none⟩ = some (.int .i64 0) := (blk_cell b2_ 5).trans rfl; have f25 := blk_frozen b2_ 5; have B2X := Aside0.mk b2_; have B5X := Aside0.mk b5_; clear b2_ b5_)
            | (go_at_call 23; (with_reducible refine (pass_calls w0 _ g s hs n off ?hle ?hI ?hB).mono ?_); (case hle => have h_ := HTS.out; have h1_ := HMT.out; omega); (case hI => exact Rd.far (Rd.far (HIc.out.below (below_then HD3.out.below HD3.out.below.size HD4.out.below)) (Ne.symm HF.out.2.2.2.1) _) (Ne.symm HF.out.2.2.2.1) _); (case hB => exact below_set (below_set (below_then HBc.out HBc.out.size (below_then HD3.out.below HD3.out.below.size HD4.out.below)) (by have h_ := HF.out; omega)) (by have h_ := HF.out; omega)); rintro e wp ⟨rfl, hIp, hBp, hKp⟩; have HIp := Aside0.mk hIp; have HBp := Aside0.mk hBp; have HKp := Aside0.mk hKp; have b5_ := hKp.blk (blk_put (blk_put (blk_below HB5c.out (below_then HD3.out.below HD3.out.below.size HD4.out.below)) 0 _ rfl) 1 _ rfl) HF.out.2.2.2.1 (by simp); have b2_ := hKp.blk (blk_far (blk_far (blk_below HB2c.out (below_then HD3.out.below HD3.out.below.size HD4.out.below)) HF.out.2.2.2.2.2.1 _) HF.out.2.2.2.2.2.1 _) HF.out.2.2.2.2.1 (by simp); clear hIp hBp hKp; clear c50 f50 c20 f20 c51 f51 c21 f21 c52 f52 c22 f22 c53 f53 c23 f23 c54 f54 c24 f24 c55 f55 c25 f25; have c50 : wp.cell? ⟨g5, 0, none⟩ = some (.int .i64 3) := (blk_cell b5_ 0).trans rfl; have f50 := blk_frozen b5_ 0; have c51 : wp.cell? ⟨g5, 1, none⟩ = some (.string (t.extract 0 n)) := (blk_cell b5_ 1).trans rfl; have f51 := blk_frozen b5_ 1; have c52 : wp.cell? ⟨g5, 2, none⟩ = some (.int .i32 0) := (blk_cell b5_ 2).trans rfl; have f52 := blk_frozen b5_ 2; have c53 : wp.cell? ⟨g5, 3, none⟩ = some (.int .i64 (off : Int)) := (blk_cell b5_ 3).trans rfl; have f53 := blk_frozen b5_ 3; have c54 : wp.cell? ⟨g5, 4, none⟩ = some (.int .i64 (lnA s off)) := (blk_cell b5_ 4).trans rfl; have f54 := blk_frozen b5_ 4; have c55 : wp.cell? ⟨g5, 5, none⟩ = some (.int .i64 ((off : Int) - stA s off + 1)) := (blk_cell b5_ 5).trans rfl; have f55 := blk_frozen b5_ 5; have c20 : wp.cell? ⟨g2, 0, none⟩ = some (.int .i64 0) := (blk_cell b2_ 0).trans rfl; have f20 := blk_frozen b2_ 0; have c21 : wp.cell? ⟨g2, 1, none⟩ = some (.string ⟨#[]⟩) := (blk_cell b2_ 1).trans rfl; have f21 := blk_frozen b2_ 1; have c22 : wp.cell? ⟨g2, 2, none⟩ = some (.int .i32 0) := (blk_cell b2_ 2).trans rfl; have f22 := blk_frozen b2_ 2; have c23 : wp.cell? ⟨g2, 3, none⟩ = some (.int .i64 0) := (blk_cell b2_ 3).trans rfl; have f23 := blk_frozen b2_ 3; have c24 : wp.cell? ⟨g2, 4, none⟩ = some (.int .i64 0) := (blk_cell b2_ 4).trans rfl; have f24 := blk_frozen b2_ 4; have c25 : wp.cell? ⟨g2, 5, none⟩ = some (.int .i64 0) := (blk_cell b2_ 5).trans rfl; have f25 := blk_frozen b2_ 5; have B2P := Aside0.mk b2_; clear b2_ b5_))
          refine bodyPost_ret (v := .tuple #[tkV s off 3 (t.extract 0 n) 0, .int .i64 0]) ((results_ct rfl _ _ g2 33 #[.int .i64 3, .string (t.extract 0 n), .int .i32 0, .int .i64 (off : Int), .int .i64 (lnA s off), .int .i64 ((off : Int) - stA s off + 1)] (0, 0) _ rfl (blk6 B2P.out rfl _ _ _ _ _ _) Try.underlying33 rfl I33.out).trans rfl) rfl ⟨?_, below6 HBp.out HF.out.2.2.2.2.2.2.2 _ _ _ _ _ _, keep6 ((keep_far (keep_far (HKw2.out.trans (KeepBut.of_below (below_then HBwc.out HBwc.out.size (below_then HD3.out.below HD3.out.below.size HD4.out.below)) g none) (.inl rfl)) (by have h_ := HF.out; show _ ≤ g5; omega) _) (by have h_ := HF.out; show _ ≤ g5; omega) _).trans HKp.out (.inl rfl)) HF.out.2.2.2.2.2.2.1 _ _ _ _ _ _⟩
          have htok : tokL (rst s off) = .ok 3 n 0 := by
            unfold tokL
            rw [HN.out, if_neg HNE.out, if_neg (show ¬ (rst s off).head?.any dig = true by rw [HCR.out]; show ¬ dig c = true; rw [HDG.out]; decide), if_pos HWD.out]
          rw [htok, ext_ext s t off n HTE.out HMT.out]
          exact ⟨rfl, rd6 HIp.out HF.out.2.2.2.2.1 _ _ _ _ _ _⟩
        · have HWF : Aside0 (lexer_IsWord.f (t.extract 0 n) = some false) := ⟨by rw [word_f, HX.out, decide_eq_false hw]⟩
          have HWD := Aside0.mk hw
          clear hw
          by_cases h64 : 64 < n
          · have h64i : (64 : Int) < (n : Int) := by omega
            have H64 := Aside0.mk h64
            clear h64
            go_wp2_with (first
              | (go_at_call 31; (with_reducible refine (lexer_isDigit.calls (c.toNat : Int) (dig c) _ (isDigit_f c)).mono ?_); rw [HDG.out]; rintro e w3 ⟨rfl, hd⟩; have HD3 := Aside0.mk hd; clear hd)
              | (go_at_call 18; (with_reducible refine (lexer_IsWord.calls (t.extract 0 n) _ _ HWF.out).mono ?_); rintro e w4 ⟨rfl, hd⟩; have HD4 := Aside0.mk hd; clear hd; have b5_ := blk_below HB5c.out (below_then HD3.out.below HD3.out.below.size HD4.out.below); have b2_ := blk_below HB2c.out (below_then HD3.out.below HD3.out.below.size HD4.out.below); have c50 : w4.cell? ⟨g5, 0, none⟩ = some (.int .i64 0) := (blk_cell b5_ 0).trans rfl; have f50 := blk_frozen b5_ 0; have c51 : w4.cell? ⟨g5, 1, none⟩ = some (.string ⟨#[]⟩) := (blk_cell b5_ 1).trans rfl; have f51 := blk_frozen b5_ 1; have c52 : w4.cell? ⟨g5, 2, none⟩ = some (.int .i32 0) := (blk_cell b5_ 2).trans rfl; have f52 := blk_frozen b5_ 2; have c53 : w4.cell? ⟨g5, 3, none⟩ = some (.int .i64 (off : Int)) := (blk_cell b5_ 3).trans rfl; have f53 := blk_frozen b5_ 3; have c54 : w4.cell? ⟨g5, 4, none⟩ = some (.int .i64 (lnA s off)) := (blk_cell b5_ 4).trans rfl; have f54 := blk_frozen b5_ 4; have c55 : w4.cell? ⟨g5, 5, none⟩ = some (.int .i64 ((off : Int) - stA s off + 1)) := (blk_cell b5_ 5).trans rfl; have f55 := blk_frozen b5_ 5; have c20 : w4.cell? ⟨g2, 0, none⟩ = some (.int .i64 0) := (blk_cell b2_ 0).trans rfl; have f20 := blk_frozen b2_ 0; have c21 : w4.cell? ⟨g2, 1, none⟩ = some (.string ⟨#[]⟩) := (blk_cell b2_ 1).trans rfl; have f21 := blk_frozen b2_ 1; have c22 : w4.cell? ⟨g2, 2, none⟩ = some (.int .i32 0) := (blk_cell b2_ 2).trans rfl; have f22 := blk_frozen b2_ 2; have c23 : w4.cell? ⟨g2, 3, none⟩ = some (.int .i64 0) := (blk_cell b2_ 3).trans rfl; have f23 := blk_frozen b2_ 3; have c24 : w4.cell? ⟨g2, 4, none⟩ = some (.int .i64 0) := (blk_cell b2_ 4).trans rfl; have f24 := blk_frozen b2_ 4; have c25 : w4.cell? ⟨g2, 5, none⟩ = some (.int .i64 0) := (blk_cell b2_ 5).trans rfl; have f25 := blk_frozen b2_ 5; have B2X := Aside0.mk b2_; have B5X := Aside0.mk b5_; clear b2_ b5_))
            refine bodyPost_ret (v := .tuple #[tkV s off 0 ⟨#[]⟩ 0, .int .i64 2]) ((results_ct rfl _ _ g2 33 #[.int .i64 0, .string ⟨#[]⟩, .int .i32 0, .int .i64 (off : Int), .int .i64 (lnA s off), .int .i64 ((off : Int) - stA s off + 1)] (0, 0) _ rfl (blk6 B2X.out rfl _ _ _ _ _ _) Try.underlying33 rfl I33.out).trans rfl) rfl ⟨?_, below6 (below_then HBc.out HBc.out.size (below_then HD3.out.below HD3.out.below.size HD4.out.below)) HF.out.2.2.2.2.2.2.2 _ _ _ _ _ _, keep6 (HKw2.out.trans (KeepBut.of_below (below_then HBwc.out HBwc.out.size (below_then HD3.out.below HD3.out.below.size HD4.out.below)) g none) (.inl rfl)) HF.out.2.2.2.2.2.2.1 _ _ _ _ _ _⟩
            have htok : tokL (rst s off) = .err 2 := by
              unfold tokL
              rw [HN.out, if_neg HNE.out, if_neg (show ¬ (rst s off).head?.any dig = true by rw [HCR.out]; show ¬ dig c = true; rw [HDG.out]; decide), if_neg HWD.out, if_pos H64.out]
            rw [htok]
            exact ⟨⟨_, _, _, rfl⟩, rd6 (HIc.out.below (below_then HD3.out.below HD3.out.below.size HD4.out.below)) HF.out.2.2.2.2.1 _ _ _ _ _ _⟩
          · have h64i : (n : Int) ≤ 64 := by omega
            have H64 := Aside0.mk h64
            clear h64
            go_wp2_with (first
              | (go_at_call 31; (with_reducible refine (lexer_isDigit.calls (c.toNat : Int) (dig c) _ (isDigit_f c)).mono ?_); rw [HDG.out]; rintro e w3 ⟨rfl, hd⟩; have HD3 := Aside0.mk hd; clear hd)
              | (go_at_call 18; (with_reducible refine (lexer_IsWord.calls (t.extract 0 n) _ _ HWF.out).mono ?_); rintro e w4 ⟨rfl, hd⟩; have HD4 := Aside0.mk hd; clear hd; have b5_ := blk_below HB5c.out (below_then HD3.out.below HD3.out.below.size HD4.out.below); have b2_ := blk_below HB2c.out (below_then HD3.out.below HD3.out.below.size HD4.out.below); have c50 : w4.cell? ⟨g5, 0, none⟩ = some (.int .i64 0) := (blk_cell b5_ 0).trans rfl; have f50 := blk_frozen b5_ 0; have c51 : w4.cell? ⟨g5, 1, none⟩ = some (.string ⟨#[]⟩) := (blk_cell b5_ 1).trans rfl; have f51 := blk_frozen b5_ 1; have c52 : w4.cell? ⟨g5, 2, none⟩ = some (.int .i32 0) := (blk_cell b5_ 2).trans rfl; have f52 := blk_frozen b5_ 2; have c53 : w4.cell? ⟨g5, 3, none⟩ = some (.int .i64 (off : Int)) := (blk_cell b5_ 3).trans rfl; have f53 := blk_frozen b5_ 3; have c54 : w4.cell? ⟨g5, 4, none⟩ = some (.int .i64 (lnA s off)) := (blk_cell b5_ 4).trans rfl; have f54 := blk_frozen b5_ 4; have c55 : w4.cell? ⟨g5, 5, none⟩ = some (.int .i64 ((off : Int) - stA s off + 1)) := (blk_cell b5_ 5).trans rfl; have f55 := blk_frozen b5_ 5; have c20 : w4.cell? ⟨g2, 0, none⟩ = some (.int .i64 0) := (blk_cell b2_ 0).trans rfl; have f20 := blk_frozen b2_ 0; have c21 : w4.cell? ⟨g2, 1, none⟩ = some (.string ⟨#[]⟩) := (blk_cell b2_ 1).trans rfl; have f21 := blk_frozen b2_ 1; have c22 : w4.cell? ⟨g2, 2, none⟩ = some (.int .i32 0) := (blk_cell b2_ 2).trans rfl; have f22 := blk_frozen b2_ 2; have c23 : w4.cell? ⟨g2, 3, none⟩ = some (.int .i64 0) := (blk_cell b2_ 3).trans rfl; have f23 := blk_frozen b2_ 3; have c24 : w4.cell? ⟨g2, 4, none⟩ = some (.int .i64 0) := (blk_cell b2_ 4).trans rfl; have f24 := blk_frozen b2_ 4; have c25 : w4.cell? ⟨g2, 5, none⟩ = some (.int .i64 0) := (blk_cell b2_ 5).trans rfl; have f25 := blk_frozen b2_ 5; have B2X := Aside0.mk b2_; have B5X := Aside0.mk b5_; clear b2_ b5_)
              | (go_at_call 23; (with_reducible refine (pass_calls w0 _ g s hs n off ?hle ?hI ?hB).mono ?_); (case hle => have h_ := HTS.out; have h1_ := HMT.out; omega); (case hI => exact Rd.far (Rd.far (HIc.out.below (below_then HD3.out.below HD3.out.below.size HD4.out.below)) (Ne.symm HF.out.2.2.2.1) _) (Ne.symm HF.out.2.2.2.1) _); (case hB => exact below_set (below_set (below_then HBc.out HBc.out.size (below_then HD3.out.below HD3.out.below.size HD4.out.below)) (by have h_ := HF.out; omega)) (by have h_ := HF.out; omega)); rintro e wp ⟨rfl, hIp, hBp, hKp⟩; have HIp := Aside0.mk hIp; have HBp := Aside0.mk hBp; have HKp := Aside0.mk hKp; have b5_ := hKp.blk (blk_put (blk_put (blk_below HB5c.out (below_then HD3.out.below HD3.out.below.size HD4.out.below)) 0 _ rfl) 1 _ rfl) HF.out.2.2.2.1 (by simp); have b2_ := hKp.blk (blk_far (blk_far (blk_below HB2c.out (below_then HD3.out.below HD3.out.below.size HD4.out.below)) HF.out.2.2.2.2.2.1 _) HF.out.2.2.2.2.2.1 _) HF.out.2.2.2.2.1 (by simp); clear hIp hBp hKp; clear c50 f50 c20 f20 c51 f51 c21 f21 c52 f52 c22 f22 c53 f53 c23 f23 c54 f54 c24 f24 c55 f55 c25 f25; have c50 : wp.cell? ⟨g5, 0, none⟩ = some (.int .i64 1) := (blk_cell b5_ 0).trans rfl; have f50 := blk_frozen b5_ 0; have c51 : wp.cell? ⟨g5, 1, none⟩ = some (.string (t.extract 0 n)) := (blk_cell b5_ 1).trans rfl; have f51 := blk_frozen b5_ 1; have c52 : wp.cell? ⟨g5, 2, none⟩ = some (.int .i32 0) := (blk_cell b5_ 2).trans rfl; have f52 := blk_frozen b5_ 2; have c53 : wp.cell? ⟨g5, 3, none⟩ = some (.int .i64 (off : Int)) := (blk_cell b5_ 3).trans rfl; have f53 := blk_frozen b5_ 3; have c54 : wp.cell? ⟨g5, 4, none⟩ = some (.int .i64 (lnA s off)) := (blk_cell b5_ 4).trans rfl; have f54 := blk_frozen b5_ 4; have c55 : wp.cell? ⟨g5, 5, none⟩ = some (.int .i64 ((off : Int) - stA s off + 1)) := (blk_cell b5_ 5).trans rfl; have f55 := blk_frozen b5_ 5; have c20 : wp.cell? ⟨g2, 0, none⟩ = some (.int .i64 0) := (blk_cell b2_ 0).trans rfl; have f20 := blk_frozen b2_ 0; have c21 : wp.cell? ⟨g2, 1, none⟩ = some (.string ⟨#[]⟩) := (blk_cell b2_ 1).trans rfl; have f21 := blk_frozen b2_ 1; have c22 : wp.cell? ⟨g2, 2, none⟩ = some (.int .i32 0) := (blk_cell b2_ 2).trans rfl; have f22 := blk_frozen b2_ 2; have c23 : wp.cell? ⟨g2, 3, none⟩ = some (.int .i64 0) := (blk_cell b2_ 3).trans rfl; have f23 := blk_frozen b2_ 3; have c24 : wp.cell? ⟨g2, 4, none⟩ = some (.int .i64 0) := (blk_cell b2_ 4).trans rfl; have f24 := blk_frozen b2_ 4; have c25 : wp.cell? ⟨g2, 5, none⟩ = some (.int .i64 0) := (blk_cell b2_ 5).trans rfl; have f25 := blk_frozen b2_ 5; have B2P := Aside0.mk b2_; clear b2_ b5_))
            refine bodyPost_ret (v := .tuple #[tkV s off 1 (t.extract 0 n) 0, .int .i64 0]) ((results_ct rfl _ _ g2 33 #[.int .i64 1, .string (t.extract 0 n), .int .i32 0, .int .i64 (off : Int), .int .i64 (lnA s off), .int .i64 ((off : Int) - stA s off + 1)] (0, 0) _ rfl (blk6 B2P.out rfl _ _ _ _ _ _) Try.underlying33 rfl I33.out).trans rfl) rfl ⟨?_, below6 HBp.out HF.out.2.2.2.2.2.2.2 _ _ _ _ _ _, keep6 ((keep_far (keep_far (HKw2.out.trans (KeepBut.of_below (below_then HBwc.out HBwc.out.size (below_then HD3.out.below HD3.out.below.size HD4.out.below)) g none) (.inl rfl)) (by have h_ := HF.out; show _ ≤ g5; omega) _) (by have h_ := HF.out; show _ ≤ g5; omega) _).trans HKp.out (.inl rfl)) HF.out.2.2.2.2.2.2.1 _ _ _ _ _ _⟩
            have htok : tokL (rst s off) = .ok 1 n 0 := by
              unfold tokL
              rw [HN.out, if_neg HNE.out, if_neg (show ¬ (rst s off).head?.any dig = true by rw [HCR.out]; show ¬ dig c = true; rw [HDG.out]; decide), if_neg HWD.out, if_neg H64.out]
            rw [htok, ext_ext s t off n HTE.out HMT.out]
            exact ⟨rfl, rd6 HIp.out HF.out.2.2.2.2.1 _ _ _ _ _ _⟩

end Go.Proofs.Ytbmabnmidacpdaa.L
