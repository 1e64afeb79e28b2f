import Derived.Test.YtbmabnmidacpdaaProg
import Derived.Below
import Derived.Deep.Draws
import Derived.Deep.AppendLies
import Derived.Maps.AppendAt
import Derived.OwnWalk
import Derived.Laws.BytesArg
import Derived.Laws.MakeOwn
import Derived.Laws.OwnMore
import Derived.Deep.OwnRows
import Derived.Tactics
import Derived.Lib.ConvBytes
import Derived.Laws.Slices
import Derived.WalkKit
import Derived.KernelRfl
import Derived.RowKit3
import Derived.Deep.LoopGhost
import Derived.Deep.QuietTactic
import Derived.BigQuiet
import Derived.WideLaws
import Derived.Deep.DeepCutAuto
import Derived.Deep.CutBlock
import Derived.Deep.RegionHeld3
import Derived.Laws.Rows
import Derived.Lib.AppendStr
import Derived.ArgAppend
import Derived.Laws.IdiomCopy
import Derived.OrdersHeld
import Derived.Laws.BitsLemmas
import Derived.RowKit
import Derived.Test.YtbmabnmidacpdaaWWords
import Derived.Test.YtbmabnmidacpdaaWLast
import Derived.Test.YtbmabnmidacpdaaWTab
import Derived.Test.YtbmabnmidacpdaaWQPut
import Derived.Test.YtbmabnmidacpdaaWApart
import Derived.Test.YtbmabnmidacpdaaWArr
import Derived.Test.YtbmabnmidacpdaaWZeros
import Derived.Test.YtbmabnmidacpdaaWFoot
import Derived.Test.YtbmabnmidacpdaaWKept
import Derived.Test.YtbmabnmidacpdaaWShare
import Derived.Test.YtbmabnmidacpdaaWN
import Derived.Test.YtbmabnmidacpdaaWEqStruct
import Derived.Test.YtbmabnmidacpdaaWGuard
import Derived.Test.YtbmabnmidacpdaaWNEv
import Derived.Test.YtbmabnmidacpdaaWMore
import Derived.Test.YtbmabnmidacpdaaX1
import Derived.Test.YtbmabnmidacpdaaX2
import Derived.Test.YtbmabnmidacpdaaX3
import Derived.Test.YtbmabnmidacpdaaX4
import Derived.Test.YtbmabnmidacpdaaSh
import Derived.Test.YtbmabnmidacpdaaLxA
import Derived.Test.YtbmabnmidacpdaaLxB
import Derived.Test.YtbmabnmidacpdaaLxC
import Derived.Test.YtbmabnmidacpdaaLxD
import Derived.Test.YtbmabnmidacpdaaLxP
import Derived.Test.YtbmabnmidacpdaaHw
import Derived.Test.YtbmabnmidacpdaaLxE
import Derived.Test.YtbmabnmidacpdaaLxS
import Derived.Test.YtbmabnmidacpdaaLxT
import Derived.Test.YtbmabnmidacpdaaLxV
import Derived.Test.YtbmabnmidacpdaaLxU
import Derived.Test.YtbmabnmidacpdaaLxW
import Derived.DataShut
import Derived.Deep.RegionLawGrows
import Derived.Deep.Upon
import Derived.Deep.MidRow
namespace Go.Proofs.Ytbmabnmidacpdaa.L
open Go.RowKit Go.Proofs.Ytbmabnmidacpdaa.X Go.Proofs.YtbmabnmidacpdaaW.PrintWords Go.Proofs.YtbmabnmidacpdaaW.PrintLast Go.Proofs.YtbmabnmidacpdaaW.PrintMore
attribute [local go_sem] max2_int min2_int max_two min_two max_three min_three max_four min_four   -- for this text's walks alone
set_option linter.unusedVariables false
set_option linter.unusedSimpArgs false
/-! The same tokens, but for their places. -/
def sameC (x y : S33) : Prop := x.f0 = y.f0 ∧ x.f1.toList = y.f1.toList ∧ x.f2 = y.f2
theorem sameC_refl (x : S33) : sameC x x := And.intro rfl (And.intro rfl rfl)
theorem rd33 {l : List S33} {j : Nat} (h : j < l.length) : rd_T33 l (j : Int) = l[j] := by
  unfold rd_T33
  rw [Int.toNat_natCast, List.getD_eq_getElem?_getD, List.getElem?_eq_getElem h]
  rfl
theorem same_l (a b : List S33) (hl : a.length = b.length) (hz : a.length ≤ 1000000000) (hs : ∀ (j : Nat) (h1 : j < a.length) (h2 : j < b.length), sameC a[j] b[j]) : ∀ (m j : Nat), j + m = a.length → brazierref07_Same.l0 (m + 1) a b (a.length : Int) (j : Int) = some true := by
  intro m
  induction m with
  | zero =>
    intro j h
    unfold brazierref07_Same.l0
    rw [if_neg (by omega)]
  | succ m ih =>
    intro j h
    have hj : j < a.length := by omega
    have hj2 : j < b.length := by omega
    obtain ⟨h1, h2, h3⟩ := hs j hj hj2
    unfold brazierref07_Same.l0
    rw [if_pos (by omega), if_pos (by omega), if_pos (by omega), if_pos (by omega), rd33 hj, rd33 hj2, if_pos h1, if_pos h2, if_pos h3]
    have e1 : wrap64 ((j : Int) + 1) = ((j + 1 : Nat) : Int) := by rw [w64 _ (by omega) (by omega)]; rfl
    rw [e1]
    exact ih (j + 1) (by omega)
theorem same_calls (A0 : Option Addr) (c0 : Nat) (l0 : List S33) (A1 : Option Addr) (c1 : Nat) (l1 : List S33) (n : Nat) (w : World) (hn0 : l0.length = n) (hn1 : l1.length = n) (hr0 : Kd.C k33 w A0 n l0) (hc0 : n ≤ c0) (hr1 : Kd.C k33 w A1 n l1) (hc1 : n ≤ c1) (hz : n ≤ 1000000000) (hs : ∀ (j : Nat) (h1 : j < l0.length) (h2 : j < l1.length), sameC l0[j] l1[j]) :
    Calls Try.prog 13 #[.slice A0 n c0, .slice A1 n c1] w fun e w' => e = .returned (.bool true) ∧ Drawn0 w w' := by
  subst hn0
  have h := brazierref07_Same.calls (l0.length + 1) A0 c0 l0 A1 c1 l1 true w hr0 hc0 (by rw [hn1]; exact hr1) (by rw [hn1]; exact hc1) (by
    unfold brazierref07_Same.f
    rw [if_pos (by rw [hn1])]
    exact same_l l0 l1 hn1.symm hz hs l0.length 0 (by omega))
  rw [hn1] at h
  exact h
/-! Where an error stands. -/
theorem lexP_off : ∀ (k : Nat) (l : List UInt8) (o : Nat), l.length < k → ∀ {c : Int} {off : Nat}, lexP l o = .err c off → off ≤ o + l.length ∧ (c = 2 ∨ c = 10 ∨ c = 11 ∨ c = 12) := by
  intro k
  induction k with
  | zero => intro l o h; omega
  | succ k ih =>
    intro l o h c off he
    have hb := gap_bd l
    by_cases h0 : gapL l < 0
    · rw [lexP_err o h0] at he
      injection he with h1 h2
      omega
    · by_cases h1 : 0 < gapL l
      · rw [lexP_gap o h1] at he
        have := ih _ _ (by rw [List.length_drop]; omega) he
        rw [List.length_drop] at this
        omega
      · by_cases h2 : l = []
        · subst h2
          cases he
        · cases ht : tokL l with
          | err e =>
            rw [lexP_terr o (by omega) h2 ht] at he
            injection he with h3 h4
            have := tok_err ht
            omega
          | ok kd n v =>
            rw [lexP_tok o (by omega) h2 ht] at he
            have hn := tok_bd ht
            cases hr : lexP (l.drop n) (o + n) with
            | ok m => rw [hr] at he; cases he
            | err e2 o2 =>
              rw [hr] at he
              injection he with h3 h4
              have := ih _ _ (by rw [List.length_drop]; omega) hr
              rw [List.length_drop] at this
              omega
theorem lexP_len : ∀ (k : Nat) (l : List UInt8) (o : Nat), l.length < k → ∀ {m : List T}, lexP l o = .ok m → m.length ≤ l.length := by
  intro k
  induction k with
  | zero => intro l o h; omega
  | succ k ih =>
    intro l o h m he
    have hb := gap_bd l
    by_cases h0 : gapL l < 0
    · rw [lexP_err o h0] at he; cases he
    · by_cases h1 : 0 < gapL l
      · rw [lexP_gap o h1] at he
        have := ih _ _ (by rw [List.length_drop]; omega) he
        rw [List.length_drop] at this
        omega
      · by_cases h2 : l = []
        · subst h2
          injection he with he
          subst he
          exact Nat.le_refl _
        · cases ht : tokL l with
          | err e => rw [lexP_terr o (by omega) h2 ht] at he; cases he
          | ok kd n v =>
            rw [lexP_tok o (by omega) h2 ht] at he
            have hn := tok_bd ht
            cases hr : lexP (l.drop n) (o + n) with
            | err e2 o2 => rw [hr] at he; cases he
            | ok m2 =>
              rw [hr] at he
              injection he with he
              subst he
              have := ih _ _ (by rw [List.length_drop]; omega) hr
              rw [List.length_drop] at this
              simp only [List.length_cons]
              omega
theorem lexA_off {l : List UInt8} (hl : l.length ≤ 65536) {c : Int} {off : Nat} (h : lexA l = .err c off) : off ≤ l.length ∧ (c = 2 ∨ c = 10 ∨ c = 11 ∨ c = 12) := by
  rw [lexA_eq, if_neg (by omega)] at h
  have := lexP_off _ l 0 (Nat.lt_succ_self _) h
  omega
theorem lexA_len {l : List UInt8} (hl : l.length ≤ 65536) {m : List T} (h : lexA l = .ok m) : m.length ≤ l.length := by
  rw [lexA_eq, if_neg (by omega)] at h
  exact lexP_len _ l 0 (Nat.lt_succ_self _) h
theorem rall_ok (s : ByteArray) (w : World) (hs : s.size ≤ 1000000000) {l : List T} (h : lexA s.data.toList = .ok l) :
    Calls Try.prog 12 #[.string s] w fun e w' => ∃ A c, e = .returned (.tuple #[.slice A l.length c, .int .i64 0, .int .i64 0]) ∧ l.length ≤ c ∧ Kd.R k33 33 w' w.heap.size (fun _ => True) (.slice A l.length c) (l.map (tk33 s)) ∧ Below w.heap.size w w' :=
  (rall_calls s w hs).mono fun e w' hp => by
    rw [h] at hp
    obtain ⟨⟨v, he, hr⟩, hb⟩ := hp
    obtain ⟨A, c, rfl, hc, _⟩ := Kd.R_reads hr
    rw [List.length_map] at he hc hr
    exact ⟨A, c, he, hc, hr, hb⟩
theorem rall_err (s : ByteArray) (w : World) (hs : s.size ≤ 1000000000) {c : Int} {off : Nat} (h : lexA s.data.toList = .err c off) :
    Calls Try.prog 12 #[.string s] w fun e w' => e = .returned (.tuple #[.slice none 0 0, .int .i64 c, .int .i64 (off : Int)]) ∧ Below w.heap.size w w' :=
  (rall_calls s w hs).mono fun e w' hp => by
    rw [h] at hp
    exact hp
set_option maxHeartbeats 16000000 in
set_option maxRecDepth 100000 in
theorem lall_calls (s : ByteArray) (w : World) (mx : Int) (hm : w.cell? ⟨0, 0, none⟩ = some (.int .i64 mx)) (hs : s.size ≤ 140737488351232) :
    Calls Try.prog 3 #[.string s] w fun e w' => e = .returned (.bool true) ∧ Below w.heap.size w w' := by
  have I26 : Aside0 ((Try.prog.info? 26).map (·.size) = some 3) := ⟨by kernel_rfl⟩
  obtain ⟨t, ht⟩ : ∃ t, cutB s = t := ⟨_, rfl⟩
  have ht2 : t.size ≤ 2000 := by rw [← ht]; exact cut_size s
  have hts : t.size ≤ 1000000000 := by omega
  have HT := Aside0.mk ht
  have HM := Aside0.mk hm
  clear ht hm hs
  cases hr : lexA t.data.toList with
  | err c off =>
    have hoff := lexA_off (by rw [slen]; omega) hr
    rw [slen] at hoff
    have HR := Aside0.mk hr
    have HOF := Aside0.mk hoff.1
    have qc : (c != c) = false := by simp
    have qc0 : (c != 0) = true := by rw [bne_iff_ne]; omega
    have qc1 : (c == 0) = false := by rw [beq_eq_false_iff_ne]; omega
    have keq := fun w => eq26 w (off : Int) (lnA t off) ((off : Int) - stA t off + 1)
    clear hr hoff
    go_enter Try.func3, Try.ntmps3
    go_wp2_with (first
      | (go_at_call 10; (with_reducible refine (cut_calls s _).mono ?_); rw [HT.out]; rintro e w1 ⟨rfl, hb⟩; have HB1 := Aside0.mk hb; clear hb)
      | (go_at_call 11; (with_reducible refine (all_err t _ mx (MXb HM.out HB1.out) hts HR.out).mono ?_); rintro e w2 ⟨rfl, hb⟩; have HB2 := Aside0.mk (below_then HB1.out HB1.out.size hb); clear hb)
      | ((with_reducible refine gate_dst (N := 5) rfl ?_); refine box_event ?hg (N := 5) ?hd (cs := z3) (t := 26) ?hr ?_; (case hd => rfl); (case hg => rfl); (case hr => exact alloc26 _ _ _ _ _ _); intro g5 hg_ wb5 hbox_ hba_; have BZ5 := Aside0.mk hbox_; have HZ5 := Aside0.mk hba_; have GZ5 := Aside0.mk hg_; clear hg_ hbox_ hba_)
      | ((with_reducible refine gate_op (.store 26 (.tmp 5) (.tmp 18)) rfl ?_); refine put_row rfl 26 (.tmp 5) (.tmp 18) rfl g5 (by rfl) 26 z3 #[.int .i64 (off : Int), .int .i64 (lnA t off), .int .i64 ((off : Int) - stA t off + 1)] (by rfl) BZ5.out I26.out rfl (by simp [Value.oneCell']) ?_; intro wp5 hb_ hk_ hbl_ hsz_; have BP5 := Aside0.mk hb_; have KP5 := Aside0.mk hk_; have QP5 := Aside0.mk hbl_; clear hb_ hk_ hbl_ hsz_; have HBP5 := Aside0.mk ((below_then HB2.out HB2.out.size HZ5.out).trans (QP5.out _ (by rw [GZ5.out]; exact HB2.out.size))))
      | (go_at_call 12; (with_reducible refine (rall_err t _ hts HR.out).mono ?_); rintro e w3 ⟨rfl, hb⟩; have HB3 := Aside0.mk (below_then HBP5.out HBP5.out.size hb); have B53 := Aside0.mk (blk_below BP5.out hb); clear hb)
      | (go_at_call 13; (with_reducible refine (same_calls none 0 [] none 0 [] 0 _ rfl rfl (Kd.C_nil _ _) (Nat.le_refl _) (Kd.C_nil _ _) (Nat.le_refl _) (by decide) (fun j h => absurd h (by simp))).mono ?_); rintro e w4 ⟨rfl, hd⟩; have HB4 := Aside0.mk (below_then HB3.out HB3.out.size hd.below); have B54 := Aside0.mk (blk_below B53.out hd.below); clear hd))
    go_loopg [36] 1 (fun kq v wr => v = .int .i64 0 ∧ Aside0 (Drawn0 w4 wr))
    case atStart => exact ⟨rfl, ⟨Drawn0.refl _⟩⟩
    case round =>
      obtain ⟨rfl, HDJ⟩ := hrel
      have HB5 := Aside0.mk (below_then HB4.out HB4.out.size HDJ.out.below)
      have B5J := Aside0.mk (blk_below B54.out HDJ.out.below)
      go_wp2_with (first
        | ((with_reducible refine gate_dst (N := 10) rfl ?_); refine box_event ?hg (N := 10) ?hd (cs := z3) (t := 26) ?hr ?_; (case hd => rfl); (case hg => rfl); (case hr => exact alloc26 _ _ _ _ _ _); intro ga hg_ wba hbox_ hba_; have BZa := Aside0.mk hbox_; have HZa := Aside0.mk hba_; have GZa := Aside0.mk hg_; clear hg_ hbox_ hba_)
        | ((with_reducible refine gate_op (.store 26 (.tmp 10) (.tmp 51)) rfl ?_); refine put_row rfl 26 (.tmp 10) (.tmp 51) rfl ga (by rfl) 26 z3 #[.int .i64 0, .int .i64 0, .int .i64 0] (by rfl) BZa.out I26.out rfl (by simp [Value.oneCell']) ?_; intro wpa hb_ hk_ hbl_ hsz_; have BPa := Aside0.mk hb_; have KPa := Aside0.mk hk_; have QPa := Aside0.mk hbl_; clear hb_ hk_ hbl_ hsz_; have HBPa := Aside0.mk ((below_then HB5.out HB5.out.size HZa.out).trans (QPa.out _ (by rw [GZa.out]; exact HB5.out.size))))
        | (go_at_call 14; (with_reducible refine (refat_calls t (off : Int) off _ hts (by have h_ := HOF.out; omega)).mono ?_); unfold plV; rintro e w6 ⟨rfl, hb⟩; have HB6 := Aside0.mk (below_then HBPa.out HBPa.out.size hb); have B56 := Aside0.mk (blk_below (KPa.out.blk (blk_below B5J.out HZa.out) (Nat.ne_of_lt (by rw [GZa.out]; exact blk_lt B5J.out)) (by simp)) hb); have BA6 := Aside0.mk (blk_below BPa.out hb); clear hb)
        | ((with_reducible refine gate_op (.store 26 (.tmp 10) (.tmp 56)) rfl ?_); refine put_row rfl 26 (.tmp 10) (.tmp 56) rfl ga (by rfl) 26 #[.int .i64 0, .int .i64 0, .int .i64 0] #[.int .i64 (off : Int), .int .i64 (lnA t off), .int .i64 ((off : Int) - stA t off + 1)] (by rfl) BA6.out I26.out rfl (by simp [Value.oneCell']) ?_; intro wpb hb_ hk_ hbl_ hsz_; have BPb := Aside0.mk hb_; have KPb := Aside0.mk hk_; have QPb := Aside0.mk hbl_; clear hb_ hk_ hbl_ hsz_; have HBPb := Aside0.mk (HB6.out.trans (QPb.out _ (by rw [GZa.out]; exact HB5.out.size))); have B5b := Aside0.mk (KPb.out.blk B56.out (Nat.ne_of_lt (by rw [GZa.out]; exact blk_lt B5J.out)) (by simp)))
        | ((with_reducible refine gate_op (.load 26 (.tmp 5)) rfl ?_); refine wpList_load_row rfl 26 (.tmp 5) rfl g5 rfl 26 #[.int .i64 (off : Int), .int .i64 (lnA t off), .int .i64 ((off : Int) - stA t off + 1)] (0, 0) _ B5b.out Try.underlying26 rfl I26.out ?_)
        | ((with_reducible refine gate_op (.load 26 (.tmp 10)) rfl ?_); refine wpList_load_row rfl 26 (.tmp 10) rfl ga rfl 26 #[.int .i64 (off : Int), .int .i64 (lnA t off), .int .i64 ((off : Int) - stA t off + 1)] (0, 0) _ BPb.out Try.underlying26 rfl I26.out ?_)
        | (go_at_call 15; (with_reducible refine (lives_calls _ mx (MXb HM.out HBPb.out)).mono ?_); rintro e w8 ⟨rfl, hb⟩; have HB8 := Aside0.mk (below_then HBPb.out HBPb.out.size hb); clear hb))
      go_ret
      exact ⟨rfl, HB8.out⟩
  | ok l =>
    have hl := lexA_len (by rw [slen]; omega) hr
    rw [slen] at hl
    have HR := Aside0.mk hr
    obtain ⟨n, hn⟩ : ∃ n, l.length = n := ⟨_, rfl⟩
    rw [hn] at hl
    have hml : (l.map (tk33 t)).length = n := by rw [List.length_map, hn]
    have HL := Aside0.mk hml
    have HN := Aside0.mk hn
    have hn2 : n ≤ 1000000000 := by omega
    have keq := fun w a b c => eq26 w a b c
    have qnn : ((n : Int) == (n : Int)) = true := beq_self_eq_true _
    clear hr hml hn hl
    go_enter Try.func3, Try.ntmps3
    go_wp2_with (first
      | (go_at_call 10; (with_reducible refine (cut_calls s _).mono ?_); rw [HT.out]; rintro e w1 ⟨rfl, hb⟩; have HB1 := Aside0.mk hb; clear hb)
      | (go_at_call 11; (with_reducible refine (all_ok t _ mx (MXb HM.out HB1.out) hts HR.out).mono ?_); rw [HN.out]; rintro e w2 ⟨A, cp, rfl, hcp, hR, hb⟩; have HB2 := Aside0.mk (below_then HB1.out HB1.out.size hb); have HC2 := Aside0.mk (show Kd.C k33 w2 A n (l.map (tk33 t)) from by have h_ := (Kd.R_reads' hR).2.2; rw [HL.out] at h_; exact h_); clear hb hR)
      | ((with_reducible refine gate_dst (N := 5) rfl ?_); refine box_event ?hg (N := 5) ?hd (cs := z3) (t := 26) ?hr ?_; (case hd => rfl); (case hg => rfl); (case hr => exact alloc26 _ _ _ _ _ _); intro g5 hg_ wb5 hbox_ hba_; have BZ5 := Aside0.mk hbox_; have HZ5 := Aside0.mk hba_; have GZ5 := Aside0.mk hg_; clear hg_ hbox_ hba_)
      | ((with_reducible refine gate_op (.store 26 (.tmp 5) (.tmp 18)) rfl ?_); refine put_row rfl 26 (.tmp 5) (.tmp 18) rfl g5 (by rfl) 26 z3 #[.int .i64 0, .int .i64 0, .int .i64 0] (by rfl) BZ5.out I26.out rfl (by simp [Value.oneCell']) ?_; intro wp5 hb_ hk_ hbl_ hsz_; have BP5 := Aside0.mk hb_; have KP5 := Aside0.mk hk_; have QP5 := Aside0.mk hbl_; clear hb_ hk_ hbl_ hsz_; have HBP5 := Aside0.mk ((below_then HB2.out HB2.out.size HZ5.out).trans (QP5.out _ (by rw [GZ5.out]; exact HB2.out.size))))
      | (go_at_call 12; (with_reducible refine (rall_ok t _ hts HR.out).mono ?_); rw [HN.out]; rintro e w3 ⟨A2, cp2, rfl, hcp2, hR, hb⟩; have HB3 := Aside0.mk (below_then HBP5.out HBP5.out.size hb); have B53 := Aside0.mk (blk_below BP5.out hb); have HC3 := Aside0.mk (Kd.C_below (Kd.C_below HC2.out (HZ5.out.trans (QP5.out _ (by rw [GZ5.out]; exact Nat.le_refl _)))) hb); have HD3 := Aside0.mk (show Kd.C k33 w3 A2 n (l.map (tk33 t)) from by have h_ := (Kd.R_reads' hR).2.2; rw [HL.out] at h_; exact h_); clear hb hR)
      | (go_at_call 13; (with_reducible refine (same_calls A cp (l.map (tk33 t)) A2 cp2 (l.map (tk33 t)) n _ HL.out HL.out HC3.out hcp HD3.out hcp2 hn2 (fun j h1 h2 => sameC_refl _)).mono ?_); rintro e w4 ⟨rfl, hd⟩; have HB4 := Aside0.mk (below_then HB3.out HB3.out.size hd.below); have B54 := Aside0.mk (blk_below B53.out hd.below); have HC4 := Aside0.mk (Kd.C_below HC3.out hd.below); have HD4 := Aside0.mk (Kd.C_below HD3.out hd.below); clear hd))
    go_loopg [36] (n + 1) (fun kq v wr => ∃ j : Nat, v = .int .i64 (j : Int) ∧ Aside0 (n + 1 ≤ j + kq) ∧ Aside0 (j ≤ n) ∧ Aside0 (Drawn0 w4 wr))
    case atStart => exact ⟨0, rfl, ⟨by omega⟩, ⟨by omega⟩, ⟨Drawn0.refl _⟩⟩
    case round =>
      obtain ⟨j, rfl, HJK, HJ, HDJ⟩ := hrel
      cases gk with
      | zero => exact absurd HJK.out (by have h_ := HJ.out; omega)
      | succ k2 =>
        by_cases hj : j < n
        · obtain ⟨ad, e_, _, _, _, x3, x4, x5⟩ := at_T33 (Kd.C_below HC4.out HDJ.out.below) (j : Int) (by omega) (by omega)
          subst e_
          obtain ⟨ad2, e_, _, _, _, y3, y4, y5⟩ := at_T33 (Kd.C_below HD4.out HDJ.out.below) (j : Int) (by omega) (by omega)
          subst e_
          rw [Int.toNat_natCast] at x3 x4 x5 y3 y4 y5
          have q1 : ((j : Int) < (n : Int)) = True := by apply eq_true; omega
          have q2 : (0 : Int) ≤ (j : Int) := by omega
          have HJ9 := Aside0.mk hj
          have HEW : Aside0 (wrap64 ((j : Int) + 1) = ((j + 1 : Nat) : Int)) := ⟨by rw [w64 _ (by omega) (by omega)]; rfl⟩
          clear hj
          go_wp2
          go_quiet (fail)
          go_wp2
          go_roundg k2
          case measure => omega
          case rel => exact ⟨j + 1, by first | (rw [HEW.out]; done) | rfl | go_num, ⟨by have h_ := HJK.out; omega⟩, ⟨by have h_ := HJ9.out; omega⟩, ⟨HDJ.out.step _⟩⟩
        · obtain rfl : j = n := by have h_ := HJ.out; omega
          clear hj
          have q1 : ((j : Int) < (j : Int)) = False := by apply eq_false; omega
          have HB5 := Aside0.mk (below_then HB4.out HB4.out.size HDJ.out.below)
          have B5J := Aside0.mk (blk_below B54.out HDJ.out.below)
          go_wp2_with (first
            | ((with_reducible refine gate_dst (N := 10) rfl ?_); refine box_event ?hg (N := 10) ?hd (cs := z3) (t := 26) ?hr ?_; (case hd => rfl); (case hg => rfl); (case hr => exact alloc26 _ _ _ _ _ _); intro ga hg_ wba hbox_ hba_; have BZa := Aside0.mk hbox_; have HZa := Aside0.mk hba_; have GZa := Aside0.mk hg_; clear hg_ hbox_ hba_)
            | ((with_reducible refine gate_op (.store 26 (.tmp 10) (.tmp 51)) rfl ?_); refine put_row rfl 26 (.tmp 10) (.tmp 51) rfl ga (by rfl) 26 z3 #[.int .i64 0, .int .i64 0, .int .i64 0] (by rfl) BZa.out I26.out rfl (by simp [Value.oneCell']) ?_; intro wpa hb_ hk_ hbl_ hsz_; have BPa := Aside0.mk hb_; have KPa := Aside0.mk hk_; have QPa := Aside0.mk hbl_; clear hb_ hk_ hbl_ hsz_; have HBPa := Aside0.mk ((below_then HB5.out HB5.out.size HZa.out).trans (QPa.out _ (by rw [GZa.out]; exact HB5.out.size))))
            | ((with_reducible refine gate_op (.load 26 (.tmp 5)) rfl ?_); refine wpList_load_row rfl 26 (.tmp 5) rfl g5 rfl 26 #[.int .i64 0, .int .i64 0, .int .i64 0] (0, 0) _ (KPa.out.blk (blk_below B5J.out HZa.out) (Nat.ne_of_lt (by rw [GZa.out]; exact blk_lt B5J.out)) (by simp)) Try.underlying26 rfl I26.out ?_)
            | ((with_reducible refine gate_op (.load 26 (.tmp 10)) rfl ?_); refine wpList_load_row rfl 26 (.tmp 10) rfl ga rfl 26 #[.int .i64 0, .int .i64 0, .int .i64 0] (0, 0) _ BPa.out Try.underlying26 rfl I26.out ?_)
            | (go_at_call 15; (with_reducible refine (lives_calls _ mx (MXb HM.out HBPa.out)).mono ?_); rintro e w8 ⟨rfl, hb⟩; have HB8 := Aside0.mk (below_then HBPa.out HBPa.out.size hb); clear hb))
          go_ret
          exact ⟨rfl, HB8.out⟩

end Go.Proofs.Ytbmabnmidacpdaa.L
