import Derived.Test.YtbmabnmidacpdaaProg
import Derived.Below
import Derived.Deep.Draws
import Derived.Deep.AppendLies
import Derived.Maps.AppendAt
import Derived.OwnWalk
import Derived.Laws.BytesArg
import Derived.Laws.MakeOwn
import Derived.Laws.OwnMore
import Derived.Deep.OwnRows
import Derived.Tactics
import Derived.Lib.ConvBytes
import Derived.Laws.Slices
import Derived.WalkKit
import Derived.KernelRfl
import Derived.RowKit3
import Derived.IntWalk
import Derived.Deep.LoopGhost
import Derived.Deep.QuietTactic
import Derived.BigQuiet
import Derived.WideLaws
import Derived.Deep.DeepCutAuto
import Derived.Deep.CutBlock
import Derived.Deep.RegionHeld3
import Derived.Laws.Rows
import Derived.Lib.AppendStr
import Derived.ArgAppend
import Derived.Laws.IdiomCopy
import Derived.OrdersHeld
import Derived.Laws.BitsLemmas
import Derived.RowKit
import Derived.Test.YtbmabnmidacpdaaWWords
import Derived.Test.YtbmabnmidacpdaaWLast
import Derived.Test.YtbmabnmidacpdaaWTab
import Derived.Test.YtbmabnmidacpdaaWQPut
import Derived.Test.YtbmabnmidacpdaaWApart
import Derived.Test.YtbmabnmidacpdaaWArr
import Derived.Test.YtbmabnmidacpdaaWZeros
import Derived.Test.YtbmabnmidacpdaaWFoot
import Derived.Test.YtbmabnmidacpdaaWKept
import Derived.Test.YtbmabnmidacpdaaWShare
import Derived.Test.YtbmabnmidacpdaaWN
import Derived.Test.YtbmabnmidacpdaaWEqStruct
import Derived.Test.YtbmabnmidacpdaaWGuard
import Derived.Test.YtbmabnmidacpdaaWNEv
import Derived.Test.YtbmabnmidacpdaaWMore
import Derived.Test.YtbmabnmidacpdaaX1
import Derived.Test.YtbmabnmidacpdaaX2
import Derived.Test.YtbmabnmidacpdaaX3
import Derived.Test.YtbmabnmidacpdaaX4
import Derived.Test.YtbmabnmidacpdaaSh
import Derived.Test.YtbmabnmidacpdaaLxA
import Derived.Test.YtbmabnmidacpdaaLxB
import Derived.Test.YtbmabnmidacpdaaLxC
import Derived.Test.YtbmabnmidacpdaaLxD
import Derived.Test.YtbmabnmidacpdaaLxP
import Derived.Test.YtbmabnmidacpdaaHw
import Derived.Test.YtbmabnmidacpdaaLxE
import Derived.Test.YtbmabnmidacpdaaLxS
import Derived.Test.YtbmabnmidacpdaaLxT
import Derived.Test.YtbmabnmidacpdaaLxV
import Derived.Test.YtbmabnmidacpdaaLxU
import Derived.Test.YtbmabnmidacpdaaLxW
import Derived.Test.YtbmabnmidacpdaaLxX
import Derived.Test.YtbmabnmidacpdaaLxR
import Derived.Test.YtbmabnmidacpdaaLxZ
import Derived.Test.YtbmabnmidacpdaaLyA
import Derived.Test.YtbmabnmidacpdaaLyB
import Derived.Test.YtbmabnmidacpdaaLyD
import Derived.Lib.Builder

import Derived.Lib.UnsafeStr
import Derived.Laws.Externs
import Derived.DataShut
import Derived.Deep.RegionLawGrows
import Derived.Deep.Upon
import Derived.Deep.MidRow
namespace Go.Proofs.Ytbmabnmidacpdaa.L
open Go.RowKit Go.Proofs.Ytbmabnmidacpdaa.X Go.Proofs.YtbmabnmidacpdaaW.PrintWords Go.Proofs.YtbmabnmidacpdaaW.PrintLast Go.Proofs.YtbmabnmidacpdaaW.PrintMore
attribute [local go_sem] max2_int min2_int max_two min_two max_three min_three max_four min_four   -- for this text's walks alone
set_option linter.unusedVariables false
set_option linter.unusedSimpArgs false
/-! LexerLimits: a text of one byte, n times; a number's digits. -/
theorem set_pre {xs : List Int} {c : Int} {j : Nat} (h : ∀ i, i < j → xs[i]? = some c) (hj : j < xs.length) : ∀ i, i < j + 1 → (xs.set j c)[i]? = some c := by
  intro i hi
  rw [List.getElem?_set]
  split
  · rename_i e
    subst e
    first | rfl | rw [if_pos hj]
  · exact h i (by omega)
theorem all_rep {xs : List Int} {c : Int} {n : Nat} (h : ∀ i, i < n → xs[i]? = some c) (hl : n = xs.length) : xs = List.replicate n c := by
  refine List.ext_getElem? fun i => ?_
  rw [List.getElem?_replicate]
  split
  · exact h i (by assumption)
  · rw [List.getElem?_eq_none (by omega)]
theorem own_base2 {w : World} {base : Nat} {g n cap : Nat} {xs : List Int} (h : Kd.R (Kd.int .u8) 5 w base (fun _ => True) (.slice (some ⟨g, 0, none⟩) n cap) xs) : base ≤ g := by
  obtain ⟨_, inner, ho, hr⟩ := h
  exact own_base ho g rfl
theorem xs_small1 (n : Nat) (h1 : 1 ≤ n) (h : n ≤ 64) : ∃ L : List T, lexA (List.replicate n 120) = .ok L ∧ L.length = 1 ∧ ∀ t ∈ L, t.kd = 1 := by
  obtain ⟨m, rfl⟩ : ∃ m, n = m + 1 := ⟨n - 1, by omega⟩
  exact xs_small m h
theorem xs_big1 (n : Nat) (h : 64 < n) : lexA (List.replicate n 120) = .err 2 0 := by
  obtain ⟨m, rfl⟩ : ∃ m, n = m + 1 := ⟨n - 1, by omega⟩
  exact xs_big m h
theorem semis_ok (n : Nat) (h : n ≤ 65536) : ∃ L : List T, lexA (List.replicate n 59) = .ok L ∧ L.length = n := by
  obtain ⟨L, h1, h2⟩ := semis n 0
  exact ⟨L, by rw [lexA_eq, if_neg (by rw [List.length_replicate]; omega)]; exact h1, h2⟩
theorem semis_big (n : Nat) (h : 65536 < n) : lexA (List.replicate n 59) = .err 2 0 := by
  rw [lexA_eq, if_pos (by rw [List.length_replicate]; exact h)]
theorem rd_one {X : ByteArray} {L : List T} (h : L.length = 1) (p : T → Prop) (hp : ∀ t ∈ L, p t) : ∃ t, p t ∧ rd_T33 (L.map (tk33 X)) 0 = tk33 X t := by
  obtain ⟨t, rfl⟩ := List.length_eq_one_iff.1 h
  exact ⟨t, hp t List.mem_cons_self, rfl⟩
theorem rep_str (c : UInt8) (n : Nat) : (strOfNums (List.replicate n (c.toNat : Int))).data.toList = List.replicate n c := by
  unfold strOfNums
  simp
theorem convR {W : World} {base cp n : Nat} {A : Option Addr} {xs : List Int} (h : Kd.R (Kd.int .u8) 5 W base (fun _ => True) (.slice A n cp) xs) : (convert 41 9 (.slice A n cp)).run Try.prog W = .ok (.string (strOfNums xs)) W := by
  obtain ⟨rfl, _, hC⟩ := Kd.R_reads' h
  exact Kd.C_string Try.underlying41 Try.underlying5 Try.underlying9 hC
theorem conv1 (w : World) (x : Nat) : (convert 41 9 (.slice (some ⟨w.heap.size, 0, none⟩) 1 1)).run Try.prog (w.alloc (.cells #[.int .u8 (48 + (x : Int) % 10)] 5)) = .ok (.string ⟨#[dgt x]⟩) (w.alloc (.cells #[.int .u8 (48 + (x : Int) % 10)] 5)) := by
  have h := run_convert_bytes_arg (P := Try.prog) (w.alloc (.cells #[.int .u8 (48 + (x : Int) % 10)] 5)) 41 5 Try.underlying41 Try.underlying5 w.heap.size 0 1 1 [48 + (x : Int) % 10] rfl (fun i hi => by
    obtain rfl : i = 0 := by omega
    exact (blk_cell (blk_new w _) 0).trans rfl) 9 Try.underlying9
  rw [h]
  have e : strOfNums [48 + (x : Int) % 10] = ⟨#[dgt x]⟩ := by
    unfold strOfNums dgt
    rw [List.map_cons, List.map_nil, show (48 + (x : Int) % 10).toNat = 48 + x % 10 by omega]
  rw [e]
theorem dg_zero {K : Nat} (h : DG K 0 []) : K = 0 := by
  have h1 := h.val
  have h2 : numV [] = 0 := rfl
  rw [h2] at h1
  omega
theorem num_big {K : Nat} {s : List UInt8} (h : DG K 0 s) (h0 : s ≠ []) (hk : 2147483647 < K) : lexA s = .err 11 0 := by
  have h1 := h.lex
  rw [if_neg h0, if_pos hk] at h1
  exact h1
theorem num_ok {K : Nat} {s : List UInt8} (h : DG K 0 s) (h0 : s ≠ []) (hk : K ≤ 2147483647) : ∃ L : List T, lexA s = .ok L ∧ L.length = 1 ∧ ∀ t ∈ L, t.v = (K : Int) := by
  have h1 := h.lex
  rw [if_neg h0, if_neg (by omega)] at h1
  exact ⟨_, h1, rfl, by intro t ht; obtain rfl := List.mem_singleton.1 ht; rfl⟩
theorem num_nought {K : Nat} (h : DG K 0 []) : ∃ L : List T, lexA [48] = .ok L ∧ L.length = 1 ∧ ∀ t ∈ L, t.v = (K : Int) := by
  have h1 := h.lex
  rw [if_pos rfl, if_neg (by have h2 := dg_zero h; omega)] at h1
  exact ⟨_, h1, rfl, by intro t ht; obtain rfl := List.mem_singleton.1 ht; rfl⟩
set_option maxHeartbeats 16000000 in
set_option maxRecDepth 100000 in
theorem limits_calls (n0 k0 : Int) (w : World) (mx : Int) (hm : w.cell? ⟨0, 0, none⟩ = some (.int .i64 mx)) (hn0 : (Lit.int .i64 n0).wf = true) (hk0 : (Lit.int .u32 k0).wf = true) :
    Calls Try.prog 6 #[.int .i64 n0, .int .u32 k0] w fun e w' => e = .returned (.bool true) ∧ Below w.heap.size w w' := by
  have I26 : Aside0 ((Try.prog.info? 26).map (·.size) = some 3) := ⟨by kernel_rfl⟩
  have hob : 0 ≤ k0 ∧ k0 ≤ 4294967295 := by
    have h_ := hk0
    simp [Lit.wf, IntKind.min, IntKind.max, IntKind.signed, IntKind.bits] at h_
    exact h_
  obtain ⟨K, rfl⟩ := Int.eq_ofNat_of_zero_le hob.1
  obtain ⟨m1, hm1⟩ : ∃ m1, (if 65539 < n0 then (65539 : Int) else n0) = m1 := ⟨_, rfl⟩
  obtain ⟨n, hn⟩ : ∃ n : Nat, (if 1 < m1 then m1 else (1 : Int)) = (n : Int) := ⟨(if 1 < m1 then m1 else (1 : Int)).toNat, by split <;> omega⟩
  have hnb : 1 ≤ n ∧ n ≤ 65539 := by
    have h1 : m1 ≤ 65539 := by rw [← hm1]; split <;> omega
    constructor
    · have h2 := hn; split at h2 <;> omega
    · have h2 := hn; split at h2 <;> omega
  have HM := Aside0.mk hm
  have HK : Aside0 (K < 4294967296) := ⟨by omega⟩
  have hn1 := hnb.1
  have hn2 := hnb.2
  clear hm hn0 hk0 hob hnb
  go_enter Try.func6, Try.ntmps6
  go_wp2_with (((with_reducible refine gate_dst (N := 23) rfl ?_); refine Kd.R_make (Kd.int .u8) (w0 := w) w.heap.size 5 ?hg (N := 23) ?hd 41 (.tmp 22) (.tmp 22) ?ho (n : Int) ?hx ?hy ?ht (.int .u8 0) 1 ?hi ?hz (by decide) (by decide) (0 : Int) (ok := fun _ => True) (okp := fun _ => True) ?hzero (fun _ h => h) trivial (by omega) (by rw [Int.toNat_natCast]; omega) (Below.refl _ _) (Nat.le_refl _) ?_; (case hg => rfl); (case hd => rfl); (case ho => rfl); (case hx => first | rfl | (go_simp; done)); (case hy => first | rfl | (go_simp; done)); (case ht => kernel_rfl); (case hi => kernel_rfl); (case hz => rfl); (case hzero => exact rfl); rw [Int.toNat_natCast]; intro v1 w1 hR hB1 hgr_ hown_; obtain ⟨g, cp, rfl, hg1_, hg2_, hg3_⟩ := Kd.R_form hR (by rw [List.length_replicate]; omega); rw [List.length_replicate] at hR ⊢; have HR1 := Aside0.mk hR; have HB1 := Aside0.mk hB1; clear hR hB1 hgr_ hown_ hg1_ hg2_ hg3_))
  clear hm1 hn
  go_loopg [26] (n + 1) (fun kq v wr => ∃ (j : Nat) (xs : List Int), v = .int .i64 (j : Int) ∧ Aside0 (n + 1 ≤ j + kq) ∧ Aside0 (j ≤ n) ∧ Aside0 (∀ i, i < j → xs[i]? = some 120) ∧ Aside0 (Kd.R (Kd.int .u8) 5 wr w.heap.size (fun _ => True) (.slice (some ⟨g, 0, none⟩) n cp) xs) ∧ Aside0 (Below w.heap.size w wr))
  case atStart => exact ⟨0, _, rfl, ⟨by omega⟩, ⟨by omega⟩, ⟨fun i h => by omega⟩, ⟨HR1.out⟩, ⟨HB1.out⟩⟩
  case round =>
    obtain ⟨j, xs, rfl, HJK, HJ, HX, HR, HB⟩ := hrel
    cases gk with
    | zero => exact absurd HJK.out (by have h_ := HJ.out; omega)
    | succ k1 =>
      by_cases hj : j < n
      · have q1 : ((j : Int) < (n : Int)) = True := by apply eq_true; omega
        obtain ⟨hcell, hfro⟩ := Kd.R_celln (d := (0 : Int)) HR.out (j : Int) (by omega) (by omega)
        rw [Int.toNat_natCast] at hcell hfro
        have HEW : Aside0 (wrap64 ((j : Int) + 1) = ((j + 1 : Nat) : Int)) := ⟨by rw [w64 _ (by omega) (by omega)]; rfl⟩
        have HJ9 := Aside0.mk hj
        clear hj
        go_wp2
        go_roundg k1
        case measure => omega
        case rel =>
          have hp := Kd.R_putn HR.out (j : Int) 120
          rw [Int.toNat_natCast] at hp
          have hxl := (Kd.R_reads' HR.out).1
          exact ⟨j + 1, _, by first | (rw [HEW.out]; done) | rfl | go_num, ⟨by have h_ := HJK.out; omega⟩, ⟨by have h_ := HJ9.out; omega⟩, ⟨set_pre HX.out (by have h_ := HJ9.out; omega)⟩, ⟨hp⟩, ⟨below_set HB.out (own_base2 HR.out)⟩⟩
      · obtain rfl : n = j := by have h_ := HJ.out; omega
        clear hj
        have q1 : ((n : Int) < (n : Int)) = False := by apply eq_false; omega
        have hall := all_rep HX.out (Kd.R_reads' HR.out).1
        subst hall
        obtain ⟨X, hX_⟩ : ∃ X, strOfNums (List.replicate n (120 : Int)) = X := ⟨_, rfl⟩
        have hXl : X.data.toList = List.replicate n 120 := by rw [← hX_]; exact rep_str 120 n
        have hcvX := convR HR.out
        rw [hX_] at hcvX
        have HXs : Aside0 (X.size ≤ 1000000000) := ⟨by rw [← slen, hXl, List.length_replicate]; omega⟩
        clear hX_
        by_cases h64 : n ≤ 64
        · obtain ⟨L, hlx, hL1, hLk⟩ := xs_small1 n hn1 h64
          have HRX : Aside0 (lexA X.data.toList = .ok L) := ⟨by rw [hXl]; exact hlx⟩
          have HLL := Aside0.mk hL1
          obtain ⟨t1, ht1, hrd⟩ := rd_one (X := X) hL1 (fun t => t.kd = 1) hLk
          have q64 : (n : Int) ≤ 64 := by omega
          have q64f : ((64 : Int) < (n : Int)) = False := eq_false (by omega)
          have HT1 := Aside0.mk ht1
          have HRD := Aside0.mk hrd
          clear hlx hL1 hLk hXl ht1 hrd
          go_upto_region 9 with (first
            | (go_at_call 11; (with_reducible refine (all_ok X _ mx (MXb HM.out HB.out) HXs.out HRX.out).mono ?_); rw [HLL.out]; rintro e wa ⟨Aa, ca, rfl, hca, hR, hb⟩; have HBa := Aside0.mk (below_then HB.out HB.out.size hb); have HAa := Aside0.mk hb; have HCa := Aside0.mk (show Kd.C k33 wa Aa 1 (L.map (tk33 X)) from by have h_ := (Kd.R_reads' hR).2.2; rw [List.length_map, HLL.out] at h_; exact h_); clear hb hR)
            | ((with_reducible refine gate_dst (N := 9) rfl ?_); refine box_event ?hg (N := 9) ?hd (cs := z3) (t := 26) ?hr ?_; (case hd => rfl); (case hg => rfl); (case hr => exact alloc26 _ _ _ _ _ _); intro ga hg_ wba hbox_ hba_; have BZa := Aside0.mk hbox_; have HZa := Aside0.mk hba_; have GZa := Aside0.mk hg_; clear hg_ hbox_ hba_)
            | ((with_reducible refine gate_op (.store 26 (.tmp 9) (.tmp 39)) rfl ?_); refine put_row rfl 26 (.tmp 9) (.tmp 39) rfl ga (by rfl) 26 z3 #[.int .i64 0, .int .i64 0, .int .i64 0] (by rfl) BZa.out I26.out rfl (by simp [Value.oneCell']) ?_; intro wpa hb_ hk_ hbl_ hsz_; have BPa := Aside0.mk hb_; have KPa := Aside0.mk hk_; have QPa := Aside0.mk hbl_; clear hb_ hk_ hbl_ hsz_; have HBPa := Aside0.mk ((below_then HBa.out HBa.out.size HZa.out).trans (QPa.out _ (by rw [GZa.out]; exact HBa.out.size))); have HSa := Aside0.mk (HZa.out.trans (QPa.out _ (Nat.le_of_eq GZa.out.symm)))))
          obtain ⟨ad, e_, x0, _⟩ := at_T33 (Kd.C_below HCa.out HSa.out) 0 (by decide) (by decide)
          subst e_
          rw [HRD.out, show (tk33 X t1).f0 = 1 from HT1.out] at x0
          have x0 : wpa.cell? ad = some (.int .i64 1) := x0
          have HR1 := Aside0.mk (Kd.R_below HR.out (below_then HAa.out HAa.out.size HSa.out))
          have HB1 := Aside0.mk HBPa.out
          clear HR HB HJK HJ HX
          go_wp2
          try clear x0
          try clear hcvX
          go_loopg [68] (n + 1) (fun kq v wr => ∃ (j : Nat) (xs : List Int), v = .int .i64 (j : Int) ∧ Aside0 (n + 1 ≤ j + kq) ∧ Aside0 (j ≤ n) ∧ Aside0 (∀ i, i < j → xs[i]? = some 59) ∧ Aside0 (Kd.R (Kd.int .u8) 5 wr w.heap.size (fun _ => True) (.slice (some ⟨g, 0, none⟩) n cp) xs) ∧ Aside0 (Below w.heap.size w wr))
          case atStart => exact ⟨0, _, rfl, ⟨by omega⟩, ⟨by omega⟩, ⟨fun i h => by omega⟩, ⟨HR1.out⟩, ⟨HB1.out⟩⟩
          case round =>
            obtain ⟨j, xs, rfl, HJK, HJ, HX, HR, HB⟩ := hrel
            cases gk with
            | zero => exact absurd HJK.out (by have h_ := HJ.out; omega)
            | succ k1 =>
              by_cases hj : j < n
              · have q1 : ((j : Int) < (n : Int)) = True := by apply eq_true; omega
                obtain ⟨hcell, hfro⟩ := Kd.R_celln (d := (0 : Int)) HR.out (j : Int) (by omega) (by omega)
                rw [Int.toNat_natCast] at hcell hfro
                have HEW : Aside0 (wrap64 ((j : Int) + 1) = ((j + 1 : Nat) : Int)) := ⟨by rw [w64 _ (by omega) (by omega)]; rfl⟩
                have HJ9 := Aside0.mk hj
                clear hj
                go_wp2
                go_roundg k1
                case measure => omega
                case rel =>
                  have hp := Kd.R_putn HR.out (j : Int) 59
                  rw [Int.toNat_natCast] at hp
                  have hxl := (Kd.R_reads' HR.out).1
                  exact ⟨j + 1, _, by first | (rw [HEW.out]; done) | rfl | go_num, ⟨by have h_ := HJK.out; omega⟩, ⟨by have h_ := HJ9.out; omega⟩, ⟨set_pre HX.out (by have h_ := HJ9.out; omega)⟩, ⟨hp⟩, ⟨below_set HB.out (own_base2 HR.out)⟩⟩
              · obtain rfl : n = j := by have h_ := HJ.out; omega
                clear hj
                have q1 : ((n : Int) < (n : Int)) = False := by apply eq_false; omega
                have hall := all_rep HX.out (Kd.R_reads' HR.out).1
                subst hall
                obtain ⟨Y, hX_⟩ : ∃ X, strOfNums (List.replicate n (59 : Int)) = X := ⟨_, rfl⟩
                have hYl : Y.data.toList = List.replicate n 59 := by rw [← hX_]; exact rep_str 59 n
                have hcvY := convR HR.out
                rw [hX_] at hcvY
                have HYs : Aside0 (Y.size ≤ 1000000000) := ⟨by rw [← slen, hYl, List.length_replicate]; omega⟩
                clear hX_
                obtain ⟨M, hmx, hM1⟩ := semis_ok n (by omega)
                have HRY : Aside0 (lexA Y.data.toList = .ok M) := ⟨by rw [hYl]; exact hmx⟩
                have HLM := Aside0.mk hM1
                have q65 : (n : Int) ≤ 65536 := by omega
                have q65f : ((65536 : Int) < (n : Int)) = False := eq_false (by omega)
                clear hmx hM1 hYl
                go_wp2_with (first
                  | (go_at_call 11; (with_reducible refine (all_ok Y _ mx (MXb HM.out HB.out) HYs.out HRY.out).mono ?_); rw [HLM.out]; rintro e wb ⟨Ab, cb, rfl, hcb, hR, hb⟩; have HBb := Aside0.mk (below_then HB.out HB.out.size hb); have HAb := Aside0.mk hb; have HCb := Aside0.mk (show Kd.C k33 wb Ab n (M.map (tk33 Y)) from by have h_ := (Kd.R_reads' hR).2.2; rw [List.length_map, HLM.out] at h_; exact h_); clear hb hR)
                  | ((with_reducible refine gate_dst (N := 13) rfl ?_); refine box_event ?hg (N := 13) ?hd (cs := z3) (t := 26) ?hr ?_; (case hd => rfl); (case hg => rfl); (case hr => exact alloc26 _ _ _ _ _ _); intro gb hg_ wbb hbox_ hba_; have BZb := Aside0.mk hbox_; have HZb := Aside0.mk hba_; have GZb := Aside0.mk hg_; clear hg_ hbox_ hba_)
                  | ((with_reducible refine gate_op (.store 26 (.tmp 13) (.tmp 81)) rfl ?_); refine put_row rfl 26 (.tmp 13) (.tmp 81) rfl gb (by rfl) 26 z3 #[.int .i64 0, .int .i64 0, .int .i64 0] (by rfl) BZb.out I26.out rfl (by simp [Value.oneCell']) ?_; intro wpb hb_ hk_ hbl_ hsz_; have BPb := Aside0.mk hb_; have KPb := Aside0.mk hk_; have QPb := Aside0.mk hbl_; clear hb_ hk_ hbl_ hsz_; have HBPb := Aside0.mk ((below_then HBb.out HBb.out.size HZb.out).trans (QPb.out _ (by rw [GZb.out]; exact HBb.out.size))); have HSb := Aside0.mk (HZb.out.trans (QPb.out _ (Nat.le_of_eq GZb.out.symm)))))
                go_loopg [14, 15] 11 (fun kq v14 v15 wr => ∃ (x : Nat) (S : ByteArray), v14 = .string S ∧ v15 = .int .u32 (x : Int) ∧ Aside0 (11 ≤ S.data.toList.length + kq) ∧ Aside0 (DG K x S.data.toList) ∧ Aside0 (x ≤ K) ∧ Aside0 (Below w.heap.size w wr))
                case atStart => exact ⟨K, ⟨#[]⟩, rfl, rfl, ⟨by decide⟩, ⟨DG.start K HK.out⟩, ⟨Nat.le_refl _⟩, ⟨HBPb.out⟩⟩
                case round =>
                  obtain ⟨x, S, rfl, rfl, HJK2, HD, HXK, HB2⟩ := hrel
                  cases gk with
                  | zero => exact absurd HJK2.out (by have h_ := HD.out.len; omega)
                  | succ k1 =>
                    by_cases hx : 0 < x
                    · have q1 : ((0 : Int) < (x : Int)) = True := eq_true (by omega)
                      have q1n : (0 < x) = True := eq_true hx
                      have HX0 := Aside0.mk hx
                      have hss : S.size ≤ 10 := by have h_ := HD.out.len; rw [slen] at h_; exact h_
                      have hcv1 := conv1 wr x
                      obtain ⟨D, hD⟩ : ∃ D : ByteArray, ⟨#[dgt x]⟩ = D := ⟨_, rfl⟩
                      have hDs : D.size = 1 := by rw [← hD]; rfl
                      rw [hD] at hcv1
                      have HDD := Aside0.mk hD
                      have s1 : (9223372036854775807 < D.size + S.size) = False := eq_false (by omega)
                      have HEW : Aside0 ((x : Int) / 10 % 4294967296 = ((x / 10 : Nat) : Int)) := ⟨by have h1_ := HXK.out; have h2_ := HK.out; omega⟩
                      clear hx hD
                      go_wp2
                      go_roundg k1
                      case measure => omega
                      case rel =>
                        have hl : (D ++ S).data.toList = dgt x :: S.data.toList := by rw [add_list, ← HDD.out]; rfl
                        exact ⟨x / 10, D ++ S, rfl, by first | (rw [HEW.out]; done) | rfl | go_num, ⟨by rw [hl, List.length_cons]; have h_ := HJK2.out; omega⟩, ⟨by rw [hl]; exact HD.out.next HX0.out⟩, ⟨by have h_ := HXK.out; omega⟩, ⟨below_alloc HB2.out _⟩⟩
                    · obtain rfl : x = 0 := by omega
                      clear hx HJK2 HXK
                      rcases Bool.eq_false_or_eq_true S.toList.isEmpty with hE | hE
                      · have hS0 : S.data.toList = [] := by rw [← bal_list]; exact List.isEmpty_iff.1 hE
                        have hD0 := HD.out
                        rw [hS0] at hD0
                        have HKS : Aside0 (K ≤ 2147483647) := ⟨by have h_ := dg_zero hD0; omega⟩
                        obtain ⟨N, hnx, hN1, hNv⟩ := num_nought hD0
                        obtain ⟨T0, hT0⟩ : ∃ T0 : ByteArray, ⟨#[48]⟩ = T0 := ⟨_, rfl⟩
                        have HRT : Aside0 (lexA T0.data.toList = .ok N) := ⟨by rw [← hT0]; exact hnx⟩
                        have HTs : Aside0 (T0.size ≤ 1000000000) := ⟨by rw [← hT0]; decide⟩
                        have HT9 := Aside0.mk hT0
                        clear hS0 hD0 hnx hT0
                        go_upto_region 26 with (fail)
                        rw [HT9.out]
                        have HLN := Aside0.mk hN1
                        obtain ⟨t3, ht3, hrd3⟩ := rd_one (X := T0) hN1 (fun t => t.v = (K : Int)) hNv
                        have HT3 := Aside0.mk ht3
                        have HRD3 := Aside0.mk hrd3
                        have qk : (K : Int) ≤ 2147483647 := by have h_ := HKS.out; omega
                        have qkf : ((2147483647 : Int) < (K : Int)) = False := eq_false (by omega)
                        clear hN1 hNv ht3 hrd3
                        go_upto_region 27 with (first
                          | (go_at_call 11; (with_reducible refine (all_ok T0 _ mx (MXb HM.out HB2.out) HTs.out HRT.out).mono ?_); rw [HLN.out]; rintro e wd ⟨Ad, cd, rfl, hcd, hR, hb⟩; have HBd := Aside0.mk (below_then HB2.out HB2.out.size hb); have HAd := Aside0.mk hb; have HCd := Aside0.mk (show Kd.C k33 wd Ad 1 (N.map (tk33 T0)) from by have h_ := (Kd.R_reads' hR).2.2; rw [List.length_map, HLN.out] at h_; exact h_); clear hb hR)
                          | ((with_reducible refine gate_dst (N := 18) rfl ?_); refine box_event ?hg (N := 18) ?hd (cs := z3) (t := 26) ?hr ?_; (case hd => rfl); (case hg => rfl); (case hr => exact alloc26 _ _ _ _ _ _); intro gd hg_ wbd hbox_ hba_; have BZd := Aside0.mk hbox_; have HZd := Aside0.mk hba_; have GZd := Aside0.mk hg_; clear hg_ hbox_ hba_)
                          | ((with_reducible refine gate_op (.store 26 (.tmp 18) (.tmp 122)) rfl ?_); refine put_row rfl 26 (.tmp 18) (.tmp 122) rfl gd (by rfl) 26 z3 #[.int .i64 0, .int .i64 0, .int .i64 0] (by rfl) BZd.out I26.out rfl (by simp [Value.oneCell']) ?_; intro wpd hb_ hk_ hbl_ hsz_; have BPd := Aside0.mk hb_; have KPd := Aside0.mk hk_; have QPd := Aside0.mk hbl_; clear hb_ hk_ hbl_ hsz_; have HBPd := Aside0.mk ((below_then HBd.out HBd.out.size HZd.out).trans (QPd.out _ (by rw [GZd.out]; exact HBd.out.size))); have HSd := Aside0.mk (HZd.out.trans (QPd.out _ (Nat.le_of_eq GZd.out.symm)))))
                        obtain ⟨ad3, e_, _, _, y2, _⟩ := at_T33 (Kd.C_below HCd.out HSd.out) 0 (by decide) (by decide)
                        subst e_
                        rw [HRD3.out, show (tk33 T0 t3).f2 = (K : Int) from HT3.out] at y2
                        have y2 : wpd.cell? ⟨ad3.block, ad3.off + 2, none⟩ = some (.int .i32 (K : Int)) := y2
                        go_wp2_with ((go_at_call 15; (with_reducible refine (lives_calls _ mx (MXb HM.out HBPd.out)).mono ?_); rintro e wl ⟨rfl, hb⟩; have HBl := Aside0.mk (below_then HBPd.out HBPd.out.size hb); clear hb))
                        go_ret
                        exact ⟨rfl, HBl.out⟩
                      · have hS0 : S.data.toList ≠ [] := by intro e; rw [← bal_list] at e; rw [e] at hE; cases hE
                        have HTs : Aside0 (S.size ≤ 1000000000) := ⟨by have h_ := HD.out.len; rw [slen] at h_; omega⟩
                        by_cases hk : 2147483647 < K
                        · have HRT : Aside0 (lexA S.data.toList = .err 11 0) := ⟨num_big HD.out hS0 hk⟩
                          have qk : (2147483647 : Int) < (K : Int) := by omega
                          clear hS0 hk
                          go_wp2_with (first
                            | (go_at_call 11; (with_reducible refine (all_err S _ mx (MXb HM.out HB2.out) HTs.out HRT.out).mono ?_); rintro e wd ⟨rfl, hb⟩; have HBd := Aside0.mk (below_then HB2.out HB2.out.size hb); have HAd := Aside0.mk hb; clear hb)
                            | ((with_reducible refine gate_dst (N := 18) rfl ?_); refine box_event ?hg (N := 18) ?hd (cs := z3) (t := 26) ?hr ?_; (case hd => rfl); (case hg => rfl); (case hr => exact alloc26 _ _ _ _ _ _); intro gd hg_ wbd hbox_ hba_; have BZd := Aside0.mk hbox_; have HZd := Aside0.mk hba_; have GZd := Aside0.mk hg_; clear hg_ hbox_ hba_)
                            | ((with_reducible refine gate_op (.store 26 (.tmp 18) (.tmp 122)) rfl ?_); refine put_row rfl 26 (.tmp 18) (.tmp 122) rfl gd (by rfl) 26 z3 #[.int .i64 ((0 : Nat) : Int), .int .i64 (lnA S 0), .int .i64 (((0 : Nat) : Int) - stA S 0 + 1)] (by rfl) BZd.out I26.out rfl (by simp [Value.oneCell']) ?_; intro wpd hb_ hk_ hbl_ hsz_; have BPd := Aside0.mk hb_; have KPd := Aside0.mk hk_; have QPd := Aside0.mk hbl_; clear hb_ hk_ hbl_ hsz_; have HBPd := Aside0.mk ((below_then HBd.out HBd.out.size HZd.out).trans (QPd.out _ (by rw [GZd.out]; exact HBd.out.size))); have HSd := Aside0.mk (HZd.out.trans (QPd.out _ (Nat.le_of_eq GZd.out.symm))))
                            | (go_at_call 15; (with_reducible refine (lives_calls _ mx (MXb HM.out HBPd.out)).mono ?_); rintro e wl ⟨rfl, hb⟩; have HBl := Aside0.mk (below_then HBPd.out HBPd.out.size hb); clear hb))
                          go_ret
                          exact ⟨rfl, HBl.out⟩
                        · have HKS : Aside0 (K ≤ 2147483647) := ⟨by omega⟩
                          obtain ⟨N, hnx, hN1, hNv⟩ := num_ok HD.out hS0 HKS.out
                          have HRT : Aside0 (lexA S.data.toList = .ok N) := ⟨hnx⟩
                          clear hS0 hk hnx
                          have HLN := Aside0.mk hN1
                          obtain ⟨t3, ht3, hrd3⟩ := rd_one (X := S) hN1 (fun t => t.v = (K : Int)) hNv
                          have HT3 := Aside0.mk ht3
                          have HRD3 := Aside0.mk hrd3
                          have qk : (K : Int) ≤ 2147483647 := by have h_ := HKS.out; omega
                          have qkf : ((2147483647 : Int) < (K : Int)) = False := eq_false (by omega)
                          clear hN1 hNv ht3 hrd3
                          go_upto_region 27 with (first
                            | (go_at_call 11; (with_reducible refine (all_ok S _ mx (MXb HM.out HB2.out) HTs.out HRT.out).mono ?_); rw [HLN.out]; rintro e wd ⟨Ad, cd, rfl, hcd, hR, hb⟩; have HBd := Aside0.mk (below_then HB2.out HB2.out.size hb); have HAd := Aside0.mk hb; have HCd := Aside0.mk (show Kd.C k33 wd Ad 1 (N.map (tk33 S)) from by have h_ := (Kd.R_reads' hR).2.2; rw [List.length_map, HLN.out] at h_; exact h_); clear hb hR)
                            | ((with_reducible refine gate_dst (N := 18) rfl ?_); refine box_event ?hg (N := 18) ?hd (cs := z3) (t := 26) ?hr ?_; (case hd => rfl); (case hg => rfl); (case hr => exact alloc26 _ _ _ _ _ _); intro gd hg_ wbd hbox_ hba_; have BZd := Aside0.mk hbox_; have HZd := Aside0.mk hba_; have GZd := Aside0.mk hg_; clear hg_ hbox_ hba_)
                            | ((with_reducible refine gate_op (.store 26 (.tmp 18) (.tmp 122)) rfl ?_); refine put_row rfl 26 (.tmp 18) (.tmp 122) rfl gd (by rfl) 26 z3 #[.int .i64 0, .int .i64 0, .int .i64 0] (by rfl) BZd.out I26.out rfl (by simp [Value.oneCell']) ?_; intro wpd hb_ hk_ hbl_ hsz_; have BPd := Aside0.mk hb_; have KPd := Aside0.mk hk_; have QPd := Aside0.mk hbl_; clear hb_ hk_ hbl_ hsz_; have HBPd := Aside0.mk ((below_then HBd.out HBd.out.size HZd.out).trans (QPd.out _ (by rw [GZd.out]; exact HBd.out.size))); have HSd := Aside0.mk (HZd.out.trans (QPd.out _ (Nat.le_of_eq GZd.out.symm)))))
                          obtain ⟨ad3, e_, _, _, y2, _⟩ := at_T33 (Kd.C_below HCd.out HSd.out) 0 (by decide) (by decide)
                          subst e_
                          rw [HRD3.out, show (tk33 S t3).f2 = (K : Int) from HT3.out] at y2
                          have y2 : wpd.cell? ⟨ad3.block, ad3.off + 2, none⟩ = some (.int .i32 (K : Int)) := y2
                          go_wp2_with ((go_at_call 15; (with_reducible refine (lives_calls _ mx (MXb HM.out HBPd.out)).mono ?_); rintro e wl ⟨rfl, hb⟩; have HBl := Aside0.mk (below_then HBPd.out HBPd.out.size hb); clear hb))
                          go_ret
                          exact ⟨rfl, HBl.out⟩
        · have HRX : Aside0 (lexA X.data.toList = .err 2 0) := ⟨by rw [hXl]; exact xs_big1 n (by omega)⟩
          have q64 : (64 : Int) < (n : Int) := by omega
          have q64f : ((n : Int) ≤ 64) = False := eq_false (by omega)
          clear hXl
          go_upto_region 9 with (first
            | (go_at_call 11; (with_reducible refine (all_err X _ mx (MXb HM.out HB.out) HXs.out HRX.out).mono ?_); rintro e wa ⟨rfl, hb⟩; have HBa := Aside0.mk (below_then HB.out HB.out.size hb); have HAa := Aside0.mk hb; clear hb)
            | ((with_reducible refine gate_dst (N := 9) rfl ?_); refine box_event ?hg (N := 9) ?hd (cs := z3) (t := 26) ?hr ?_; (case hd => rfl); (case hg => rfl); (case hr => exact alloc26 _ _ _ _ _ _); intro ga hg_ wba hbox_ hba_; have BZa := Aside0.mk hbox_; have HZa := Aside0.mk hba_; have GZa := Aside0.mk hg_; clear hg_ hbox_ hba_)
            | ((with_reducible refine gate_op (.store 26 (.tmp 9) (.tmp 39)) rfl ?_); refine put_row rfl 26 (.tmp 9) (.tmp 39) rfl ga (by rfl) 26 z3 #[.int .i64 ((0 : Nat) : Int), .int .i64 (lnA X 0), .int .i64 (((0 : Nat) : Int) - stA X 0 + 1)] (by rfl) BZa.out I26.out rfl (by simp [Value.oneCell']) ?_; intro wpa hb_ hk_ hbl_ hsz_; have BPa := Aside0.mk hb_; have KPa := Aside0.mk hk_; have QPa := Aside0.mk hbl_; clear hb_ hk_ hbl_ hsz_; have HBPa := Aside0.mk ((below_then HBa.out HBa.out.size HZa.out).trans (QPa.out _ (by rw [GZa.out]; exact HBa.out.size))); have HSa := Aside0.mk (HZa.out.trans (QPa.out _ (Nat.le_of_eq GZa.out.symm)))))
          have HR1 := Aside0.mk (Kd.R_below HR.out (below_then HAa.out HAa.out.size HSa.out))
          have HB1 := Aside0.mk HBPa.out
          clear HR HB HJK HJ HX
          go_wp2
          try clear x0
          try clear hcvX
          go_loopg [68] (n + 1) (fun kq v wr => ∃ (j : Nat) (xs : List Int), v = .int .i64 (j : Int) ∧ Aside0 (n + 1 ≤ j + kq) ∧ Aside0 (j ≤ n) ∧ Aside0 (∀ i, i < j → xs[i]? = some 59) ∧ Aside0 (Kd.R (Kd.int .u8) 5 wr w.heap.size (fun _ => True) (.slice (some ⟨g, 0, none⟩) n cp) xs) ∧ Aside0 (Below w.heap.size w wr))
          case atStart => exact ⟨0, _, rfl, ⟨by omega⟩, ⟨by omega⟩, ⟨fun i h => by omega⟩, ⟨HR1.out⟩, ⟨HB1.out⟩⟩
          case round =>
            obtain ⟨j, xs, rfl, HJK, HJ, HX, HR, HB⟩ := hrel
            cases gk with
            | zero => exact absurd HJK.out (by have h_ := HJ.out; omega)
            | succ k1 =>
              by_cases hj : j < n
              · have q1 : ((j : Int) < (n : Int)) = True := by apply eq_true; omega
                obtain ⟨hcell, hfro⟩ := Kd.R_celln (d := (0 : Int)) HR.out (j : Int) (by omega) (by omega)
                rw [Int.toNat_natCast] at hcell hfro
                have HEW : Aside0 (wrap64 ((j : Int) + 1) = ((j + 1 : Nat) : Int)) := ⟨by rw [w64 _ (by omega) (by omega)]; rfl⟩
                have HJ9 := Aside0.mk hj
                clear hj
                go_wp2
                go_roundg k1
                case measure => omega
                case rel =>
                  have hp := Kd.R_putn HR.out (j : Int) 59
                  rw [Int.toNat_natCast] at hp
                  have hxl := (Kd.R_reads' HR.out).1
                  exact ⟨j + 1, _, by first | (rw [HEW.out]; done) | rfl | go_num, ⟨by have h_ := HJK.out; omega⟩, ⟨by have h_ := HJ9.out; omega⟩, ⟨set_pre HX.out (by have h_ := HJ9.out; omega)⟩, ⟨hp⟩, ⟨below_set HB.out (own_base2 HR.out)⟩⟩
              · obtain rfl : n = j := by have h_ := HJ.out; omega
                clear hj
                have q1 : ((n : Int) < (n : Int)) = False := by apply eq_false; omega
                have hall := all_rep HX.out (Kd.R_reads' HR.out).1
                subst hall
                obtain ⟨Y, hX_⟩ : ∃ X, strOfNums (List.replicate n (59 : Int)) = X := ⟨_, rfl⟩
                have hYl : Y.data.toList = List.replicate n 59 := by rw [← hX_]; exact rep_str 59 n
                have hcvY := convR HR.out
                rw [hX_] at hcvY
                have HYs : Aside0 (Y.size ≤ 1000000000) := ⟨by rw [← slen, hYl, List.length_replicate]; omega⟩
                clear hX_
                by_cases h65 : n ≤ 65536
                · obtain ⟨M, hmx, hM1⟩ := semis_ok n h65
                  have HRY : Aside0 (lexA Y.data.toList = .ok M) := ⟨by rw [hYl]; exact hmx⟩
                  have HLM := Aside0.mk hM1
                  have q65 : (n : Int) ≤ 65536 := by omega
                  have q65f : ((65536 : Int) < (n : Int)) = False := eq_false (by omega)
                  clear hmx hM1 hYl
                  go_wp2_with (first
                    | (go_at_call 11; (with_reducible refine (all_ok Y _ mx (MXb HM.out HB.out) HYs.out HRY.out).mono ?_); rw [HLM.out]; rintro e wb ⟨Ab, cb, rfl, hcb, hR, hb⟩; have HBb := Aside0.mk (below_then HB.out HB.out.size hb); have HAb := Aside0.mk hb; have HCb := Aside0.mk (show Kd.C k33 wb Ab n (M.map (tk33 Y)) from by have h_ := (Kd.R_reads' hR).2.2; rw [List.length_map, HLM.out] at h_; exact h_); clear hb hR)
                    | ((with_reducible refine gate_dst (N := 13) rfl ?_); refine box_event ?hg (N := 13) ?hd (cs := z3) (t := 26) ?hr ?_; (case hd => rfl); (case hg => rfl); (case hr => exact alloc26 _ _ _ _ _ _); intro gb hg_ wbb hbox_ hba_; have BZb := Aside0.mk hbox_; have HZb := Aside0.mk hba_; have GZb := Aside0.mk hg_; clear hg_ hbox_ hba_)
                    | ((with_reducible refine gate_op (.store 26 (.tmp 13) (.tmp 81)) rfl ?_); refine put_row rfl 26 (.tmp 13) (.tmp 81) rfl gb (by rfl) 26 z3 #[.int .i64 0, .int .i64 0, .int .i64 0] (by rfl) BZb.out I26.out rfl (by simp [Value.oneCell']) ?_; intro wpb hb_ hk_ hbl_ hsz_; have BPb := Aside0.mk hb_; have KPb := Aside0.mk hk_; have QPb := Aside0.mk hbl_; clear hb_ hk_ hbl_ hsz_; have HBPb := Aside0.mk ((below_then HBb.out HBb.out.size HZb.out).trans (QPb.out _ (by rw [GZb.out]; exact HBb.out.size))); have HSb := Aside0.mk (HZb.out.trans (QPb.out _ (Nat.le_of_eq GZb.out.symm)))))
                  go_loopg [14, 15] 11 (fun kq v14 v15 wr => ∃ (x : Nat) (S : ByteArray), v14 = .string S ∧ v15 = .int .u32 (x : Int) ∧ Aside0 (11 ≤ S.data.toList.length + kq) ∧ Aside0 (DG K x S.data.toList) ∧ Aside0 (x ≤ K) ∧ Aside0 (Below w.heap.size w wr))
                  case atStart => exact ⟨K, ⟨#[]⟩, rfl, rfl, ⟨by decide⟩, ⟨DG.start K HK.out⟩, ⟨Nat.le_refl _⟩, ⟨HBPb.out⟩⟩
                  case round =>
                    obtain ⟨x, S, rfl, rfl, HJK2, HD, HXK, HB2⟩ := hrel
                    cases gk with
                    | zero => exact absurd HJK2.out (by have h_ := HD.out.len; omega)
                    | succ k1 =>
                      by_cases hx : 0 < x
                      · have q1 : ((0 : Int) < (x : Int)) = True := eq_true (by omega)
                        have q1n : (0 < x) = True := eq_true hx
                        have HX0 := Aside0.mk hx
                        have hss : S.size ≤ 10 := by have h_ := HD.out.len; rw [slen] at h_; exact h_
                        have hcv1 := conv1 wr x
                        obtain ⟨D, hD⟩ : ∃ D : ByteArray, ⟨#[dgt x]⟩ = D := ⟨_, rfl⟩
                        have hDs : D.size = 1 := by rw [← hD]; rfl
                        rw [hD] at hcv1
                        have HDD := Aside0.mk hD
                        have s1 : (9223372036854775807 < D.size + S.size) = False := eq_false (by omega)
                        have HEW : Aside0 ((x : Int) / 10 % 4294967296 = ((x / 10 : Nat) : Int)) := ⟨by have h1_ := HXK.out; have h2_ := HK.out; omega⟩
                        clear hx hD
                        go_wp2
                        go_roundg k1
                        case measure => omega
                        case rel =>
                          have hl : (D ++ S).data.toList = dgt x :: S.data.toList := by rw [add_list, ← HDD.out]; rfl
                          exact ⟨x / 10, D ++ S, rfl, by first | (rw [HEW.out]; done) | rfl | go_num, ⟨by rw [hl, List.length_cons]; have h_ := HJK2.out; omega⟩, ⟨by rw [hl]; exact HD.out.next HX0.out⟩, ⟨by have h_ := HXK.out; omega⟩, ⟨below_alloc HB2.out _⟩⟩
                      · obtain rfl : x = 0 := by omega
                        clear hx HJK2 HXK
                        rcases Bool.eq_false_or_eq_true S.toList.isEmpty with hE | hE
                        · have hS0 : S.data.toList = [] := by rw [← bal_list]; exact List.isEmpty_iff.1 hE
                          have hD0 := HD.out
                          rw [hS0] at hD0
                          have HKS : Aside0 (K ≤ 2147483647) := ⟨by have h_ := dg_zero hD0; omega⟩
                          obtain ⟨N, hnx, hN1, hNv⟩ := num_nought hD0
                          obtain ⟨T0, hT0⟩ : ∃ T0 : ByteArray, ⟨#[48]⟩ = T0 := ⟨_, rfl⟩
                          have HRT : Aside0 (lexA T0.data.toList = .ok N) := ⟨by rw [← hT0]; exact hnx⟩
                          have HTs : Aside0 (T0.size ≤ 1000000000) := ⟨by rw [← hT0]; decide⟩
                          have HT9 := Aside0.mk hT0
                          clear hS0 hD0 hnx hT0
                          go_upto_region 26 with (fail)
                          rw [HT9.out]
                          have HLN := Aside0.mk hN1
                          obtain ⟨t3, ht3, hrd3⟩ := rd_one (X := T0) hN1 (fun t => t.v = (K : Int)) hNv
                          have HT3 := Aside0.mk ht3
                          have HRD3 := Aside0.mk hrd3
                          have qk : (K : Int) ≤ 2147483647 := by have h_ := HKS.out; omega
                          have qkf : ((2147483647 : Int) < (K : Int)) = False := eq_false (by omega)
                          clear hN1 hNv ht3 hrd3
                          go_upto_region 27 with (first
                            | (go_at_call 11; (with_reducible refine (all_ok T0 _ mx (MXb HM.out HB2.out) HTs.out HRT.out).mono ?_); rw [HLN.out]; rintro e wd ⟨Ad, cd, rfl, hcd, hR, hb⟩; have HBd := Aside0.mk (below_then HB2.out HB2.out.size hb); have HAd := Aside0.mk hb; have HCd := Aside0.mk (show Kd.C k33 wd Ad 1 (N.map (tk33 T0)) from by have h_ := (Kd.R_reads' hR).2.2; rw [List.length_map, HLN.out] at h_; exact h_); clear hb hR)
                            | ((with_reducible refine gate_dst (N := 18) rfl ?_); refine box_event ?hg (N := 18) ?hd (cs := z3) (t := 26) ?hr ?_; (case hd => rfl); (case hg => rfl); (case hr => exact alloc26 _ _ _ _ _ _); intro gd hg_ wbd hbox_ hba_; have BZd := Aside0.mk hbox_; have HZd := Aside0.mk hba_; have GZd := Aside0.mk hg_; clear hg_ hbox_ hba_)
                            | ((with_reducible refine gate_op (.store 26 (.tmp 18) (.tmp 122)) rfl ?_); refine put_row rfl 26 (.tmp 18) (.tmp 122) rfl gd (by rfl) 26 z3 #[.int .i64 0, .int .i64 0, .int .i64 0] (by rfl) BZd.out I26.out rfl (by simp [Value.oneCell']) ?_; intro wpd hb_ hk_ hbl_ hsz_; have BPd := Aside0.mk hb_; have KPd := Aside0.mk hk_; have QPd := Aside0.mk hbl_; clear hb_ hk_ hbl_ hsz_; have HBPd := Aside0.mk ((below_then HBd.out HBd.out.size HZd.out).trans (QPd.out _ (by rw [GZd.out]; exact HBd.out.size))); have HSd := Aside0.mk (HZd.out.trans (QPd.out _ (Nat.le_of_eq GZd.out.symm)))))
                          obtain ⟨ad3, e_, _, _, y2, _⟩ := at_T33 (Kd.C_below HCd.out HSd.out) 0 (by decide) (by decide)
                          subst e_
                          rw [HRD3.out, show (tk33 T0 t3).f2 = (K : Int) from HT3.out] at y2
                          have y2 : wpd.cell? ⟨ad3.block, ad3.off + 2, none⟩ = some (.int .i32 (K : Int)) := y2
                          go_wp2_with ((go_at_call 15; (with_reducible refine (lives_calls _ mx (MXb HM.out HBPd.out)).mono ?_); rintro e wl ⟨rfl, hb⟩; have HBl := Aside0.mk (below_then HBPd.out HBPd.out.size hb); clear hb))
                          go_ret
                          exact ⟨rfl, HBl.out⟩
                        · have hS0 : S.data.toList ≠ [] := by intro e; rw [← bal_list] at e; rw [e] at hE; cases hE
                          have HTs : Aside0 (S.size ≤ 1000000000) := ⟨by have h_ := HD.out.len; rw [slen] at h_; omega⟩
                          by_cases hk : 2147483647 < K
                          · have HRT : Aside0 (lexA S.data.toList = .err 11 0) := ⟨num_big HD.out hS0 hk⟩
                            have qk : (2147483647 : Int) < (K : Int) := by omega
                            clear hS0 hk
                            go_wp2_with (first
                              | (go_at_call 11; (with_reducible refine (all_err S _ mx (MXb HM.out HB2.out) HTs.out HRT.out).mono ?_); rintro e wd ⟨rfl, hb⟩; have HBd := Aside0.mk (below_then HB2.out HB2.out.size hb); have HAd := Aside0.mk hb; clear hb)
                              | ((with_reducible refine gate_dst (N := 18) rfl ?_); refine box_event ?hg (N := 18) ?hd (cs := z3) (t := 26) ?hr ?_; (case hd => rfl); (case hg => rfl); (case hr => exact alloc26 _ _ _ _ _ _); intro gd hg_ wbd hbox_ hba_; have BZd := Aside0.mk hbox_; have HZd := Aside0.mk hba_; have GZd := Aside0.mk hg_; clear hg_ hbox_ hba_)
                              | ((with_reducible refine gate_op (.store 26 (.tmp 18) (.tmp 122)) rfl ?_); refine put_row rfl 26 (.tmp 18) (.tmp 122) rfl gd (by rfl) 26 z3 #[.int .i64 ((0 : Nat) : Int), .int .i64 (lnA S 0), .int .i64 (((0 : Nat) : Int) - stA S 0 + 1)] (by rfl) BZd.out I26.out rfl (by simp [Value.oneCell']) ?_; intro wpd hb_ hk_ hbl_ hsz_; have BPd := Aside0.mk hb_; have KPd := Aside0.mk hk_; have QPd := Aside0.mk hbl_; clear hb_ hk_ hbl_ hsz_; have HBPd := Aside0.mk ((below_then HBd.out HBd.out.size HZd.out).trans (QPd.out _ (by rw [GZd.out]; exact HBd.out.size))); have HSd := Aside0.mk (HZd.out.trans (QPd.out _ (Nat.le_of_eq GZd.out.symm))))
                              | (go_at_call 15; (with_reducible refine (lives_calls _ mx (MXb HM.out HBPd.out)).mono ?_); rintro e wl ⟨rfl, hb⟩; have HBl := Aside0.mk (below_then HBPd.out HBPd.out.size hb); clear hb))
                            go_ret
                            exact ⟨rfl, HBl.out⟩
                          · have HKS : Aside0 (K ≤ 2147483647) := ⟨by omega⟩
                            obtain ⟨N, hnx, hN1, hNv⟩ := num_ok HD.out hS0 HKS.out
                            have HRT : Aside0 (lexA S.data.toList = .ok N) := ⟨hnx⟩
                            clear hS0 hk hnx
                            have HLN := Aside0.mk hN1
                            obtain ⟨t3, ht3, hrd3⟩ := rd_one (X := S) hN1 (fun t => t.v = (K : Int)) hNv
                            have HT3 := Aside0.mk ht3
                            have HRD3 := Aside0.mk hrd3
                            have qk : (K : Int) ≤ 2147483647 := by have h_ := HKS.out; omega
                            have qkf : ((2147483647 : Int) < (K : Int)) = False := eq_false (by omega)
                            clear hN1 hNv ht3 hrd3
                            go_upto_region 27 with (first
                              | (go_at_call 11; (with_reducible refine (all_ok S _ mx (MXb HM.out HB2.out) HTs.out HRT.out).mono ?_); rw [HLN.out]; rintro e wd ⟨Ad, cd, rfl, hcd, hR, hb⟩; have HBd := Aside0.mk (below_then HB2.out HB2.out.size hb); have HAd := Aside0.mk hb; have HCd := Aside0.mk (show Kd.C k33 wd Ad 1 (N.map (tk33 S)) from by have h_ := (Kd.R_reads' hR).2.2; rw [List.length_map, HLN.out] at h_; exact h_); clear hb hR)
                              | ((with_reducible refine gate_dst (N := 18) rfl ?_); refine box_event ?hg (N := 18) ?hd (cs := z3) (t := 26) ?hr ?_; (case hd => rfl); (case hg => rfl); (case hr => exact alloc26 _ _ _ _ _ _); intro gd hg_ wbd hbox_ hba_; have BZd := Aside0.mk hbox_; have HZd := Aside0.mk hba_; have GZd := Aside0.mk hg_; clear hg_ hbox_ hba_)
                              | ((with_reducible refine gate_op (.store 26 (.tmp 18) (.tmp 122)) rfl ?_); refine put_row rfl 26 (.tmp 18) (.tmp 122) rfl gd (by rfl) 26 z3 #[.int .i64 0, .int .i64 0, .int .i64 0] (by rfl) BZd.out I26.out rfl (by simp [Value.oneCell']) ?_; intro wpd hb_ hk_ hbl_ hsz_; have BPd := Aside0.mk hb_; have KPd := Aside0.mk hk_; have QPd := Aside0.mk hbl_; clear hb_ hk_ hbl_ hsz_; have HBPd := Aside0.mk ((below_then HBd.out HBd.out.size HZd.out).trans (QPd.out _ (by rw [GZd.out]; exact HBd.out.size))); have HSd := Aside0.mk (HZd.out.trans (QPd.out _ (Nat.le_of_eq GZd.out.symm)))))
                            obtain ⟨ad3, e_, _, _, y2, _⟩ := at_T33 (Kd.C_below HCd.out HSd.out) 0 (by decide) (by decide)
                            subst e_
                            rw [HRD3.out, show (tk33 S t3).f2 = (K : Int) from HT3.out] at y2
                            have y2 : wpd.cell? ⟨ad3.block, ad3.off + 2, none⟩ = some (.int .i32 (K : Int)) := y2
                            go_wp2_with ((go_at_call 15; (with_reducible refine (lives_calls _ mx (MXb HM.out HBPd.out)).mono ?_); rintro e wl ⟨rfl, hb⟩; have HBl := Aside0.mk (below_then HBPd.out HBPd.out.size hb); clear hb))
                            go_ret
                            exact ⟨rfl, HBl.out⟩
                · have HRY : Aside0 (lexA Y.data.toList = .err 2 0) := ⟨by rw [hYl]; exact semis_big n (by omega)⟩
                  have q65 : (65536 : Int) < (n : Int) := by omega
                  have q65f : ((n : Int) ≤ 65536) = False := eq_false (by omega)
                  clear hYl
                  go_wp2_with (first
                    | (go_at_call 11; (with_reducible refine (all_err Y _ mx (MXb HM.out HB.out) HYs.out HRY.out).mono ?_); rintro e wb ⟨rfl, hb⟩; have HBb := Aside0.mk (below_then HB.out HB.out.size hb); have HAb := Aside0.mk hb; clear hb)
                    | ((with_reducible refine gate_dst (N := 13) rfl ?_); refine box_event ?hg (N := 13) ?hd (cs := z3) (t := 26) ?hr ?_; (case hd => rfl); (case hg => rfl); (case hr => exact alloc26 _ _ _ _ _ _); intro gb hg_ wbb hbox_ hba_; have BZb := Aside0.mk hbox_; have HZb := Aside0.mk hba_; have GZb := Aside0.mk hg_; clear hg_ hbox_ hba_)
                    | ((with_reducible refine gate_op (.store 26 (.tmp 13) (.tmp 81)) rfl ?_); refine put_row rfl 26 (.tmp 13) (.tmp 81) rfl gb (by rfl) 26 z3 #[.int .i64 ((0 : Nat) : Int), .int .i64 (lnA Y 0), .int .i64 (((0 : Nat) : Int) - stA Y 0 + 1)] (by rfl) BZb.out I26.out rfl (by simp [Value.oneCell']) ?_; intro wpb hb_ hk_ hbl_ hsz_; have BPb := Aside0.mk hb_; have KPb := Aside0.mk hk_; have QPb := Aside0.mk hbl_; clear hb_ hk_ hbl_ hsz_; have HBPb := Aside0.mk ((below_then HBb.out HBb.out.size HZb.out).trans (QPb.out _ (by rw [GZb.out]; exact HBb.out.size))); have HSb := Aside0.mk (HZb.out.trans (QPb.out _ (Nat.le_of_eq GZb.out.symm)))))
                  go_loopg [14, 15] 11 (fun kq v14 v15 wr => ∃ (x : Nat) (S : ByteArray), v14 = .string S ∧ v15 = .int .u32 (x : Int) ∧ Aside0 (11 ≤ S.data.toList.length + kq) ∧ Aside0 (DG K x S.data.toList) ∧ Aside0 (x ≤ K) ∧ Aside0 (Below w.heap.size w wr))
                  case atStart => exact ⟨K, ⟨#[]⟩, rfl, rfl, ⟨by decide⟩, ⟨DG.start K HK.out⟩, ⟨Nat.le_refl _⟩, ⟨HBPb.out⟩⟩
                  case round =>
                    obtain ⟨x, S, rfl, rfl, HJK2, HD, HXK, HB2⟩ := hrel
                    cases gk with
                    | zero => exact absurd HJK2.out (by have h_ := HD.out.len; omega)
                    | succ k1 =>
                      by_cases hx : 0 < x
                      · have q1 : ((0 : Int) < (x : Int)) = True := eq_true (by omega)
                        have q1n : (0 < x) = True := eq_true hx
                        have HX0 := Aside0.mk hx
                        have hss : S.size ≤ 10 := by have h_ := HD.out.len; rw [slen] at h_; exact h_
                        have hcv1 := conv1 wr x
                        obtain ⟨D, hD⟩ : ∃ D : ByteArray, ⟨#[dgt x]⟩ = D := ⟨_, rfl⟩
                        have hDs : D.size = 1 := by rw [← hD]; rfl
                        rw [hD] at hcv1
                        have HDD := Aside0.mk hD
                        have s1 : (9223372036854775807 < D.size + S.size) = False := eq_false (by omega)
                        have HEW : Aside0 ((x : Int) / 10 % 4294967296 = ((x / 10 : Nat) : Int)) := ⟨by have h1_ := HXK.out; have h2_ := HK.out; omega⟩
                        clear hx hD
                        go_wp2
                        go_roundg k1
                        case measure => omega
                        case rel =>
                          have hl : (D ++ S).data.toList = dgt x :: S.data.toList := by rw [add_list, ← HDD.out]; rfl
                          exact ⟨x / 10, D ++ S, rfl, by first | (rw [HEW.out]; done) | rfl | go_num, ⟨by rw [hl, List.length_cons]; have h_ := HJK2.out; omega⟩, ⟨by rw [hl]; exact HD.out.next HX0.out⟩, ⟨by have h_ := HXK.out; omega⟩, ⟨below_alloc HB2.out _⟩⟩
                      · obtain rfl : x = 0 := by omega
                        clear hx HJK2 HXK
                        rcases Bool.eq_false_or_eq_true S.toList.isEmpty with hE | hE
                        · have hS0 : S.data.toList = [] := by rw [← bal_list]; exact List.isEmpty_iff.1 hE
                          have hD0 := HD.out
                          rw [hS0] at hD0
                          have HKS : Aside0 (K ≤ 2147483647) := ⟨by have h_ := dg_zero hD0; omega⟩
                          obtain ⟨N, hnx, hN1, hNv⟩ := num_nought hD0
                          obtain ⟨T0, hT0⟩ : ∃ T0 : ByteArray, ⟨#[48]⟩ = T0 := ⟨_, rfl⟩
                          have HRT : Aside0 (lexA T0.data.toList = .ok N) := ⟨by rw [← hT0]; exact hnx⟩
                          have HTs : Aside0 (T0.size ≤ 1000000000) := ⟨by rw [← hT0]; decide⟩
                          have HT9 := Aside0.mk hT0
                          clear hS0 hD0 hnx hT0
                          go_upto_region 26 with (fail)
                          rw [HT9.out]
                          have HLN := Aside0.mk hN1
                          obtain ⟨t3, ht3, hrd3⟩ := rd_one (X := T0) hN1 (fun t => t.v = (K : Int)) hNv
                          have HT3 := Aside0.mk ht3
                          have HRD3 := Aside0.mk hrd3
                          have qk : (K : Int) ≤ 2147483647 := by have h_ := HKS.out; omega
                          have qkf : ((2147483647 : Int) < (K : Int)) = False := eq_false (by omega)
                          clear hN1 hNv ht3 hrd3
                          go_upto_region 27 with (first
                            | (go_at_call 11; (with_reducible refine (all_ok T0 _ mx (MXb HM.out HB2.out) HTs.out HRT.out).mono ?_); rw [HLN.out]; rintro e wd ⟨Ad, cd, rfl, hcd, hR, hb⟩; have HBd := Aside0.mk (below_then HB2.out HB2.out.size hb); have HAd := Aside0.mk hb; have HCd := Aside0.mk (show Kd.C k33 wd Ad 1 (N.map (tk33 T0)) from by have h_ := (Kd.R_reads' hR).2.2; rw [List.length_map, HLN.out] at h_; exact h_); clear hb hR)
                            | ((with_reducible refine gate_dst (N := 18) rfl ?_); refine box_event ?hg (N := 18) ?hd (cs := z3) (t := 26) ?hr ?_; (case hd => rfl); (case hg => rfl); (case hr => exact alloc26 _ _ _ _ _ _); intro gd hg_ wbd hbox_ hba_; have BZd := Aside0.mk hbox_; have HZd := Aside0.mk hba_; have GZd := Aside0.mk hg_; clear hg_ hbox_ hba_)
                            | ((with_reducible refine gate_op (.store 26 (.tmp 18) (.tmp 122)) rfl ?_); refine put_row rfl 26 (.tmp 18) (.tmp 122) rfl gd (by rfl) 26 z3 #[.int .i64 0, .int .i64 0, .int .i64 0] (by rfl) BZd.out I26.out rfl (by simp [Value.oneCell']) ?_; intro wpd hb_ hk_ hbl_ hsz_; have BPd := Aside0.mk hb_; have KPd := Aside0.mk hk_; have QPd := Aside0.mk hbl_; clear hb_ hk_ hbl_ hsz_; have HBPd := Aside0.mk ((below_then HBd.out HBd.out.size HZd.out).trans (QPd.out _ (by rw [GZd.out]; exact HBd.out.size))); have HSd := Aside0.mk (HZd.out.trans (QPd.out _ (Nat.le_of_eq GZd.out.symm)))))
                          obtain ⟨ad3, e_, _, _, y2, _⟩ := at_T33 (Kd.C_below HCd.out HSd.out) 0 (by decide) (by decide)
                          subst e_
                          rw [HRD3.out, show (tk33 T0 t3).f2 = (K : Int) from HT3.out] at y2
                          have y2 : wpd.cell? ⟨ad3.block, ad3.off + 2, none⟩ = some (.int .i32 (K : Int)) := y2
                          go_wp2_with ((go_at_call 15; (with_reducible refine (lives_calls _ mx (MXb HM.out HBPd.out)).mono ?_); rintro e wl ⟨rfl, hb⟩; have HBl := Aside0.mk (below_then HBPd.out HBPd.out.size hb); clear hb))
                          go_ret
                          exact ⟨rfl, HBl.out⟩
                        · have hS0 : S.data.toList ≠ [] := by intro e; rw [← bal_list] at e; rw [e] at hE; cases hE
                          have HTs : Aside0 (S.size ≤ 1000000000) := ⟨by have h_ := HD.out.len; rw [slen] at h_; omega⟩
                          by_cases hk : 2147483647 < K
                          · have HRT : Aside0 (lexA S.data.toList = .err 11 0) := ⟨num_big HD.out hS0 hk⟩
                            have qk : (2147483647 : Int) < (K : Int) := by omega
                            clear hS0 hk
                            go_wp2_with (first
                              | (go_at_call 11; (with_reducible refine (all_err S _ mx (MXb HM.out HB2.out) HTs.out HRT.out).mono ?_); rintro e wd ⟨rfl, hb⟩; have HBd := Aside0.mk (below_then HB2.out HB2.out.size hb); have HAd := Aside0.mk hb; clear hb)
                              | ((with_reducible refine gate_dst (N := 18) rfl ?_); refine box_event ?hg (N := 18) ?hd (cs := z3) (t := 26) ?hr ?_; (case hd => rfl); (case hg => rfl); (case hr => exact alloc26 _ _ _ _ _ _); intro gd hg_ wbd hbox_ hba_; have BZd := Aside0.mk hbox_; have HZd := Aside0.mk hba_; have GZd := Aside0.mk hg_; clear hg_ hbox_ hba_)
                              | ((with_reducible refine gate_op (.store 26 (.tmp 18) (.tmp 122)) rfl ?_); refine put_row rfl 26 (.tmp 18) (.tmp 122) rfl gd (by rfl) 26 z3 #[.int .i64 ((0 : Nat) : Int), .int .i64 (lnA S 0), .int .i64 (((0 : Nat) : Int) - stA S 0 + 1)] (by rfl) BZd.out I26.out rfl (by simp [Value.oneCell']) ?_; intro wpd hb_ hk_ hbl_ hsz_; have BPd := Aside0.mk hb_; have KPd := Aside0.mk hk_; have QPd := Aside0.mk hbl_; clear hb_ hk_ hbl_ hsz_; have HBPd := Aside0.mk ((below_then HBd.out HBd.out.size HZd.out).trans (QPd.out _ (by rw [GZd.out]; exact HBd.out.size))); have HSd := Aside0.mk (HZd.out.trans (QPd.out _ (Nat.le_of_eq GZd.out.symm))))
                              | (go_at_call 15; (with_reducible refine (lives_calls _ mx (MXb HM.out HBPd.out)).mono ?_); rintro e wl ⟨rfl, hb⟩; have HBl := Aside0.mk (below_then HBPd.out HBPd.out.size hb); clear hb))
                            go_ret
                            exact ⟨rfl, HBl.out⟩
                          · have HKS : Aside0 (K ≤ 2147483647) := ⟨by omega⟩
                            obtain ⟨N, hnx, hN1, hNv⟩ := num_ok HD.out hS0 HKS.out
                            have HRT : Aside0 (lexA S.data.toList = .ok N) := ⟨hnx⟩
                            clear hS0 hk hnx
                            have HLN := Aside0.mk hN1
                            obtain ⟨t3, ht3, hrd3⟩ := rd_one (X := S) hN1 (fun t => t.v = (K : Int)) hNv
                            have HT3 := Aside0.mk ht3
                            have HRD3 := Aside0.mk hrd3
                            have qk : (K : Int) ≤ 2147483647 := by have h_ := HKS.out; omega
                            have qkf : ((2147483647 : Int) < (K : Int)) = False := eq_false (by omega)
                            clear hN1 hNv ht3 hrd3
                            go_upto_region 27 with (first
                              | (go_at_call 11; (with_reducible refine (all_ok S _ mx (MXb HM.out HB2.out) HTs.out HRT.out).mono ?_); rw [HLN.out]; rintro e wd ⟨Ad, cd, rfl, hcd, hR, hb⟩; have HBd := Aside0.mk (below_then HB2.out HB2.out.size hb); have HAd := Aside0.mk hb; have HCd := Aside0.mk (show Kd.C k33 wd Ad 1 (N.map (tk33 S)) from by have h_ := (Kd.R_reads' hR).2.2; rw [List.length_map, HLN.out] at h_; exact h_); clear hb hR)
                              | ((with_reducible refine gate_dst (N := 18) rfl ?_); refine box_event ?hg (N := 18) ?hd (cs := z3) (t := 26) ?hr ?_; (case hd => rfl); (case hg => rfl); (case hr => exact alloc26 _ _ _ _ _ _); intro gd hg_ wbd hbox_ hba_; have BZd := Aside0.mk hbox_; have HZd := Aside0.mk hba_; have GZd := Aside0.mk hg_; clear hg_ hbox_ hba_)
                              | ((with_reducible refine gate_op (.store 26 (.tmp 18) (.tmp 122)) rfl ?_); refine put_row rfl 26 (.tmp 18) (.tmp 122) rfl gd (by rfl) 26 z3 #[.int .i64 0, .int .i64 0, .int .i64 0] (by rfl) BZd.out I26.out rfl (by simp [Value.oneCell']) ?_; intro wpd hb_ hk_ hbl_ hsz_; have BPd := Aside0.mk hb_; have KPd := Aside0.mk hk_; have QPd := Aside0.mk hbl_; clear hb_ hk_ hbl_ hsz_; have HBPd := Aside0.mk ((below_then HBd.out HBd.out.size HZd.out).trans (QPd.out _ (by rw [GZd.out]; exact HBd.out.size))); have HSd := Aside0.mk (HZd.out.trans (QPd.out _ (Nat.le_of_eq GZd.out.symm)))))
                            obtain ⟨ad3, e_, _, _, y2, _⟩ := at_T33 (Kd.C_below HCd.out HSd.out) 0 (by decide) (by decide)
                            subst e_
                            rw [HRD3.out, show (tk33 S t3).f2 = (K : Int) from HT3.out] at y2
                            have y2 : wpd.cell? ⟨ad3.block, ad3.off + 2, none⟩ = some (.int .i32 (K : Int)) := y2
                            go_wp2_with ((go_at_call 15; (with_reducible refine (lives_calls _ mx (MXb HM.out HBPd.out)).mono ?_); rintro e wl ⟨rfl, hb⟩; have HBl := Aside0.mk (below_then HBPd.out HBPd.out.size hb); clear hb))
                            go_ret
                            exact ⟨rfl, HBl.out⟩

end Go.Proofs.Ytbmabnmidacpdaa.L
