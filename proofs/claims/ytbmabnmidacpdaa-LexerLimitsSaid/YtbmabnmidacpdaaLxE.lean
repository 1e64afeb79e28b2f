import Derived.Test.YtbmabnmidacpdaaProg
import Derived.Below
import Derived.Deep.Draws
import Derived.Deep.AppendLies
import Derived.Maps.AppendAt
import Derived.OwnWalk
import Derived.Laws.BytesArg
import Derived.Laws.MakeOwn
import Derived.Laws.OwnMore
import Derived.Deep.OwnRows
import Derived.Tactics
import Derived.Lib.ConvBytes
import Derived.Laws.Slices
import Derived.WalkKit
import Derived.KernelRfl
import Derived.RowKit3
import Derived.Deep.LoopGhost
import Derived.Deep.QuietTactic
import Derived.BigQuiet
import Derived.WideLaws
import Derived.Deep.DeepCutAuto
import Derived.Deep.CutBlock
import Derived.Deep.RegionHeld3
import Derived.Laws.Rows
import Derived.Lib.AppendStr
import Derived.ArgAppend
import Derived.Laws.IdiomCopy
import Derived.OrdersHeld
import Derived.Laws.BitsLemmas
import Derived.RowKit
import Derived.Test.YtbmabnmidacpdaaWWords
import Derived.Test.YtbmabnmidacpdaaWLast
import Derived.Test.YtbmabnmidacpdaaWTab
import Derived.Test.YtbmabnmidacpdaaWQPut
import Derived.Test.YtbmabnmidacpdaaWApart
import Derived.Test.YtbmabnmidacpdaaWArr
import Derived.Test.YtbmabnmidacpdaaWZeros
import Derived.Test.YtbmabnmidacpdaaWFoot
import Derived.Test.YtbmabnmidacpdaaWKept
import Derived.Test.YtbmabnmidacpdaaWShare
import Derived.Test.YtbmabnmidacpdaaWN
import Derived.Test.YtbmabnmidacpdaaWEqStruct
import Derived.Test.YtbmabnmidacpdaaWGuard
import Derived.Test.YtbmabnmidacpdaaWNEv
import Derived.Test.YtbmabnmidacpdaaWMore
import Derived.Test.YtbmabnmidacpdaaX1
import Derived.Test.YtbmabnmidacpdaaX2
import Derived.Test.YtbmabnmidacpdaaX3
import Derived.Test.YtbmabnmidacpdaaX4
import Derived.Test.YtbmabnmidacpdaaSh
import Derived.Test.YtbmabnmidacpdaaLxA
import Derived.Test.YtbmabnmidacpdaaLxB
import Derived.Test.YtbmabnmidacpdaaLxC
import Derived.Test.YtbmabnmidacpdaaLxD
import Derived.Test.YtbmabnmidacpdaaLxP
import Derived.Test.YtbmabnmidacpdaaHw
import Derived.DataShut
import Derived.Deep.RegionLawGrows
import Derived.Deep.Upon
import Derived.Deep.MidRow
namespace Go.Proofs.Ytbmabnmidacpdaa.L
open Go.RowKit Go.Proofs.Ytbmabnmidacpdaa.X Go.Proofs.YtbmabnmidacpdaaW.PrintWords Go.Proofs.YtbmabnmidacpdaaW.PrintLast Go.Proofs.YtbmabnmidacpdaaW.PrintMore
attribute [local go_sem] max2_int min2_int max_two min_two max_three min_three max_four min_four   -- for this text's walks alone
set_option linter.unusedVariables false
set_option linter.unusedSimpArgs false
/-- A token as the code holds it in a row. -/
def tk33 (s : ByteArray) (t : T) : S33 := ⟨t.kd, ⟨t.tx.toArray⟩, t.v, ⟨(t.off : Int), lnA s t.off, (t.off : Int) - stA s t.off + 1⟩⟩
theorem tok_err {l : List UInt8} {e : Int} (h : tokL l = .err e) : e = 2 ∨ e = 10 ∨ e = 11 := by
  unfold tokL at h
  split at h
  · split at h
    · injection h with h; omega
    · cases h
  · split at h
    · split at h
      · injection h with h; omega
      · cases h
    · split at h
      · cases h
      · split at h
        · injection h with h; omega
        · cases h
theorem token_err (w0 w : World) (g : Nat) (s : ByteArray) (hs : s.size ≤ 1000000000) (off : Nat) (h : off < s.size) (hI : Rd w0 w g s off) (hB : Below w0.heap.size w0 w) {c : Int} (ht : tokL (rst s off) = .err c) :
    Calls Try.prog 24 #[.pointer (some ⟨g, 0, none⟩)] w fun e w' => (∃ kd tx v, e = .returned (.tuple #[.agg #[.int .i64 kd, .string tx, .int .i32 v, .int .i64 (off : Int), .int .i64 (lnA s off), .int .i64 ((off : Int) - stA s off + 1)], .int .i64 c])) ∧ Rd w0 w' g s off ∧ Below w0.heap.size w0 w' ∧ KeepBut w w' g none :=
  (token_calls w0 w g s hs off h hI hB).mono fun e w' hp => by
    rw [ht] at hp
    exact ⟨hp.1.1, hp.1.2, hp.2.1, hp.2.2⟩
theorem token_ok (w0 w : World) (g : Nat) (s : ByteArray) (hs : s.size ≤ 1000000000) (off : Nat) (h : off < s.size) (hI : Rd w0 w g s off) (hB : Below w0.heap.size w0 w) {kd v : Int} {n : Nat} (ht : tokL (rst s off) = .ok kd n v) :
    Calls Try.prog 24 #[.pointer (some ⟨g, 0, none⟩)] w fun e w' => e = .returned (.tuple #[.agg #[.int .i64 kd, .string ⟨((rst s off).take n).toArray⟩, .int .i32 v, .int .i64 (off : Int), .int .i64 (lnA s off), .int .i64 ((off : Int) - stA s off + 1)], .int .i64 0]) ∧ Rd w0 w' g s (off + n) ∧ Below w0.heap.size w0 w' ∧ KeepBut w w' g none :=
  (token_calls w0 w g s hs off h hI hB).mono fun e w' hp => by
    rw [ht] at hp
    refine ⟨?_, hp.1.2, hp.2.1, hp.2.2⟩
    have h1 : s.extract off (off + n) = ⟨((rst s off).take n).toArray⟩ := by
      have hx := ext_ext s (s.extract off s.size) off n rfl (by
        have hb := (tok_bd ht).2
        rw [← rst_ext, slen] at hb
        exact hb)
      have h2 : ((s.extract off s.size).extract 0 n).data.toList = (rst s off).take n := by rw [ext_list, rst_ext]
      rw [hx] at h2
      rw [← h2]
    have h3 := hp.1.1
    unfold tkV at h3
    rw [h1] at h3
    exact h3
theorem gap_is (w0 w : World) (g : Nat) (s : ByteArray) (mx : Int) (hm : w0.cell? ⟨0, 0, none⟩ = some (.int .i64 mx)) (hs : s.size ≤ 1000000000) (off : Nat) (h : off ≤ s.size) (hI : Rd w0 w g s off) (hB : Below w0.heap.size w0 w) {x : Int} (hx : gapL (rst s off) = x) :
    Calls Try.prog 22 #[.pointer (some ⟨g, 0, none⟩)] w fun e w' => e = .returned (.int .i64 x) ∧ Rd w0 w' g s off ∧ Below w0.heap.size w0 w' ∧ KeepBut w w' g none := by
  have h1 := gap_calls w0 w g s mx hm hs off h hI hB
  rw [hx] at h1
  exact h1
def AllPost (s : ByteArray) (w : World) (r : R) (e : Ending) (w' : World) : Prop := match r with
  | .err c off => e = .returned (.tuple #[.slice none 0 0, .int .i64 c, plV s off])
  | .ok l => ∃ v, e = .returned (.tuple #[v, .int .i64 0, .agg #[.int .i64 0, .int .i64 0, .int .i64 0]]) ∧ Kd.R k33 33 w' w.heap.size (fun _ => True) v (l.map (tk33 s))
theorem plV_0 (s : ByteArray) : plV s 0 = .agg #[.int .i64 0, .int .i64 1, .int .i64 1] := rfl
def z3 : Array Value := #[.int .i64 0, .int .i64 0, .int .i64 0]
theorem alloc26 (ev : Operand → Value) (d : Option Tmp) (ty : TypeId) (ps : String) (af : Array Edge) (W : World) :
    (execOp ev ⟨d, .alloc 26, ty, ps, af, none⟩).run Try.prog W = .ok (.value (.pointer (some ⟨W.heap.size, 0, none⟩))) (W.alloc (.cells z3 26 (0, 0))) := by
  kernel_rfl
theorem below3 {w0 w : World} {g2 : Nat} (h : Below w0.heap.size w0 w) (hg : w0.heap.size ≤ g2) (a b c : Value) : Below w0.heap.size w0 (((w.setCell ⟨g2, 0, none⟩ a).setCell ⟨g2, 1, none⟩ b).setCell ⟨g2, 2, none⟩ c) :=
  below_set (below_set (below_set h hg) hg) hg
theorem set3 (cs : Array Value) (hs : cs.size = 3) (a b c : Value) : ((cs.setIfInBounds 0 a).setIfInBounds 1 b).setIfInBounds 2 c = #[a, b, c] := by
  obtain ⟨l⟩ := cs
  match l, hs with
  | [_, _, _], _ => simp only [List.setIfInBounds_toArray, List.set_cons_zero, List.set_cons_succ]
theorem blk3 {w : World} {g2 : Nat} {t : TypeId} {cs : Array Value} (h : w.heap[g2]? = some (.cells cs t (0, 0))) (hs : cs.size = 3) (a b c : Value) : (((w.setCell ⟨g2, 0, none⟩ a).setCell ⟨g2, 1, none⟩ b).setCell ⟨g2, 2, none⟩ c).heap[g2]? = some (.cells #[a, b, c] t (0, 0)) :=
  blk_put (blk_set (blk_set h 0 a) 1 b) 2 c (set3 cs hs a b c)
theorem info33 : (Try.prog.info? 33).map (fun i => (i.zero, i.size, i.bytes)) = some (some (.agg zcells), 6, 56) := by kernel_rfl
set_option maxHeartbeats 8000000 in
set_option maxRecDepth 100000 in
theorem all_calls (s : ByteArray) (w : World) (mx : Int) (hm : w.cell? ⟨0, 0, none⟩ = some (.int .i64 mx)) (hs : s.size ≤ 1000000000) :
    Calls Try.prog 11 #[.string s] w fun e w' => AllPost s w (lexA s.data.toList) e w' ∧ Below w.heap.size w w' := by
  have I26 : Aside0 ((Try.prog.info? 26).map (·.size) = some 3) := ⟨by kernel_rfl⟩
  have I33 : Aside0 ((Try.prog.info? 33).map (·.size) = some 6) := ⟨by kernel_rfl⟩
  have HM := Aside0.mk hm
  clear hm
  by_cases hbig : 65536 < s.size
  · have hbi : (65536 : Int) < (s.size : Int) := by omega
    have HL : Aside0 (lexA s.data.toList = .err 2 0) := ⟨by rw [lexA_eq, if_pos (by rw [slen]; exact hbig)]⟩
    go_enter Try.func11, Try.ntmps11
    go_wp2_with (first
      | ((with_reducible refine gate_dst (N := 4) rfl ?_); refine box_event ?hg (N := 4) ?hd (cs := z3) (t := 26) ?hr ?_; (case hd => rfl); (case hg => rfl); (case hr => exact alloc26 _ _ _ _ _ _); intro g4 hg_ wa hbox_ hba_; have B4 := Aside0.mk hbox_; have HBA := Aside0.mk hba_; have G4 := Aside0.mk hg_; clear hg_ hbox_ hba_)
      | (go_at_call 20; (with_reducible refine (at_calls s 0 0 _ hs (by omega) (by omega)).mono ?_); rw [plV_0]; rintro e w1 ⟨rfl, hb⟩; have HB9 := Aside0.mk hb; clear hb; have B4X := Aside0.mk (blk_below B4.out HB9.out))
      | ((with_reducible refine gate_op (.store 26 (.tmp 4) (.tmp 13)) rfl ?_); refine put_row rfl 26 (.tmp 4) (.tmp 13) rfl g4 (by rfl) 26 z3 #[.int .i64 0, .int .i64 1, .int .i64 1] (by rfl) B4X.out I26.out rfl (by simp [Value.oneCell']) ?_; intro w2 hb_ hk_ hbl_ hsz_; have B4Y := Aside0.mk hb_; have HKY := Aside0.mk hk_; have HBY := Aside0.mk hbl_; clear hb_ hk_ hbl_ hsz_))
    refine bodyPost_ret (v := .tuple #[.slice none 0 0, .int .i64 2, .agg #[.int .i64 0, .int .i64 1, .int .i64 1]]) ((res_ttc rfl _ _ g4 26 #[.int .i64 0, .int .i64 1, .int .i64 1] (0, 0) _ rfl B4Y.out Try.underlying26 rfl I26.out).trans rfl) rfl ⟨?_, (below_then HBA.out HBA.out.size HB9.out).trans (HBY.out _ (Nat.le_of_eq G4.out.symm))⟩
    rw [HL.out]
    exact rfl
  · have hbi : (s.size : Int) ≤ 65536 := by omega
    have HL : Aside0 (lexA s.data.toList = lexP s.data.toList 0) := ⟨by rw [lexA_eq, if_neg (by rw [slen]; exact hbig)]⟩
    have HS := Aside0.mk hbig
    clear hbig
    go_enter Try.func11, Try.ntmps11
    go_wp2_with (((with_reducible refine gate_dst (N := 4) rfl ?_); refine box_event ?hg (N := 4) ?hd (cs := z3) (t := 26) ?hr ?_; (case hd => rfl); (case hg => rfl); (case hr => exact alloc26 _ _ _ _ _ _); intro g4 hg_ wa hbox_ hba_; have B4 := Aside0.mk hbox_; have HBA := Aside0.mk hba_; have G4 := Aside0.mk hg_; clear hg_ hbox_ hba_))
    have hR0 : Rd w (wa.alloc (.cells #[.int .i64 0, .int .i64 1, .int .i64 0, .string s] 50)) wa.heap.size s 0 := IsS50.new w wa 0 1 0 s HBA.out
    have hB0 := below_alloc HBA.out (.cells #[.int .i64 0, .int .i64 1, .int .i64 0, .string s] 50)
    have h4 : (wa.alloc (.cells #[.int .i64 0, .int .i64 1, .int .i64 0, .string s] 50)).heap[g4]? = some (.cells z3 26 (0, 0)) := blk_alloc B4.out _
    have hne : g4 < wa.heap.size := blk_lt B4.out
    generalize wa.alloc (.cells #[.int .i64 0, .int .i64 1, .int .i64 0, .string s] 50) = wb at hR0 hB0 h4 ⊢
    generalize wa.heap.size = gR at hR0 hne ⊢
    have HR0 := Aside0.mk hR0
    have HB0 := Aside0.mk hB0
    have H4 := Aside0.mk h4
    have HNE := Aside0.mk hne
    clear hR0 hB0 h4 hne B4 HBA
    go_loopg [2] (s.size + 1) (fun kq v wr => ∃ (off : Nat) (acc : List T), Aside0 (s.size + 1 ≤ off + kq) ∧ Aside0 (off ≤ s.size) ∧ Aside0 (acc.length ≤ off) ∧ Aside0 (Kd.R k33 33 wr w.heap.size (fun k => k ≠ gR ∧ k ≠ g4) v (acc.map (tk33 s))) ∧ Aside0 (lexP s.data.toList 0 = R.app acc (lexP (rst s off) off)) ∧ Aside0 (Rd w wr gR s off) ∧ Aside0 (Below w.heap.size w wr) ∧ Aside0 (wr.heap[g4]? = some (.cells z3 26 (0, 0))))
    case atStart => exact ⟨0, [], ⟨by omega⟩, ⟨by omega⟩, ⟨Nat.le_refl _⟩, ⟨Kd.R_nil _ _ _ _ _⟩, ⟨(app_nil _).symm⟩, HR0, HB0, H4⟩
    case round =>
      obtain ⟨off, acc, HK, HO, HA, HRW, HLX, HRD, HBW, H4⟩ := hrel
      clear HR0 HB0
      cases gk with
      | zero => exact absurd HK.out (by have h_ := HO.out; omega)
      | succ k1 =>
        obtain ⟨x, hx⟩ : ∃ x, gapL (rst s off) = x := ⟨_, rfl⟩
        have hxb := gap_bd (rst s off)
        rw [hx, rst_len] at hxb
        have HX := Aside0.mk hx
        clear hx
        by_cases hneg : x < 0
        · have HL2 : Aside0 (lexP s.data.toList 0 = .err 12 s.size) := ⟨by rw [HLX.out, lexP_err _ (by rw [HX.out]; exact hneg), rst_len]; show R.err 12 _ = _; congr 1; have h_ := HO.out; omega⟩
          go_wp2_with (first
            | (go_at_call 22; (with_reducible refine (gap_is w _ gR s mx HM.out hs off HO.out HRD.out HBW.out HX.out).mono ?_); rintro e w1 ⟨rfl, hI1, hB1, hK1⟩; have HI1 := Aside0.mk hI1; have HB1 := Aside0.mk hB1; have HK1 := Aside0.mk hK1; have b41_ := hK1.blk H4.out (Nat.ne_of_lt HNE.out) (by simp); have B41 := Aside0.mk b41_; clear hI1 hB1 hK1 b41_)
            | (go_at_call 20; (with_reducible refine (at_calls s (s.size : Int) s.size _ hs (by omega) (by omega)).mono ?_); unfold plV; rintro e w2 ⟨rfl, hb⟩; have HB9 := Aside0.mk hb; clear hb; have B4X := Aside0.mk (blk_below B41.out HB9.out))
            | ((with_reducible refine gate_op (.store 26 (.tmp 4) (.tmp 25)) rfl ?_); refine put_row rfl 26 (.tmp 4) (.tmp 25) rfl g4 (by rfl) 26 z3 #[.int .i64 (s.size : Int), .int .i64 (lnA s s.size), .int .i64 ((s.size : Int) - stA s s.size + 1)] (by rfl) B4X.out I26.out rfl (by simp [Value.oneCell']) ?_; intro w3 hb_ hk_ hbl_ hsz_; have B4Y := Aside0.mk hb_; have HKY := Aside0.mk hk_; have HBY := Aside0.mk hbl_; clear hb_ hk_ hbl_ hsz_))
          refine bodyPost_ret (v := .tuple #[.slice none 0 0, .int .i64 12, .agg #[.int .i64 (s.size : Int), .int .i64 (lnA s s.size), .int .i64 ((s.size : Int) - stA s s.size + 1)]]) ((res_ttc rfl _ _ g4 26 #[.int .i64 (s.size : Int), .int .i64 (lnA s s.size), .int .i64 ((s.size : Int) - stA s s.size + 1)] (0, 0) _ rfl B4Y.out Try.underlying26 rfl I26.out).trans rfl) rfl ⟨?_, (below_then HB1.out HB1.out.size HB9.out).trans (HBY.out _ (Nat.le_of_eq G4.out.symm))⟩
          rw [HL.out, HL2.out]
          exact rfl
        · by_cases hpos : 0 < x
          · obtain ⟨m, rfl⟩ := Int.eq_ofNat_of_zero_le (show 0 ≤ x by omega)
            have HMB := Aside0.mk hxb
            have HPO := Aside0.mk hpos
            go_wp2_with (first
              | (go_at_call 22; (with_reducible refine (gap_is w _ gR s mx HM.out hs off HO.out HRD.out HBW.out HX.out).mono ?_); rintro e w1 ⟨rfl, hI1, hB1, hK1⟩; have HI1 := Aside0.mk hI1; have HB1 := Aside0.mk hB1; have HK1 := Aside0.mk hK1; have b41_ := hK1.blk H4.out (Nat.ne_of_lt HNE.out) (by simp); have B41 := Aside0.mk b41_; clear hI1 hB1 hK1 b41_)
              | (go_at_call 23; (with_reducible refine (pass_calls w _ gR s hs m off ?hle HI1.out HB1.out).mono ?_); (case hle => have h_ := HO.out; omega); rintro e w2 ⟨rfl, hI2, hB2, hK2⟩; have HI2 := Aside0.mk hI2; have HB2 := Aside0.mk hB2; have HK2 := Aside0.mk hK2; clear hI2 hB2 hK2))
            go_roundg k1
            case measure => omega
            case rel => exact ⟨off + m, acc, ⟨by have h_ := HK.out; have h1_ := HPO.out; omega⟩, ⟨by have h_ := HO.out; have h1_ := HMB.out; omega⟩, ⟨by have h_ := HA.out; omega⟩, ⟨Kd.R_keep (Kd.R_keep HRW.out HK1.out (fun _ h => h.1)) HK2.out (fun _ h => h.1)⟩, ⟨by rw [HLX.out, lexP_gap _ (by rw [HX.out]; exact HPO.out), HX.out, Int.toNat_natCast]; congr 2; unfold rst; rw [List.drop_drop]⟩, HI2, HB2, ⟨HK2.out.blk B41.out (Nat.ne_of_lt HNE.out) (by simp)⟩⟩
          · obtain rfl : x = 0 := by omega
            clear hneg hpos hxb
            by_cases hend : off = s.size
            · have q0 : ((off : Int) == (s.size : Int)) = true := by rw [hend]; exact beq_self_eq_true _
              have HL2 : Aside0 (lexP s.data.toList 0 = .ok acc) := ⟨by rw [HLX.out, hend, show rst s s.size = [] from by unfold rst; rw [List.drop_eq_nil_iff, slen]; exact Nat.le_refl _, lexP_nil]; show R.ok (acc ++ []) = _; rw [List.append_nil]⟩
              clear hend
              go_wp2_with (first
                | (go_at_call 22; (with_reducible refine (gap_is w _ gR s mx HM.out hs off HO.out HRD.out HBW.out HX.out).mono ?_); rintro e w1 ⟨rfl, hI1, hB1, hK1⟩; have HI1 := Aside0.mk hI1; have HB1 := Aside0.mk hB1; have HK1 := Aside0.mk hK1; have b41_ := hK1.blk H4.out (Nat.ne_of_lt HNE.out) (by simp); have B41 := Aside0.mk b41_; clear hI1 hB1 hK1 b41_; have hc0 := cellS50_0 HI1.out.1)
                | ((with_reducible refine gate_op (.store 26 (.tmp 4) (.tmp 40)) rfl ?_); refine put_row rfl 26 (.tmp 4) (.tmp 40) rfl g4 (by rfl) 26 z3 #[.int .i64 0, .int .i64 0, .int .i64 0] (by rfl) B41.out I26.out rfl (by simp [Value.oneCell']) ?_; intro w3 hb_ hk_ hbl_ hsz_; have B4Y := Aside0.mk hb_; have HKY := Aside0.mk hk_; have HBY := Aside0.mk hbl_; clear hb_ hk_ hbl_ hsz_))
              refine bodyPost_ret (v := .tuple #[u2, .int .i64 0, .agg #[.int .i64 0, .int .i64 0, .int .i64 0]]) ((res_ttc rfl _ _ g4 26 #[.int .i64 0, .int .i64 0, .int .i64 0] (0, 0) _ rfl B4Y.out Try.underlying26 rfl I26.out).trans rfl) rfl ⟨?_, HB1.out.trans (HBY.out _ (Nat.le_of_eq G4.out.symm))⟩
              rw [HL.out, HL2.out]
              exact ⟨u2, rfl, Kd.R_mono (Kd.R_keep (Kd.R_keep HRW.out HK1.out (fun _ h => h.1)) HKY.out (fun _ h => h.2)) (fun _ _ => trivial)⟩
            · have q0 : ((off : Int) == (s.size : Int)) = false := by rw [beq_eq_false_iff_ne]; omega
              have HOL : Aside0 (off < s.size) := ⟨by have h_ := HO.out; omega⟩
              have HN0 : Aside0 (rst s off ≠ []) := ⟨by have h_ := HOL.out; unfold rst; rw [ne_eq, List.drop_eq_nil_iff, slen]; omega⟩
              clear hend
              cases ht : tokL (rst s off) with
              | err c =>
                have HT := Aside0.mk ht
                have hc := tok_err ht
                have q1 : (c == 0) = false := by rw [beq_eq_false_iff_ne]; omega
                have q2 : (c != 0) = true := by rw [bne_iff_ne]; omega
                clear ht hc
                go_wp2_with (first
                  | (go_at_call 22; (with_reducible refine (gap_is w _ gR s mx HM.out hs off HO.out HRD.out HBW.out HX.out).mono ?_); rintro e w1 ⟨rfl, hI1, hB1, hK1⟩; have HI1 := Aside0.mk hI1; have HB1 := Aside0.mk hB1; have HK1 := Aside0.mk hK1; have b41_ := hK1.blk H4.out (Nat.ne_of_lt HNE.out) (by simp); have B41 := Aside0.mk b41_; clear hI1 hB1 hK1 b41_; have hc0 := cellS50_0 HI1.out.1)
                  | (go_at_call 24; (with_reducible refine (token_err w _ gR s hs off HOL.out HI1.out HB1.out HT.out).mono ?_); rintro e w2 ⟨⟨kd, tx, vv, rfl⟩, hI2, hB2, hK2⟩; have HI2 := Aside0.mk hI2; have HB2 := Aside0.mk hB2; have HK2 := Aside0.mk hK2; have b4_ := hK2.blk B41.out (Nat.ne_of_lt HNE.out) (by simp); have B42 := Aside0.mk b4_; clear hI2 hB2 hK2 b4_)
                  | ((with_reducible refine gate_dst (N := 7) rfl ?_); refine box_event ?hg (N := 7) ?hd (cs := zcells) (t := 33) ?hr ?_; (case hd => rfl); (case hg => rfl); (case hr => exact alloc33 _ _ _ _ _ _); intro g7 hg_ wb7 hbox_ hba_; have B7 := Aside0.mk hbox_; have HBA7 := Aside0.mk hba_; have G7 := Aside0.mk hg_; clear hg_ hbox_ hba_)
                  | ((with_reducible refine gate_op (.store 33 (.tmp 7) (.tmp 44)) rfl ?_); refine put_row rfl 33 (.tmp 7) (.tmp 44) rfl g7 (by rfl) 33 zcells #[.int .i64 kd, .string tx, .int .i32 vv, .int .i64 (off : Int), .int .i64 (lnA s off), .int .i64 ((off : Int) - stA s off + 1)] (by rfl) B7.out I33.out rfl (by simp [Value.oneCell']) ?_; intro w7 hb_ hk_ hbl_ hsz_; have B7Y := Aside0.mk hb_; have HK7 := Aside0.mk hk_; have HB7 := Aside0.mk hbl_; clear hb_ hk_ hbl_ hsz_; have b47_ := HK7.out.blk (blk_below B42.out HBA7.out) (Nat.ne_of_lt (by rw [G7.out]; exact blk_lt B42.out)) (by simp); have B47 := Aside0.mk b47_; have b7_ := B7Y.out; have c70 : w7.cell? ⟨g7, 0, none⟩ = some (.int .i64 kd) := (blk_cell b7_ 0).trans rfl; have f70 := blk_frozen b7_ 0; have c71 : w7.cell? ⟨g7, 1, none⟩ = some (.string tx) := (blk_cell b7_ 1).trans rfl; have f71 := blk_frozen b7_ 1; have c72 : w7.cell? ⟨g7, 2, none⟩ = some (.int .i32 vv) := (blk_cell b7_ 2).trans rfl; have f72 := blk_frozen b7_ 2; have c73 : w7.cell? ⟨g7, 3, none⟩ = some (.int .i64 (off : Int)) := (blk_cell b7_ 3).trans rfl; have f73 := blk_frozen b7_ 3; have c74 : w7.cell? ⟨g7, 4, none⟩ = some (.int .i64 (lnA s off)) := (blk_cell b7_ 4).trans rfl; have f74 := blk_frozen b7_ 4; have c75 : w7.cell? ⟨g7, 5, none⟩ = some (.int .i64 ((off : Int) - stA s off + 1)) := (blk_cell b7_ 5).trans rfl; have f75 := blk_frozen b7_ 5; have b4_ := b47_; have c40 : w7.cell? ⟨g4, 0, none⟩ = some (.int .i64 0) := (blk_cell b4_ 0).trans rfl; have f40 := blk_frozen b4_ 0; have c41 : w7.cell? ⟨g4, 1, none⟩ = some (.int .i64 0) := (blk_cell b4_ 1).trans rfl; have f41 := blk_frozen b4_ 1; have c42 : w7.cell? ⟨g4, 2, none⟩ = some (.int .i64 0) := (blk_cell b4_ 2).trans rfl; have f42 := blk_frozen b4_ 2; clear b7_ b4_ b47_))
                go_region
                go_wp2
                refine bodyPost_ret (v := .tuple #[.slice none 0 0, .int .i64 c, .agg #[.int .i64 (off : Int), .int .i64 (lnA s off), .int .i64 ((off : Int) - stA s off + 1)]]) ((res_ttc rfl _ _ g4 26 #[.int .i64 (off : Int), .int .i64 (lnA s off), .int .i64 ((off : Int) - stA s off + 1)] (0, 0) _ rfl (blk_drew (blk3 B47.out rfl _ _ _)) Try.underlying26 rfl I26.out).trans rfl) rfl ⟨?_, (below3 (below_then HB2.out HB2.out.size (HBA7.out.trans (HB7.out _ (Nat.le_of_eq G7.out.symm)))) (Nat.le_of_eq G4.out.symm) _ _ _).drew⟩
                rw [HL.out, HLX.out, lexP_terr _ HX.out HN0.out HT.out]
                exact rfl
              | ok kd n v =>
                have HT := Aside0.mk ht
                clear ht
                go_wp2_with (first
                  | (go_at_call 22; (with_reducible refine (gap_is w _ gR s mx HM.out hs off HO.out HRD.out HBW.out HX.out).mono ?_); rintro e w1 ⟨rfl, hI1, hB1, hK1⟩; have HI1 := Aside0.mk hI1; have HB1 := Aside0.mk hB1; have HK1 := Aside0.mk hK1; have b41_ := hK1.blk H4.out (Nat.ne_of_lt HNE.out) (by simp); have B41 := Aside0.mk b41_; clear hI1 hB1 hK1 b41_; have hc0 := cellS50_0 HI1.out.1)
                  | (go_at_call 24; (with_reducible refine (token_ok w _ gR s hs off HOL.out HI1.out HB1.out HT.out).mono ?_); rintro e w2 ⟨rfl, hI2, hB2, hK2⟩; have HI2 := Aside0.mk hI2; have HB2 := Aside0.mk hB2; have HK2 := Aside0.mk hK2; have b4_ := hK2.blk B41.out (Nat.ne_of_lt HNE.out) (by simp); have B42 := Aside0.mk b4_; clear hI2 hB2 hK2 b4_)
                  | ((with_reducible refine gate_dst (N := 7) rfl ?_); refine box_event ?hg (N := 7) ?hd (cs := zcells) (t := 33) ?hr ?_; (case hd => rfl); (case hg => rfl); (case hr => exact alloc33 _ _ _ _ _ _); intro g7 hg_ wb7 hbox_ hba_; have B7 := Aside0.mk hbox_; have HBA7 := Aside0.mk hba_; have G7 := Aside0.mk hg_; clear hg_ hbox_ hba_)
                  | ((with_reducible refine gate_op (.store 33 (.tmp 7) (.tmp 44)) rfl ?_); refine put_row rfl 33 (.tmp 7) (.tmp 44) rfl g7 (by rfl) 33 zcells #[.int .i64 kd, .string ⟨((rst s off).take n).toArray⟩, .int .i32 v, .int .i64 (off : Int), .int .i64 (lnA s off), .int .i64 ((off : Int) - stA s off + 1)] (by rfl) B7.out I33.out rfl (by simp [Value.oneCell']) ?_; intro w7 hb_ hk_ hbl_ hsz_; have B7Y := Aside0.mk hb_; have HK7 := Aside0.mk hk_; have HB7 := Aside0.mk hbl_; clear hb_ hk_ hbl_ hsz_; have b47_ := HK7.out.blk (blk_below B42.out HBA7.out) (Nat.ne_of_lt (by rw [G7.out]; exact blk_lt B42.out)) (by simp); have B47 := Aside0.mk b47_; clear b47_; have hb27_ := HBA7.out.trans (HB7.out _ (Nat.le_of_eq G7.out.symm)); have HB07 := Aside0.mk (below_then HB2.out HB2.out.size hb27_); have HO7 := Aside0.mk (Kd.R_below (Kd.R_keep (Kd.R_keep HRW.out HK1.out (fun _ h => h.1)) HK2.out (fun _ h => h.1)) hb27_); have HI7 := Aside0.mk (HI2.out.below hb27_); have HF7 := Aside0.mk (And.intro (HI7.out.lt) (blk_lt B47.out)); clear hb27_)
                  | ((with_reducible refine gate_op (.load 33 (.tmp 7)) rfl ?_); refine wpList_load_row rfl 33 (.tmp 7) rfl g7 rfl 33 #[.int .i64 kd, .string ⟨((rst s off).take n).toArray⟩, .int .i32 v, .int .i64 (off : Int), .int .i64 (lnA s off), .int .i64 ((off : Int) - stA s off + 1)] (0, 0) _ B7Y.out Try.underlying33 rfl I33.out ?_)
                  | ((with_reducible refine gate_builtin (b := .append) (xs := #[.tmp 51, .tmp 53]) rfl ?_); at_builtin; refine Kd.R_append k33 (w0 := w) w.heap.size rfl (.tmp 51) (.tmp 53) 23 33 (.agg zcells) 56 rfl Try.underlying23 info33 rfl (by decide) (by omega) u2 (acc.map (tk33 s)) (tk33 s ⟨kd, (rst s off).take n, v, off⟩) [.int .i64 kd, .string ⟨((rst s off).take n).toArray⟩, .int .i32 v, .int .i64 (off : Int), .int .i64 (lnA s off), .int .i64 ((off : Int) - stA s off + 1)] (fun k => k ≠ gR ∧ k ≠ g4) (fun _ => False) rfl rfl ?aP (fun _ hk => hk.elim) ?aF ?aO ?aB ?aS ?aL ?_; (case aP => exact k33_mkM _ _ _ _); (case aF => exact (fun k hk => ⟨by have h_ := HF7.out; omega, by have h_ := HF7.out; omega⟩)); (case aO => exact HO7.out); (case aB => exact HB07.out); (case aS => exact HB07.out.size); (case aL => rw [List.length_map]; have h_ := HA.out; have h1_ := HOL.out; omega); intro v9 w9 ho hb hg hat; have HO9 := Aside0.mk ho; have HB9 := Aside0.mk hb; have HG9 := Aside0.mk hg; clear ho hb hg hat))
                go_roundg k1
                case measure => omega
                case rel => exact ⟨off + n, acc ++ [⟨kd, (rst s off).take n, v, off⟩], ⟨by have h_ := HK.out; have h1_ := tok_bd HT.out; omega⟩, ⟨by have h_ := HOL.out; have h1_ := (tok_bd HT.out).2; rw [rst_len] at h1_; omega⟩, ⟨by rw [List.length_append]; have h_ := HA.out; have h1_ := (tok_bd HT.out).1; simp only [List.length_cons, List.length_nil]; omega⟩, ⟨by rw [List.map_append]; exact HO9.out⟩, ⟨by rw [HLX.out, lexP_tok _ HX.out HN0.out HT.out, app_cons]; congr 2; unfold rst; rw [List.drop_drop]⟩, ⟨IsS50.grown HI7.out HG9.out (fun h => (HO7.out.1 gR h.symm).1 rfl)⟩, ⟨HB9.out⟩, ⟨blk_grown B47.out HG9.out (fun h => (HO7.out.1 g4 h.symm).2 rfl)⟩⟩

end Go.Proofs.Ytbmabnmidacpdaa.L
