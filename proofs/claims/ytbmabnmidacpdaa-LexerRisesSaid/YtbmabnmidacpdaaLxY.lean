import Derived.Test.YtbmabnmidacpdaaProg
import Derived.Below
import Derived.Deep.Draws
import Derived.Deep.AppendLies
import Derived.Maps.AppendAt
import Derived.OwnWalk
import Derived.Laws.BytesArg
import Derived.Laws.MakeOwn
import Derived.Laws.OwnMore
import Derived.Deep.OwnRows
import Derived.Tactics
import Derived.Lib.ConvBytes
import Derived.Laws.Slices
import Derived.WalkKit
import Derived.KernelRfl
import Derived.RowKit3
import Derived.IntWalk
import Derived.Deep.LoopGhost
import Derived.Deep.QuietTactic
import Derived.BigQuiet
import Derived.WideLaws
import Derived.Deep.DeepCutAuto
import Derived.Deep.CutBlock
import Derived.Deep.RegionHeld3
import Derived.Laws.Rows
import Derived.Lib.AppendStr
import Derived.ArgAppend
import Derived.Laws.IdiomCopy
import Derived.OrdersHeld
import Derived.Laws.BitsLemmas
import Derived.RowKit
import Derived.Test.YtbmabnmidacpdaaWWords
import Derived.Test.YtbmabnmidacpdaaWLast
import Derived.Test.YtbmabnmidacpdaaWTab
import Derived.Test.YtbmabnmidacpdaaWQPut
import Derived.Test.YtbmabnmidacpdaaWApart
import Derived.Test.YtbmabnmidacpdaaWArr
import Derived.Test.YtbmabnmidacpdaaWZeros
import Derived.Test.YtbmabnmidacpdaaWFoot
import Derived.Test.YtbmabnmidacpdaaWKept
import Derived.Test.YtbmabnmidacpdaaWShare
import Derived.Test.YtbmabnmidacpdaaWN
import Derived.Test.YtbmabnmidacpdaaWEqStruct
import Derived.Test.YtbmabnmidacpdaaWGuard
import Derived.Test.YtbmabnmidacpdaaWNEv
import Derived.Test.YtbmabnmidacpdaaWMore
import Derived.Test.YtbmabnmidacpdaaX1
import Derived.Test.YtbmabnmidacpdaaX2
import Derived.Test.YtbmabnmidacpdaaX3
import Derived.Test.YtbmabnmidacpdaaX4
import Derived.Test.YtbmabnmidacpdaaSh
import Derived.Test.YtbmabnmidacpdaaLxA
import Derived.Test.YtbmabnmidacpdaaLxB
import Derived.Test.YtbmabnmidacpdaaLxC
import Derived.Test.YtbmabnmidacpdaaLxD
import Derived.Test.YtbmabnmidacpdaaLxP
import Derived.Test.YtbmabnmidacpdaaHw
import Derived.Test.YtbmabnmidacpdaaLxE
import Derived.Test.YtbmabnmidacpdaaLxS
import Derived.Test.YtbmabnmidacpdaaLxT
import Derived.Test.YtbmabnmidacpdaaLxV
import Derived.Test.YtbmabnmidacpdaaLxU
import Derived.Test.YtbmabnmidacpdaaLxW
import Derived.Test.YtbmabnmidacpdaaLxX
import Derived.Test.YtbmabnmidacpdaaLxR
import Derived.DataShut
import Derived.Deep.RegionLawGrows
import Derived.Deep.Upon
import Derived.Deep.MidRow
namespace Go.Proofs.Ytbmabnmidacpdaa.L
open Go.RowKit Go.Proofs.Ytbmabnmidacpdaa.X Go.Proofs.YtbmabnmidacpdaaW.PrintWords Go.Proofs.YtbmabnmidacpdaaW.PrintLast Go.Proofs.YtbmabnmidacpdaaW.PrintMore
attribute [local go_sem] max2_int min2_int max_two min_two max_three min_three max_four min_four   -- for this text's walks alone
set_option linter.unusedVariables false
set_option linter.unusedSimpArgs false
theorem refat_agg (s : ByteArray) (n : Nat) (w : World) (hs : s.size ≤ 1000000000) (hn : n ≤ s.size) :
    Calls Try.prog 14 #[.string s, .int .i64 (n : Int)] w fun e w' => e = .returned (.agg #[.int .i64 (n : Int), .int .i64 (lnA s n), .int .i64 ((n : Int) - stA s n + 1)]) ∧ Below w.heap.size w w' :=
  refat_calls s (n : Int) n w hs (by omega)
theorem wrap_i64 (x : Int) (h0 : 0 ≤ x) (h1 : x ≤ 1000000000) : IntKind.i64.wrap x = x := by
  exact IntWalk.i64_in _ (by omega)
set_option maxHeartbeats 16000000 in
set_option maxRecDepth 100000 in
theorem rises_calls (s : ByteArray) (w : World) (mx : Int) (hm : w.cell? ⟨0, 0, none⟩ = some (.int .i64 mx)) (hs : s.size ≤ 140737488351232) :
    Calls Try.prog 5 #[.string s] w fun e w' => e = .returned (.bool true) ∧ Below w.heap.size w w' := by
  have I26 : Aside0 ((Try.prog.info? 26).map (·.size) = some 3) := ⟨by kernel_rfl⟩
  have I33 : Aside0 ((Try.prog.info? 33).map (·.size) = some 6) := ⟨by kernel_rfl⟩
  obtain ⟨t, ht⟩ : ∃ t, cutB s = t := ⟨_, rfl⟩
  have ht2 : t.size ≤ 2000 := by rw [← ht]; exact cut_size s
  have hts : t.size ≤ 1000000000 := by omega
  have HT := Aside0.mk ht
  have HM := Aside0.mk hm
  clear ht hm hs
  cases hr : lexA t.data.toList with
  | err c off =>
    have hoff := lexA_off (by rw [slen]; omega) hr
    have HR := Aside0.mk hr
    have qc0 : (c != 0) = true := by rw [bne_iff_ne]; omega
    have qc1 : (c == 0) = false := by rw [beq_eq_false_iff_ne]; omega
    clear hr hoff
    go_enter Try.func5, Try.ntmps5
    go_wp2_with (first
      | (go_at_call 10; (with_reducible refine (cut_calls s _).mono ?_); rw [HT.out]; rintro e w1 ⟨rfl, hb⟩; have HB1 := Aside0.mk hb; clear hb)
      | (go_at_call 11; (with_reducible refine (all_err t _ mx (MXb HM.out HB1.out) hts HR.out).mono ?_); rintro e w2 ⟨rfl, hb⟩; have HB2 := Aside0.mk (below_then HB1.out HB1.out.size hb); clear hb)
      | ((with_reducible refine gate_dst (N := 5) rfl ?_); refine box_event ?hg (N := 5) ?hd (cs := z3) (t := 26) ?hr ?_; (case hd => rfl); (case hg => rfl); (case hr => exact alloc26 _ _ _ _ _ _); intro g5 hg_ wb5 hbox_ hba_; have BZ5 := Aside0.mk hbox_; have HZ5 := Aside0.mk hba_; have GZ5 := Aside0.mk hg_; clear hg_ hbox_ hba_)
      | ((with_reducible refine gate_op (.store 26 (.tmp 5) (.tmp 23)) rfl ?_); refine put_row rfl 26 (.tmp 5) (.tmp 23) rfl g5 (by rfl) 26 z3 #[.int .i64 (off : Int), .int .i64 (lnA t off), .int .i64 ((off : Int) - stA t off + 1)] (by rfl) BZ5.out I26.out rfl (by simp [Value.oneCell']) ?_; intro wp5 hb_ hk_ hbl_ hsz_; have BP5 := Aside0.mk hb_; have KP5 := Aside0.mk hk_; have QP5 := Aside0.mk hbl_; clear hb_ hk_ hbl_ hsz_; have HBP5 := Aside0.mk ((below_then HB2.out HB2.out.size HZ5.out).trans (QP5.out _ (by rw [GZ5.out]; exact HB2.out.size))))
      | (go_at_call 15; (with_reducible refine (lives_calls _ mx (MXb HM.out HBP5.out)).mono ?_); rintro e w8 ⟨rfl, hb⟩; have HB8 := Aside0.mk (below_then HBP5.out HBP5.out.size hb); clear hb))
    go_ret
    exact ⟨rfl, HB8.out⟩
  | ok L =>
    have hl := lexA_len (by rw [slen]; omega) hr
    rw [slen] at hl
    have hr0 : lexP t.data.toList 0 = .ok L := by
      have h_ := hr
      rw [lexA_eq, if_neg (by rw [slen]; omega)] at h_
      exact h_
    have HR := Aside0.mk hr
    have HR0 := Aside0.mk hr0
    obtain ⟨n, hn⟩ : ∃ n, L.length = n := ⟨_, rfl⟩
    rw [hn] at hl
    have hml : (L.map (tk33 t)).length = n := by rw [List.length_map, hn]
    have HL := Aside0.mk hml
    have HN := Aside0.mk hn
    have hn2 : n ≤ 2000 := by omega
    have keq := fun w a b c => eq26 w a b c
    clear hr hr0 hml hn hl
    go_enter Try.func5, Try.ntmps5
    go_wp2_with (first
      | (go_at_call 10; (with_reducible refine (cut_calls s _).mono ?_); rw [HT.out]; rintro e w1 ⟨rfl, hb⟩; have HB1 := Aside0.mk hb; clear hb)
      | (go_at_call 11; (with_reducible refine (all_ok t _ mx (MXb HM.out HB1.out) hts HR.out).mono ?_); rw [HN.out]; rintro e w2 ⟨A, cp, rfl, hcp, hR, hb⟩; have HB2 := Aside0.mk (below_then HB1.out HB1.out.size hb); have HC2 := Aside0.mk (show Kd.C k33 w2 A n (L.map (tk33 t)) from by have h_ := (Kd.R_reads' hR).2.2; rw [HL.out] at h_; exact h_); clear hb hR)
      | ((with_reducible refine gate_dst (N := 5) rfl ?_); refine box_event ?hg (N := 5) ?hd (cs := z3) (t := 26) ?hr ?_; (case hd => rfl); (case hg => rfl); (case hr => exact alloc26 _ _ _ _ _ _); intro g5 hg_ wb5 hbox_ hba_; have BZ5 := Aside0.mk hbox_; have HZ5 := Aside0.mk hba_; have GZ5 := Aside0.mk hg_; clear hg_ hbox_ hba_)
      | ((with_reducible refine gate_op (.store 26 (.tmp 5) (.tmp 23)) rfl ?_); refine put_row rfl 26 (.tmp 5) (.tmp 23) rfl g5 (by rfl) 26 z3 #[.int .i64 0, .int .i64 0, .int .i64 0] (by rfl) BZ5.out I26.out rfl (by simp [Value.oneCell']) ?_; intro wp5 hb_ hk_ hbl_ hsz_; have BP5 := Aside0.mk hb_; have KP5 := Aside0.mk hk_; have QP5 := Aside0.mk hbl_; clear hb_ hk_ hbl_ hsz_; have HBP5 := Aside0.mk ((below_then HB2.out HB2.out.size HZ5.out).trans (QP5.out _ (by rw [GZ5.out]; exact HB2.out.size)))))
    have HC5 := Aside0.mk (Kd.C_below HC2.out (HZ5.out.trans (QP5.out _ (by rw [GZ5.out]; exact Nat.le_refl _))))
    go_loopg [6, 29] (n + 1) (fun kq v6 v29 wr => ∃ j e : Nat, v29 = .int .i64 (j : Int) ∧ v6 = .int .i64 (e : Int) ∧ Aside0 (n + 1 ≤ j + kq) ∧ Aside0 (j ≤ n) ∧ Aside0 (e ≤ t.size) ∧ Aside0 (lexP (rst t e) e = .ok (L.drop j)) ∧ Aside0 (Below wp5.heap.size wp5 wr))
    case atStart => exact ⟨0, 0, rfl, rfl, ⟨by omega⟩, ⟨by omega⟩, ⟨by omega⟩, HR0, ⟨Below.refl _ _⟩⟩
    case round =>
      obtain ⟨j, e, rfl, rfl, HJK, HJ, HE, HX, HBJ⟩ := hrel
      have HBR := Aside0.mk (below_then HBP5.out HBP5.out.size HBJ.out)
      cases gk with
      | zero => exact absurd HJK.out (by have h_ := HJ.out; omega)
      | succ k2 =>
        by_cases hj : j < n
        · obtain ⟨x, hx⟩ : ∃ x, L[j]'(by rw [HN.out]; exact hj) = x := ⟨_, rfl⟩
          have hxd : L.drop j = x :: L.drop (j + 1) := by rw [← hx]; exact List.drop_eq_getElem_cons _
          have hlx := HX.out
          rw [hxd] at hlx
          obtain ⟨nn, k, hoff, hnk, hk1, htx, htl, hgap, htok, hgz, hnext⟩ := lexP_next hlx
          rw [rst_len] at hnk
          rw [rst_drop] at htx htok hgz hnext
          have hrx : rd_T33 (L.map (tk33 t)) (j : Int) = tk33 t x := by
            rw [rd33 (by rw [HL.out]; exact hj), List.getElem_map, hx]
          obtain ⟨ad, e_, x0, x1, x2, x3, x4, x5⟩ := at_T33 (Kd.C_below HC5.out HBJ.out) (j : Int) (by omega) (by omega)
          subst e_
          rw [Int.toNat_natCast, hrx] at x0 x1 x2 x3 x4 x5
          obtain ⟨p, hp⟩ : ∃ p, e + nn = p := ⟨_, rfl⟩
          obtain ⟨X, hX⟩ : ∃ X : ByteArray, ⟨x.tx.toArray⟩ = X := ⟨_, rfl⟩
          obtain ⟨kd, hkd⟩ : ∃ q, x.kd = q := ⟨_, rfl⟩
          obtain ⟨v, hv⟩ : ∃ q, x.v = q := ⟨_, rfl⟩
          unfold tk33 at x0 x1 x2 x3 x4 x5
          simp only [hoff, hp, hX, hkd, hv] at x0 x1 x2 x3 x4 x5
          have hXz : X.size = k := by rw [← hX, ba_size, htl]
          have hXl : X.data.toList = (rst t p).take k := by rw [← hX, ba_list, htx, hp]
          have hep : e ≤ p := by omega
          have hpk : p + X.size ≤ t.size := by rw [hXz]; have h_ := HE.out; omega
          have hEX : t.extract p (p + X.size) = X := by
            have h1_ := ba_of X _ hXl
            have h2_ : (t.extract p (p + X.size)).data.toList = (rst t p).take k := by
              rw [Lib.extract_data, hXz]
              show _ = ((t.data.toList.drop p).take _)
              simp [List.drop_take]
            rw [ba_of _ _ h2_]
            exact h1_.symm
          have hGE : lexA (t.extract e p).data.toList = .ok [] := by
            have h2_ : (t.extract e p).data.toList = (rst t e).take nn := by
              rw [Lib.extract_data, ← hp]
              show _ = ((t.data.toList.drop e).take _)
              simp [List.drop_take]
            rw [h2_, lexA_eq, if_neg (by rw [List.length_take, rst_len]; omega)]
            exact hgap
          have hnx : lexP (rst t (p + X.size)) (p + X.size) = .ok (L.drop (j + 1)) := by
            have h_ := hnext
            rw [← Nat.add_assoc, hp, ← hXz] at h_
            exact h_
          have hYe : X.toList.isEmpty = false := by
            rw [bal_list, hXl]
            cases hz : (rst t p).take k with
            | nil =>
              have h_ := congrArg List.length hz
              rw [← hXl, slen, hXz] at h_
              simp at h_
              omega
            | cons => rfl
          have HJ9 := Aside0.mk hj
          have HGE := Aside0.mk hGE
          have HNX := Aside0.mk hnx
          have HPT : Aside0 (p ≤ t.size) := ⟨by omega⟩
          have HPK := Aside0.mk hpk
          have HEP := Aside0.mk hep
          have q1 : ((j : Int) < (n : Int)) = True := by apply eq_true; omega
          have q2 : (0 : Int) ≤ (j : Int) := by omega
          have HEX := Aside0.mk hEX
          have HYE := Aside0.mk hYe
          have HGS : Aside0 ((t.extract e p).size ≤ 1000000000) := ⟨by rw [← slen, Lib.extract_data]; simp; omega⟩
          have HEW : Aside0 (wrap64 ((j : Int) + 1) = ((j + 1 : Nat) : Int)) := ⟨by rw [w64 _ (by omega) (by omega)]; rfl⟩
          have HEW2 : Aside0 (wrap64 ((p : Int) + (X.size : Int)) = ((p + X.size : Nat) : Int)) := ⟨by rw [w64 _ (by omega) (by omega)]; rfl⟩
          clear hj hx hxd hlx hoff hnk hk1 htx htl hgap htok hgz hnext hrx hp hX hkd hv hXz hXl hep hpk hEX hGE hnx hYe
          go_upto_region 10 with (first
            | ((with_reducible refine gate_dst (N := 8) rfl ?_); refine box_event ?hg (N := 8) ?hd (cs := zcells) (t := 33) ?hr ?_; (case hd => rfl); (case hg => rfl); (case hr => exact alloc33 _ _ _ _ _ _); intro g8 hg_ wb8 hbox_ hba_; have BZ8 := Aside0.mk hbox_; have HZ8 := Aside0.mk hba_; have GZ8 := Aside0.mk hg_; clear hg_ hbox_ hba_)
            | ((with_reducible refine gate_op (.store 33 (.tmp 8) (.tmp 32)) rfl ?_); refine put_row rfl 33 (.tmp 8) (.tmp 32) rfl g8 (by rfl) 33 zcells #[.int .i64 kd, .string X, .int .i32 v, .int .i64 (p : Int), .int .i64 (lnA t p), .int .i64 ((p : Int) - stA t p + 1)] (by rfl) BZ8.out I33.out rfl (by simp [Value.oneCell']) ?_; intro wp8 hb_ hk_ hbl_ hsz_; have BP8 := Aside0.mk hb_; have KP8 := Aside0.mk hk_; have QP8 := Aside0.mk hbl_; clear hb_ hk_ hbl_ hsz_; have HBP8 := Aside0.mk ((below_then HBR.out HBR.out.size HZ8.out).trans (QP8.out _ (by rw [GZ8.out]; exact HBR.out.size))); have b8_ := BP8.out; have c80 : wp8.cell? ⟨g8, 0, none⟩ = some (.int .i64 kd) := (blk_cell b8_ 0).trans rfl; have f80 := blk_frozen b8_ 0; have c81 : wp8.cell? ⟨g8, 1, none⟩ = some (.string X) := (blk_cell b8_ 1).trans rfl; have f81 := blk_frozen b8_ 1; have c82 : wp8.cell? ⟨g8, 2, none⟩ = some (.int .i32 v) := (blk_cell b8_ 2).trans rfl; have f82 := blk_frozen b8_ 2; have c83 : wp8.cell? ⟨g8, 3, none⟩ = some (.int .i64 (p : Int)) := (blk_cell b8_ 3).trans rfl; have f83 := blk_frozen b8_ 3; have c84 : wp8.cell? ⟨g8, 4, none⟩ = some (.int .i64 (lnA t p)) := (blk_cell b8_ 4).trans rfl; have f84 := blk_frozen b8_ 4; have c85 : wp8.cell? ⟨g8, 5, none⟩ = some (.int .i64 ((p : Int) - stA t p + 1)) := (blk_cell b8_ 5).trans rfl; have f85 := blk_frozen b8_ 5; clear b8_))

          go_cut [74] from 36 to 74 (fun v74 wd => v74 = .bool false ∧ Aside0 (Below wp8.heap.size wp8 wd))
          case first =>
            have d38 : decide ((p : Int) < (e : Int)) = false := decide_eq_false (by have h_ := HEP.out; omega)
            have d38n : decide (p < e) = false := decide_eq_false (by have h_ := HEP.out; omega)
            have w46 : IntKind.i64.wrap ((t.size : Int) - (X.size : Int)) = (t.size : Int) - (X.size : Int) := wrap_i64 _ (by have h_ := HPK.out; omega) (by omega)
            have d47 : decide ((t.size : Int) - (X.size : Int) < (p : Int)) = false := decide_eq_false (by have h_ := HPK.out; omega)
            have w56 : IntKind.i64.wrap ((p : Int) + (X.size : Int)) = (p : Int) + (X.size : Int) := wrap_i64 _ (by omega) (by have h_ := HPK.out; omega)
            have n56 : ((p : Int) + (X.size : Int)).toNat = p + X.size := by omega
            have n57 : (p : Int) ≤ (p : Int) + (X.size : Int) := by omega
            have n58 : (p : Int) + (X.size : Int) ≤ (t.size : Int) := by have h_ := HPK.out; omega
            have n59 : (0 : Int) ≤ (p : Int) + (X.size : Int) := by omega
            have e57 := HEX.out
            have e60 : (X.toList != X.toList) = false := by simp
            have e73 := HYE.out
            refine start_ (n := 39) (S := fun w_ => w_.cell? ⟨g8, 1, none⟩ = some (.string X) ∧ w_.cell? ⟨g8, 3, none⟩ = some (.int .i64 (p : Int)) ∧ w_.cell? ⟨g8, 4, none⟩ = some (.int .i64 (lnA t p)) ∧ w_.cell? ⟨g8, 5, none⟩ = some (.int .i64 ((p : Int) - stA t p + 1)) ∧ Aside0 (Below wp8.heap.size wp8 w_)) (ds := []) #[false, false, false, false, false, false, false, false, false, false, false, false, false, false, false, false, false, false, false, false, false, false, false, false, false, false, false, false, false, false, false, false, false, false, false, false, false, false, false] (by kernel_rfl) rfl rfl ⟨c81, c83, c84, c85, ⟨(Below.refl wp8.heap.size wp8).drew⟩⟩ (fun hHeld => ?_)
            refine pure_ (i := 0) (N := some 36) (v := ?_) (a' := ?_) #[true, false, false, false, false, false, false, false, false, false, false, false, false, false, false, false, false, false, false, false, false, false, false, false, false, false, false, false, false, false, false, false, false, false, false, false, false, false, false] rfl rfl (by kernel_rfl) (fun _ _ _ h => h) (Or.inl ⟨by rfl, ?_⟩) ?_ ?_
            rotate_left
            · intro w'
              go_simp
              with_reducible rfl
            rotate_left
            · simp only [Act.put, List.setIfInBounds_toArray, List.set_cons_zero, List.set_cons_succ, i64_w, i32_w]
              rfl
            refine pure_ (i := 1) (N := some 37) (v := ?_) (a' := ?_) #[true, true, false, false, false, false, false, false, false, false, false, false, false, false, false, false, false, false, false, false, false, false, false, false, false, false, false, false, false, false, false, false, false, false, false, false, false, false, false] rfl rfl (by kernel_rfl) (fun _ _ _ h => h) (Or.inl ⟨by rfl, ?_⟩) ?_ ?_
            rotate_left
            · intro w'
              go_simp
              with_reducible rfl
            rotate_left
            · simp only [Act.put, List.setIfInBounds_toArray, List.set_cons_zero, List.set_cons_succ, i64_w, i32_w]
              rfl
            refine pure_ (i := 2) (N := some 38) (v := ?_) (a' := ?_) #[true, true, true, false, false, false, false, false, false, false, false, false, false, false, false, false, false, false, false, false, false, false, false, false, false, false, false, false, false, false, false, false, false, false, false, false, false, false, false] rfl rfl (by kernel_rfl) (fun _ _ _ h => h) (Or.inl ⟨by rfl, ?_⟩) ?_ ?_
            rotate_left
            · intro w'
              go_simp
              with_reducible rfl
            rotate_left
            · simp only [Act.put, List.setIfInBounds_toArray, List.set_cons_zero, List.set_cons_succ, i64_w, i32_w]
              rfl
            refine pure_ (i := 3) (N := some 39) (v := ?_) (a' := ?_) #[true, true, true, true, false, false, false, false, false, false, false, false, false, false, false, false, false, false, false, false, false, false, false, false, false, false, false, false, false, false, false, false, false, false, false, false, false, false, false] rfl rfl (by kernel_rfl) (fun _ _ _ h => h) (Or.inl ⟨by rfl, ?_⟩) ?_ ?_
            rotate_left
            · intro w'
              go_simp
              with_reducible rfl
            rotate_left
            · simp only [Act.put, List.setIfInBounds_toArray, List.set_cons_zero, List.set_cons_succ, i64_w, i32_w]
              rfl
            refine pure_ (i := 4) (N := some 40) (v := ?_) (a' := ?_) #[true, true, true, true, true, false, false, false, false, false, false, false, false, false, false, false, false, false, false, false, false, false, false, false, false, false, false, false, false, false, false, false, false, false, false, false, false, false, false] rfl rfl (by kernel_rfl) (fun _ _ _ h => h) (Or.inl ⟨by rfl, ?_⟩) ?_ ?_
            rotate_left
            · intro w'
              go_simp
              with_reducible rfl
            rotate_left
            · simp only [Act.put, List.setIfInBounds_toArray, List.set_cons_zero, List.set_cons_succ, i64_w, i32_w]
              rfl
            refine pure_ (i := 5) (N := some 41) (v := ?_) (a' := ?_) #[true, true, true, true, true, true, false, false, false, false, false, false, false, false, false, false, false, false, false, false, false, false, false, false, false, false, false, false, false, false, false, false, false, false, false, false, false, false, false] rfl rfl (by kernel_rfl) (fun _ _ _ h => h) (Or.inl ⟨by rfl, ?_⟩) ?_ ?_
            rotate_left
            · intro w'
              go_simp
              with_reducible rfl
            rotate_left
            · simp only [Act.put, List.setIfInBounds_toArray, List.set_cons_zero, List.set_cons_succ, i64_w, i32_w]
              rfl
            refine pure_ (i := 6) (N := some 42) (v := ?_) (a' := ?_) #[true, true, true, true, true, true, true, false, false, false, false, false, false, false, false, false, false, false, false, false, false, false, false, false, false, false, false, false, false, false, false, false, false, false, false, false, false, false, false] rfl rfl (by kernel_rfl) (fun _ _ _ h => h) (Or.inl ⟨by rfl, ?_⟩) ?_ ?_
            rotate_left
            · intro w'
              go_simp
              with_reducible rfl
            rotate_left
            · simp only [Act.put, List.setIfInBounds_toArray, List.set_cons_zero, List.set_cons_succ, i64_w, i32_w]
              rfl
            refine pure_ (i := 7) (N := some 43) (v := ?_) (a' := ?_) #[true, true, true, true, true, true, true, true, false, false, false, false, false, false, false, false, false, false, false, false, false, false, false, false, false, false, false, false, false, false, false, false, false, false, false, false, false, false, false] rfl rfl (by kernel_rfl) (fun _ _ _ h => h) (Or.inl ⟨by rfl, ?_⟩) ?_ ?_
            rotate_left
            · intro w'
              go_simp
              with_reducible rfl
            rotate_left
            · simp only [Act.put, List.setIfInBounds_toArray, List.set_cons_zero, List.set_cons_succ, i64_w, i32_w]
              rfl
            refine take_ (i := 8) (N := some 44) (v := ?_) (a' := ?_) #[true, true, true, true, true, true, true, true, true, false, false, false, false, false, false, false, false, false, false, false, false, false, false, false, false, false, false, false, false, false, false, false, false, false, false, false, false, false, false] rfl rfl (by kernel_rfl) (fun _ _ _ h => h) (Or.inl ⟨by rfl, ?_⟩) hHeld ?_ ?_
            rotate_left
            · rintro w' ⟨hs1_, hs3_, hs4_, hs5_, hsB_⟩
              go_simp
              with_reducible rfl
            rotate_left
            · simp only [Act.put, List.setIfInBounds_toArray, List.set_cons_zero, List.set_cons_succ, i64_w, i32_w]
              rfl
            refine pure_ (i := 9) (N := some 45) (v := ?_) (a' := ?_) #[true, true, true, true, true, true, true, true, true, true, false, false, false, false, false, false, false, false, false, false, false, false, false, false, false, false, false, false, false, false, false, false, false, false, false, false, false, false, false] rfl rfl (by kernel_rfl) (fun _ _ _ h => h) (Or.inl ⟨by rfl, ?_⟩) ?_ ?_
            rotate_left
            · intro w'
              go_simp
              with_reducible rfl
            rotate_left
            · simp only [Act.put, List.setIfInBounds_toArray, List.set_cons_zero, List.set_cons_succ, i64_w, i32_w]
              rfl
            refine pure_ (i := 10) (N := some 46) (v := ?_) (a' := ?_) #[true, true, true, true, true, true, true, true, true, true, true, false, false, false, false, false, false, false, false, false, false, false, false, false, false, false, false, false, false, false, false, false, false, false, false, false, false, false, false] rfl rfl (by kernel_rfl) (fun _ _ _ h => h) (Or.inl ⟨by rfl, ?_⟩) ?_ ?_
            rotate_left
            · intro w'
              go_simp
              with_reducible rfl
            rotate_left
            · simp only [Act.put, List.setIfInBounds_toArray, List.set_cons_zero, List.set_cons_succ, i64_w, i32_w]
              rfl
            refine pure_ (i := 11) (N := some 47) (v := ?_) (a' := ?_) #[true, true, true, true, true, true, true, true, true, true, true, true, false, false, false, false, false, false, false, false, false, false, false, false, false, false, false, false, false, false, false, false, false, false, false, false, false, false, false] rfl rfl (by kernel_rfl) (fun _ _ _ h => h) (Or.inl ⟨by rfl, ?_⟩) ?_ ?_
            rotate_left
            · intro w'
              go_simp
              with_reducible rfl
            rotate_left
            · simp only [Act.put, List.setIfInBounds_toArray, List.set_cons_zero, List.set_cons_succ, i64_w, i32_w]
              rfl
            refine pure_ (i := 12) (N := some 48) (v := ?_) (a' := ?_) #[true, true, true, true, true, true, true, true, true, true, true, true, true, false, false, false, false, false, false, false, false, false, false, false, false, false, false, false, false, false, false, false, false, false, false, false, false, false, false] rfl rfl (by kernel_rfl) (fun _ _ _ h => h) (Or.inl ⟨by rfl, ?_⟩) ?_ ?_
            rotate_left
            · intro w'
              go_simp
              with_reducible rfl
            rotate_left
            · simp only [Act.put, List.setIfInBounds_toArray, List.set_cons_zero, List.set_cons_succ, i64_w, i32_w]
              rfl
            refine pure_ (i := 13) (N := some 49) (v := ?_) (a' := ?_) #[true, true, true, true, true, true, true, true, true, true, true, true, true, true, false, false, false, false, false, false, false, false, false, false, false, false, false, false, false, false, false, false, false, false, false, false, false, false, false] rfl rfl (by kernel_rfl) (fun _ _ _ h => h) (Or.inl ⟨by rfl, ?_⟩) ?_ ?_
            rotate_left
            · intro w'
              go_simp
              with_reducible rfl
            rotate_left
            · simp only [Act.put, List.setIfInBounds_toArray, List.set_cons_zero, List.set_cons_succ, i64_w, i32_w]
              rfl
            refine pure_ (i := 14) (N := some 50) (v := ?_) (a' := ?_) #[true, true, true, true, true, true, true, true, true, true, true, true, true, true, true, false, false, false, false, false, false, false, false, false, false, false, false, false, false, false, false, false, false, false, false, false, false, false, false] rfl rfl (by kernel_rfl) (fun _ _ _ h => h) (Or.inl ⟨by rfl, ?_⟩) ?_ ?_
            rotate_left
            · intro w'
              go_simp
              with_reducible rfl
            rotate_left
            · simp only [Act.put, List.setIfInBounds_toArray, List.set_cons_zero, List.set_cons_succ, i64_w, i32_w]
              rfl
            refine pure_ (i := 15) (N := some 51) (v := ?_) (a' := ?_) #[true, true, true, true, true, true, true, true, true, true, true, true, true, true, true, true, false, false, false, false, false, false, false, false, false, false, false, false, false, false, false, false, false, false, false, false, false, false, false] rfl rfl (by kernel_rfl) (fun _ _ _ h => h) (Or.inl ⟨by rfl, ?_⟩) ?_ ?_
            rotate_left
            · intro w'
              go_simp
              with_reducible rfl
            rotate_left
            · simp only [Act.put, List.setIfInBounds_toArray, List.set_cons_zero, List.set_cons_succ, i64_w, i32_w]
              rfl
            refine pure_ (i := 16) (N := some 52) (v := ?_) (a' := ?_) #[true, true, true, true, true, true, true, true, true, true, true, true, true, true, true, true, true, false, false, false, false, false, false, false, false, false, false, false, false, false, false, false, false, false, false, false, false, false, false] rfl rfl (by kernel_rfl) (fun _ _ _ h => h) (Or.inl ⟨by rfl, ?_⟩) ?_ ?_
            rotate_left
            · intro w'
              go_simp
              with_reducible rfl
            rotate_left
            · simp only [Act.put, List.setIfInBounds_toArray, List.set_cons_zero, List.set_cons_succ, i64_w, i32_w]
              rfl
            refine pure_ (i := 17) (N := some 53) (v := ?_) (a' := ?_) #[true, true, true, true, true, true, true, true, true, true, true, true, true, true, true, true, true, true, false, false, false, false, false, false, false, false, false, false, false, false, false, false, false, false, false, false, false, false, false] rfl rfl (by kernel_rfl) (fun _ _ _ h => h) (Or.inl ⟨by rfl, ?_⟩) ?_ ?_
            rotate_left
            · intro w'
              go_simp
              with_reducible rfl
            rotate_left
            · simp only [Act.put, List.setIfInBounds_toArray, List.set_cons_zero, List.set_cons_succ, i64_w, i32_w]
              rfl
            refine take_ (i := 18) (N := some 54) (v := ?_) (a' := ?_) #[true, true, true, true, true, true, true, true, true, true, true, true, true, true, true, true, true, true, true, false, false, false, false, false, false, false, false, false, false, false, false, false, false, false, false, false, false, false, false] rfl rfl (by kernel_rfl) (fun _ _ _ h => h) (Or.inl ⟨by rfl, ?_⟩) hHeld ?_ ?_
            rotate_left
            · rintro w' ⟨hs1_, hs3_, hs4_, hs5_, hsB_⟩
              go_simp
              with_reducible rfl
            rotate_left
            · simp only [Act.put, List.setIfInBounds_toArray, List.set_cons_zero, List.set_cons_succ, i64_w, i32_w]
              rfl
            refine pure_ (i := 19) (N := some 55) (v := ?_) (a' := ?_) #[true, true, true, true, true, true, true, true, true, true, true, true, true, true, true, true, true, true, true, true, false, false, false, false, false, false, false, false, false, false, false, false, false, false, false, false, false, false, false] rfl rfl (by kernel_rfl) (fun _ _ _ h => h) (Or.inl ⟨by rfl, ?_⟩) ?_ ?_
            rotate_left
            · intro w'
              go_simp
              with_reducible rfl
            rotate_left
            · simp only [Act.put, List.setIfInBounds_toArray, List.set_cons_zero, List.set_cons_succ, i64_w, i32_w]
              rfl
            refine pure_ (i := 20) (N := some 56) (v := ?_) (a' := ?_) #[true, true, true, true, true, true, true, true, true, true, true, true, true, true, true, true, true, true, true, true, true, false, false, false, false, false, false, false, false, false, false, false, false, false, false, false, false, false, false] rfl rfl (by kernel_rfl) (fun _ _ _ h => h) (Or.inl ⟨by rfl, ?_⟩) ?_ ?_
            rotate_left
            · intro w'
              go_simp
              with_reducible rfl
            rotate_left
            · simp only [Act.put, List.setIfInBounds_toArray, List.set_cons_zero, List.set_cons_succ, i64_w, i32_w]
              rfl
            refine pure_ (i := 21) (N := some 57) (v := ?_) (a' := ?_) #[true, true, true, true, true, true, true, true, true, true, true, true, true, true, true, true, true, true, true, true, true, true, false, false, false, false, false, false, false, false, false, false, false, false, false, false, false, false, false] rfl rfl (by kernel_rfl) (fun _ _ _ h => h) (Or.inl ⟨by rfl, ?_⟩) ?_ ?_
            rotate_left
            · intro w'
              go_simp
              with_reducible rfl
            rotate_left
            · simp only [Act.put, List.setIfInBounds_toArray, List.set_cons_zero, List.set_cons_succ, i64_w, i32_w]
              rfl
            refine pure_ (i := 22) (N := some 58) (v := ?_) (a' := ?_) #[true, true, true, true, true, true, true, true, true, true, true, true, true, true, true, true, true, true, true, true, true, true, true, false, false, false, false, false, false, false, false, false, false, false, false, false, false, false, false] rfl rfl (by kernel_rfl) (fun _ _ _ h => h) (Or.inl ⟨by rfl, ?_⟩) ?_ ?_
            rotate_left
            · intro w'
              go_simp
              with_reducible rfl
            rotate_left
            · simp only [Act.put, List.setIfInBounds_toArray, List.set_cons_zero, List.set_cons_succ, i64_w, i32_w]
              rfl
            refine take_ (i := 23) (N := some 59) (v := ?_) (a' := ?_) #[true, true, true, true, true, true, true, true, true, true, true, true, true, true, true, true, true, true, true, true, true, true, true, true, false, false, false, false, false, false, false, false, false, false, false, false, false, false, false] rfl rfl (by kernel_rfl) (fun _ _ _ h => h) (Or.inl ⟨by rfl, ?_⟩) hHeld ?_ ?_
            rotate_left
            · rintro w' ⟨hs1_, hs3_, hs4_, hs5_, hsB_⟩
              go_simp
              with_reducible rfl
            rotate_left
            · simp only [Act.put, List.setIfInBounds_toArray, List.set_cons_zero, List.set_cons_succ, i64_w, i32_w]
              rfl
            refine pure_ (i := 24) (N := some 60) (v := ?_) (a' := ?_) #[true, true, true, true, true, true, true, true, true, true, true, true, true, true, true, true, true, true, true, true, true, true, true, true, true, false, false, false, false, false, false, false, false, false, false, false, false, false, false] rfl rfl (by kernel_rfl) (fun _ _ _ h => h) (Or.inl ⟨by rfl, ?_⟩) ?_ ?_
            rotate_left
            · intro w'
              go_simp
              with_reducible rfl
            rotate_left
            · simp only [Act.put, List.setIfInBounds_toArray, List.set_cons_zero, List.set_cons_succ, i64_w, i32_w]
              rfl
            refine pure_ (i := 25) (N := some 61) (v := ?_) (a' := ?_) #[true, true, true, true, true, true, true, true, true, true, true, true, true, true, true, true, true, true, true, true, true, true, true, true, true, true, false, false, false, false, false, false, false, false, false, false, false, false, false] rfl rfl (by kernel_rfl) (fun _ _ _ h => h) (Or.inl ⟨by rfl, ?_⟩) ?_ ?_
            rotate_left
            · intro w'
              go_simp
              with_reducible rfl
            rotate_left
            · simp only [Act.put, List.setIfInBounds_toArray, List.set_cons_zero, List.set_cons_succ, i64_w, i32_w]
              rfl
            refine pure_ (i := 26) (N := some 62) (v := ?_) (a' := ?_) #[true, true, true, true, true, true, true, true, true, true, true, true, true, true, true, true, true, true, true, true, true, true, true, true, true, true, true, false, false, false, false, false, false, false, false, false, false, false, false] rfl rfl (by kernel_rfl) (fun _ _ _ h => h) (Or.inl ⟨by rfl, ?_⟩) ?_ ?_
            rotate_left
            · intro w'
              go_simp
              with_reducible rfl
            rotate_left
            · simp only [Act.put, List.setIfInBounds_toArray, List.set_cons_zero, List.set_cons_succ, i64_w, i32_w]
              rfl
            refine pure_ (i := 27) (N := some 63) (v := ?_) (a' := ?_) #[true, true, true, true, true, true, true, true, true, true, true, true, true, true, true, true, true, true, true, true, true, true, true, true, true, true, true, true, false, false, false, false, false, false, false, false, false, false, false] rfl rfl (by kernel_rfl) (fun _ _ _ h => h) (Or.inl ⟨by rfl, ?_⟩) ?_ ?_
            rotate_left
            · intro w'
              go_simp
              with_reducible rfl
            rotate_left
            · simp only [Act.put, List.setIfInBounds_toArray, List.set_cons_zero, List.set_cons_succ, i64_w, i32_w]
              rfl
            refine take_ (i := 28) (N := some 64) (v := ?_) (a' := ?_) #[true, true, true, true, true, true, true, true, true, true, true, true, true, true, true, true, true, true, true, true, true, true, true, true, true, true, true, true, true, false, false, false, false, false, false, false, false, false, false] rfl rfl (by kernel_rfl) (fun _ _ _ h => h) (Or.inl ⟨by rfl, ?_⟩) hHeld ?_ ?_
            rotate_left
            · rintro w' ⟨hs1_, hs3_, hs4_, hs5_, hsB_⟩
              go_simp
              with_reducible rfl
            rotate_left
            · simp only [Act.put, List.setIfInBounds_toArray, List.set_cons_zero, List.set_cons_succ, i64_w, i32_w]
              rfl
            refine pure_ (i := 29) (N := some 65) (v := ?_) (a' := ?_) #[true, true, true, true, true, true, true, true, true, true, true, true, true, true, true, true, true, true, true, true, true, true, true, true, true, true, true, true, true, true, false, false, false, false, false, false, false, false, false] rfl rfl (by kernel_rfl) (fun _ _ _ h => h) (Or.inl ⟨by rfl, ?_⟩) ?_ ?_
            rotate_left
            · intro w'
              go_simp
              with_reducible rfl
            rotate_left
            · simp only [Act.put, List.setIfInBounds_toArray, List.set_cons_zero, List.set_cons_succ, i64_w, i32_w]
              rfl
            refine pure_ (i := 30) (N := some 66) (v := ?_) (a' := ?_) #[true, true, true, true, true, true, true, true, true, true, true, true, true, true, true, true, true, true, true, true, true, true, true, true, true, true, true, true, true, true, true, false, false, false, false, false, false, false, false] rfl rfl (by kernel_rfl) (fun _ _ _ h => h) (Or.inl ⟨by rfl, ?_⟩) ?_ ?_
            rotate_left
            · intro w'
              go_simp
              with_reducible rfl
            rotate_left
            · simp only [Act.put, List.setIfInBounds_toArray, List.set_cons_zero, List.set_cons_succ, i64_w, i32_w]
              rfl
            refine one_ (i := 31) (N := some 67) #[true, true, true, true, true, true, true, true, true, true, true, true, true, true, true, true, true, true, true, true, true, true, true, true, true, true, true, true, true, true, true, true, false, false, false, false, false, false, false] rfl rfl (by kernel_rfl) (by decide) (fun K hK => ?_)
            refine goes_ Try.func14 (by kernel_rfl) rfl #[.string t, .int .i64 (p : Int)] (by rfl) rfl rfl (by first | rfl | (simp only [List.map_toArray, List.map_cons, List.map_nil]; done) | (simp only [List.map_toArray, List.map_cons, List.map_nil]; rfl)) ?_
            refine (refat_agg t p _ hts HPT.out).mono ?_
            rintro e_ w9 ⟨rfl, hb_⟩
            refine ⟨_, rfl, ?_⟩
            refine hK.out _ _ ⟨pw_cell_below hb_ hHeld.1, pw_cell_below hb_ hHeld.2.1, pw_cell_below hb_ hHeld.2.2.1, pw_cell_below hb_ hHeld.2.2.2.1, ⟨below_then hHeld.2.2.2.2.out hHeld.2.2.2.2.out.size hb_⟩⟩ (fun hHeld => ?_)
            clear hK K
            refine norm_ (a' := ?_) ?_ ?_
            rotate_left
            · show Act.put _ (some 67) _ = _
              simp only [Act.put, List.setIfInBounds_toArray, List.set_cons_zero, List.set_cons_succ, i64_w, i32_w]
              rfl
            refine pure_ (i := 32) (N := some 68) (v := ?_) (a' := ?_) #[true, true, true, true, true, true, true, true, true, true, true, true, true, true, true, true, true, true, true, true, true, true, true, true, true, true, true, true, true, true, true, true, true, false, false, false, false, false, false] rfl rfl (by kernel_rfl) (fun _ _ _ h => h) (Or.inl ⟨by rfl, ?_⟩) ?_ ?_
            rotate_left
            · intro w'
              go_simp
              with_reducible rfl
            rotate_left
            · simp only [Act.put, List.setIfInBounds_toArray, List.set_cons_zero, List.set_cons_succ, i64_w, i32_w]
              rfl
            refine pure_ (i := 33) (N := some 69) (v := ?_) (a' := ?_) #[true, true, true, true, true, true, true, true, true, true, true, true, true, true, true, true, true, true, true, true, true, true, true, true, true, true, true, true, true, true, true, true, true, true, false, false, false, false, false] rfl rfl (by kernel_rfl) (fun _ _ _ h => h) (Or.inl ⟨by rfl, ?_⟩) ?_ ?_
            rotate_left
            · intro w'
              go_simp
              with_reducible rfl
            rotate_left
            · simp only [Act.put, List.setIfInBounds_toArray, List.set_cons_zero, List.set_cons_succ, i64_w, i32_w]
              rfl
            refine pure_ (i := 34) (N := some 70) (v := ?_) (a' := ?_) #[true, true, true, true, true, true, true, true, true, true, true, true, true, true, true, true, true, true, true, true, true, true, true, true, true, true, true, true, true, true, true, true, true, true, true, false, false, false, false] rfl rfl (by kernel_rfl) (fun _ _ _ h => h) (Or.inl ⟨by rfl, ?_⟩) ?_ ?_
            rotate_left
            · intro w'
              go_simp
              with_reducible rfl
            rotate_left
            · simp only [Act.put, List.setIfInBounds_toArray, List.set_cons_zero, List.set_cons_succ, i64_w, i32_w]
              rfl
            refine pure_ (i := 35) (N := some 71) (v := ?_) (a' := ?_) #[true, true, true, true, true, true, true, true, true, true, true, true, true, true, true, true, true, true, true, true, true, true, true, true, true, true, true, true, true, true, true, true, true, true, true, true, false, false, false] rfl rfl (by kernel_rfl) (fun _ _ _ h => h) (Or.inl ⟨by rfl, ?_⟩) ?_ ?_
            rotate_left
            · intro w'
              go_simp
              with_reducible rfl
            rotate_left
            · simp only [Act.put, List.setIfInBounds_toArray, List.set_cons_zero, List.set_cons_succ, i64_w, i32_w]
              rfl
            refine take_ (i := 36) (N := some 72) (v := ?_) (a' := ?_) #[true, true, true, true, true, true, true, true, true, true, true, true, true, true, true, true, true, true, true, true, true, true, true, true, true, true, true, true, true, true, true, true, true, true, true, true, true, false, false] rfl rfl (by kernel_rfl) (fun _ _ _ h => h) (Or.inl ⟨by rfl, ?_⟩) hHeld ?_ ?_
            rotate_left
            · rintro w' ⟨hs1_, hs3_, hs4_, hs5_, hsB_⟩
              go_simp
              with_reducible rfl
            rotate_left
            · simp only [Act.put, List.setIfInBounds_toArray, List.set_cons_zero, List.set_cons_succ, i64_w, i32_w]
              rfl
            refine pure_ (i := 37) (N := some 73) (v := ?_) (a' := ?_) #[true, true, true, true, true, true, true, true, true, true, true, true, true, true, true, true, true, true, true, true, true, true, true, true, true, true, true, true, true, true, true, true, true, true, true, true, true, true, false] rfl rfl (by kernel_rfl) (fun _ _ _ h => h) (Or.inl ⟨by rfl, ?_⟩) ?_ ?_
            rotate_left
            · intro w'
              go_simp
              with_reducible rfl
            rotate_left
            · simp only [Act.put, List.setIfInBounds_toArray, List.set_cons_zero, List.set_cons_succ, i64_w, i32_w]
              rfl
            refine pure_ (i := 38) (N := some 74) (v := ?_) (a' := ?_) #[true, true, true, true, true, true, true, true, true, true, true, true, true, true, true, true, true, true, true, true, true, true, true, true, true, true, true, true, true, true, true, true, true, true, true, true, true, true, true] rfl rfl (by kernel_rfl) (fun _ _ _ h => h) (Or.inl ⟨by rfl, ?_⟩) ?_ ?_
            rotate_left
            · intro w'
              go_simp
              with_reducible rfl
            rotate_left
            · simp only [Act.put, List.setIfInBounds_toArray, List.set_cons_zero, List.set_cons_succ, i64_w, i32_w]
              rfl
            refine done_ (by kernel_rfl) ?_
            go_step
            go_step
            go_meet
            exact ⟨rfl, hHeld.2.2.2.2⟩
          case rest =>
            obtain ⟨rfl, HBC⟩ := hcut
            have q70 : (e : Int) ≤ (p : Int) := by have h_ := HEP.out; omega
            have q71 : (p : Int) ≤ (t.size : Int) := by have h_ := HPT.out; omega
            have q72 : (p : Int) ≤ 2000 := by omega
            have q73 : (X.size : Int) ≤ 2000 := by have h_ := HPK.out; omega
            go_wp2_with ((go_at_call 12; (with_reducible refine (rall_ok (t.extract e p) _ HGS.out HGE.out).mono ?_); rintro e_ w9 ⟨A9, c9, rfl, hc9, hR9, hb⟩; have HB9 := Aside0.mk hb; have c91 := pw_cell_below hb (pw_cell_below HBC.out c81); clear hb hR9 hc9))
            have HW9 := Aside0.mk (below_then (below_then ((HBJ.out.trans (HZ8.out.mono HBJ.out.size)).trans (QP8.out _ (by rw [GZ8.out]; exact HBJ.out.size))) (Nat.le_trans HBJ.out.size (Nat.le_trans HZ8.out.size (QP8.out 0 (Nat.zero_le _)).size)) HBC.out) (Nat.le_trans (Nat.le_trans HBJ.out.size (Nat.le_trans HZ8.out.size (QP8.out 0 (Nat.zero_le _)).size)) HBC.out.size) HB9.out)
            go_roundg k2
            case measure => omega
            case rel => exact ⟨j + 1, p + X.size, by first | (rw [HEW.out]; done) | rfl | go_num, by first | rfl | go_num | (rw [HEW2.out]; done), ⟨by have h_ := HJK.out; omega⟩, ⟨by have h_ := HJ9.out; omega⟩, ⟨HPK.out⟩, HNX, HW9⟩
        · obtain rfl : j = n := by have h_ := HJ.out; omega
          clear hj
          have q1 : ((j : Int) < (j : Int)) = False := by apply eq_false; omega
          have q2 : (e : Int) ≤ (t.size : Int) := by have h_ := HE.out; omega
          have HGS : Aside0 ((t.extract e t.size).size ≤ 1000000000) := ⟨by rw [← slen, rst_ext, rst_len]; omega⟩
          have HGE : Aside0 (lexA (t.extract e t.size).data.toList = .ok []) := ⟨by
            have h_ := HX.out
            rw [show L.drop j = [] from by rw [List.drop_eq_nil_iff, HN.out]; exact Nat.le_refl _] at h_
            rw [rst_ext, lexA_eq, if_neg (by rw [rst_len]; omega)]
            exact lexP_done _ _ _ 0 (Nat.lt_succ_self _) h_⟩
          go_wp2_with (first
            | (go_at_call 12; (with_reducible refine (rall_ok (t.extract e t.size) _ HGS.out HGE.out).mono ?_); rintro e_ w9 ⟨A9, c9, rfl, hc9, hR9, hb⟩; have HB9 := Aside0.mk (below_then HBR.out HBR.out.size hb); clear hb hR9 hc9)
            | (go_at_call 15; (with_reducible refine (lives_calls _ mx (MXb HM.out HB9.out)).mono ?_); rintro e w8 ⟨rfl, hb⟩; have HB8 := Aside0.mk (below_then HB9.out HB9.out.size hb); clear hb))
          go_ret
          exact ⟨rfl, HB8.out⟩

end Go.Proofs.Ytbmabnmidacpdaa.L
