/- Texts of this seat that a claim bears, put together by this session's own program shake.py: TrZq. -/
import Derived.Test.YtabkinlpbefjgaaProg
import Derived.Below
import Derived.Deep.Draws
import Derived.Deep.AppendLies
import Derived.Maps.AppendAt
import Derived.OwnWalk
import Derived.Laws.BytesArg
import Derived.Laws.MakeOwn
import Derived.Laws.OwnMore
import Derived.Deep.OwnRows
import Derived.Tactics
import Derived.Lib.ConvBytes
import Derived.Laws.Slices
import Derived.WalkKit
import Derived.KernelRfl
import Derived.RowKit3
import Derived.Deep.LoopGhost
import Derived.Deep.QuietTactic
import Derived.BigQuiet
import Derived.WideLaws
import Derived.Deep.DeepCutAuto
import Derived.Deep.CutBlock
import Derived.Deep.RegionHeld3
import Derived.Laws.Rows
import Derived.Lib.AppendStr
import Derived.ArgAppend
import Derived.Laws.IdiomCopy
import Derived.OrdersHeld
import Derived.Laws.BitsLemmas
import Derived.RowKit
import Derived.Test.YtabkinlpbefjgaaKa0
import Derived.Test.YtabkinlpbefjgaaKa5
import Derived.Maps.Own
import Derived.Recover
import Derived.WalkSmall
import Derived.StillTailTactics
import Derived.Laws.Pointers
import Derived.Test.YtabkinlpbefjgaaKa14
import Derived.Test.YtabkinlpbefjgaaKa15
import Derived.DataShut
import Derived.Deep.RegionLawGrows
import Derived.Deep.Upon
import Derived.Deep.MidRow
namespace Go.Proofs.Ytabkinlpbefjgaa.L
open Go.RowKit Go.Proofs.Ytabkinlpbefjgaa.X Go.Proofs.YtabkinlpbefjgaaW.PrintWords Go.Proofs.YtabkinlpbefjgaaW.PrintLast Go.Proofs.YtabkinlpbefjgaaW.PrintMore
attribute [local go_sem] max2_int min2_int max_two min_two max_three min_three max_four min_four   -- for this text's walks alone
set_option linter.unusedVariables false
set_option linter.unusedSimpArgs false
open Go.Proofs.Ytabkinlpbefjgaa.Pure
set_option maxHeartbeats 4000000 in
set_option maxRecDepth 100000 in
theorem more_calls (GS : List S57) (F : List S47) (AG : Option Addr) (cG : Nat) (AF : Option Addr) (cF : Nat) (AI : Option Addr) (cI : Nat) (l : List Int) (fuel : Int) (w : World) (hG : Kd.C k57 w AG GS.length GS) (hcG : GS.length ≤ cG) (hF : Kd.C k47 w AF F.length F) (hcF : F.length ≤ cF) (hI : (Kd.int .i32).C w AI l.length l) (hcI : l.length ≤ cI)
    (hN : ∀ f ∈ F, ∀ b ∈ f.f3, ∀ x ∈ b.f0, W32 x.f5) (hw : ∀ v ∈ l, W32 v) :
    Calls Try.prog 4 #[.agg #[.slice AG GS.length cG, .slice AF F.length cF], .slice AI l.length cI, .int .i64 fuel] w fun e w' => e = .returned (.bool true) ∧ Below w.heap.size w w' := by
  obtain ⟨inp, hinp⟩ : ∃ inp, l.take 30 = inp := ⟨_, rfl⟩
  obtain ⟨f, hf⟩ : ∃ f : Nat, max 0 (min fuel 400) = (f : Int) := ⟨(max 0 (min fuel 400)).toNat, by omega⟩
  have HF4 : Aside0 (f ≤ 400) := ⟨by omega⟩
  have HL3 : Aside0 (inp.length ≤ 30) := ⟨by rw [← hinp, List.length_take]; omega⟩
  have HCI : Aside0 (inp.length ≤ cI) := ⟨by rw [← hinp, List.length_take]; omega⟩
  have HWI : Aside0 (∀ v ∈ inp, W32 v) := ⟨fun v hv => hw v (List.mem_of_mem_take (hinp ▸ hv))⟩
  have hIt : (Kd.int .i32).C w AI inp.length inp := by
    by_cases h30 : 30 ≤ l.length
    · rw [← hinp]; exact Kd.C_take hI h30
    · rw [← hinp, List.take_of_length_le (by omega)]; exact hI
  have HIT := Aside0.mk hIt
  have HI0 := Aside0.mk hI
  have HC0 := Aside0.mk hcI
  have HGG := Aside0.mk hG
  have HF := Aside0.mk hF
  have HCG := Aside0.mk hcG
  have HCF := Aside0.mk hcF
  have HN := Aside0.mk hN
  have HINP := Aside0.mk hinp
  have HFU := Aside0.mk hf
  clear hG hF hcG hcF hI hcI hN hw hinp hf hIt
  have I32 : Aside0 ((Try.prog.info? 32).map (·.size) = some 5) := ⟨by kernel_rfl⟩
  go_enter Try.func4, Try.ntmps4
  go_wp2_with (first
    | (go_at_call 7; (with_reducible refine (fine_at GS F AG cG AF cF _ (Kd.C_alloc HGG.out _) HCG.out (Kd.C_alloc HF.out _) HCF.out HN.out).mono ?_)
       rintro e w5 ⟨hB, hE⟩
       have hLW := (LawW.new GS F AG cG AF cF w).keep hB
       have m0 := hLW.c0
       have m1 := hLW.c1
       have HLW := Aside0.mk hLW
       clear hLW hB
       rcases hE with rfl | ⟨rfl, HO, A, rfl⟩)
    | (go_at_call 9; (with_reducible refine (cut_at AI cI l inp fuel f _ (Kd.C_below HI0.out HLW.out.below) HC0.out HINP.out HFU.out).mono ?_)
       rintro e w5 ⟨rfl, rfl⟩)
    | (go_at_call 10; (with_reducible refine (trace_at HLW.out HO.out inp AI cI (f : Int) HGG.out HF.out HIT.out HCF.out HCG.out HCI.out HWI.out HL3.out (by have := HF4.out; omega)).mono ?_)
       rintro e w6 ⟨ea, va, Ga, A6, c6, ha, rfl, hl6, hC6, hB6⟩
       have hLW6 := HLW.out.keep hB6
       have HLW6 := Aside0.mk hLW6
       have HA := Aside0.mk ha
       have HCA := Aside0.mk hC6.now
       have HLA := Aside0.mk hl6
       have m0 := hLW6.c0
       have m1 := hLW6.c1
       clear hLW6 ha hC6 hl6 hB6)
    | ((with_reducible refine gate_dst (N := 7) rfl ?_)
       refine box_event rfl (N := 7) rfl (cs := #[.int .i64 0, .int .i32 0, .slice none 0 0, .int .i64 0, .int .i64 0]) (t := 32) ?hr ?_
       case hr => first | (go_simp; done) | (go_simp; rfl)
       intro gx hg w6x hbox hb; have hz0 : w6x.cell? ⟨gx, 0, none⟩ = some (.int .i64 0) := (blk_cell hbox 0).trans rfl; have hf0 := blk_frozen hbox 0; have hz1 : w6x.cell? ⟨gx, 1, none⟩ = some (.int .i32 0) := (blk_cell hbox 1).trans rfl; have hf1 := blk_frozen hbox 1; have hz2 : w6x.cell? ⟨gx, 2, none⟩ = some (.slice none 0 0) := (blk_cell hbox 2).trans rfl; have hf2 := blk_frozen hbox 2; have hz3 : w6x.cell? ⟨gx, 3, none⟩ = some (.int .i64 0) := (blk_cell hbox 3).trans rfl; have hf3 := blk_frozen hbox 3; have hz4 : w6x.cell? ⟨gx, 4, none⟩ = some (.int .i64 0) := (blk_cell hbox 4).trans rfl; have hf4 := blk_frozen hbox 4
       have HG := Aside0.mk (Nat.le_of_eq hg.symm)
       clear hg)
    | ((with_reducible refine gate_store (t := 32) (p := 7) rfl ?_)
       refine store_event (w1 := (((((w6x.setCell ⟨gx, 0, none⟩ (.int .i64 ea)).setCell ⟨gx, 1, none⟩ (.int .i32 va)).setCell ⟨gx, 2, none⟩ (.slice A6 Ga.tr.length c6)).setCell ⟨gx, 3, none⟩ (.int .i64 (Ga.st : Int))).setCell ⟨gx, 4, none⟩ (.int .i64 (Ga.rd : Int)))) rfl (t := 32) (p := 7) rfl rfl ?hr ?_
       case hr => first | (go_simp; done) | (go_simp; rfl)
       intro w7 hw
       have hcb := hw ▸ fill5 (g := gx) hbox
       have hbl := hw ▸ fillB5 (g := gx) hb HG.out
       have HLW7 := Aside0.mk (HLW6.out.keep hbl)
       have HXA := Aside0.mk hcb
       have HCA7 := Aside0.mk (Kd.C_below HCA.out hbl)
       have m0 := HLW7.out.c0
       have m1 := HLW7.out.c1
       clear hcb hbl hw hbox hb hz0 hf0 hz1 hf1 hz2 hf2 hz3 hf3 hz4 hf4)
    | (go_at_call 10; (with_reducible refine (trace_at HLW7.out HO.out inp AI cI 400 HGG.out HF.out HIT.out HCF.out HCG.out HCI.out HWI.out HL3.out (by decide)).mono ?_)
       rintro e w8 ⟨eb, vb, Gb, A8, c8, hb, rfl, hl8, hC8, hB8⟩
       have hLW8 := HLW7.out.keep hB8
       have HLW8 := Aside0.mk hLW8
       have HBR := Aside0.mk hb
       have HCB := Aside0.mk hC8.now
       have HLB := Aside0.mk hl8
       have HXA8 := Aside0.mk (blk_below HXA.out hB8)
       have HCA8 := Aside0.mk (Kd.C_below HCA7.out hB8)
       have m0 := hLW8.c0
       have m1 := hLW8.c1
       clear hLW8 hb hC8 hl8 hB8)
    | ((with_reducible refine gate_dst (N := 8) rfl ?_)
       refine box_event rfl (N := 8) rfl (cs := #[.int .i64 0, .int .i32 0, .slice none 0 0, .int .i64 0, .int .i64 0]) (t := 32) ?hr ?_
       case hr => first | (go_simp; done) | (go_simp; rfl)
       intro gy hg w8x hbox hb; have hz0 : w8x.cell? ⟨gy, 0, none⟩ = some (.int .i64 0) := (blk_cell hbox 0).trans rfl; have hf0 := blk_frozen hbox 0; have hz1 : w8x.cell? ⟨gy, 1, none⟩ = some (.int .i32 0) := (blk_cell hbox 1).trans rfl; have hf1 := blk_frozen hbox 1; have hz2 : w8x.cell? ⟨gy, 2, none⟩ = some (.slice none 0 0) := (blk_cell hbox 2).trans rfl; have hf2 := blk_frozen hbox 2; have hz3 : w8x.cell? ⟨gy, 3, none⟩ = some (.int .i64 0) := (blk_cell hbox 3).trans rfl; have hf3 := blk_frozen hbox 3; have hz4 : w8x.cell? ⟨gy, 4, none⟩ = some (.int .i64 0) := (blk_cell hbox 4).trans rfl; have hf4 := blk_frozen hbox 4
       have HG := Aside0.mk (Nat.le_of_eq hg.symm)
       clear hg)
    | ((with_reducible refine gate_store (t := 32) (p := 8) rfl ?_)
       refine store_event (w1 := (((((w8x.setCell ⟨gy, 0, none⟩ (.int .i64 eb)).setCell ⟨gy, 1, none⟩ (.int .i32 vb)).setCell ⟨gy, 2, none⟩ (.slice A8 Gb.tr.length c8)).setCell ⟨gy, 3, none⟩ (.int .i64 (Gb.st : Int))).setCell ⟨gy, 4, none⟩ (.int .i64 (Gb.rd : Int)))) rfl (t := 32) (p := 8) rfl rfl ?hr ?_
       case hr => first | (go_simp; done) | (go_simp; rfl)
       intro w9 hw
       have hcb := hw ▸ fill5 (g := gy) hbox
       have hbl := hw ▸ fillB5 (g := gy) hb HG.out
       have HLW9 := Aside0.mk (HLW8.out.keep hbl)
       have HXB := Aside0.mk hcb
       have HXA9 := Aside0.mk (blk_below HXA8.out hbl)
       have HCA9 := Aside0.mk (Kd.C_below HCA8.out hbl)
       have HCB9 := Aside0.mk (Kd.C_below HCB.out hbl)
       have m0 := HLW9.out.c0
       have m1 := HLW9.out.c1
       have x0 : w9.cell? ⟨gx, 0, none⟩ = some (.int .i64 ea) := (blk_cell HXA9.out 0).trans rfl
       have x1 : w9.cell? ⟨gx, 1, none⟩ = some (.int .i32 va) := (blk_cell HXA9.out 1).trans rfl
       have x2 : w9.cell? ⟨gx, 2, none⟩ = some (.slice A6 Ga.tr.length c6) := (blk_cell HXA9.out 2).trans rfl
       have x3 : w9.cell? ⟨gx, 3, none⟩ = some (.int .i64 (Ga.st : Int)) := (blk_cell HXA9.out 3).trans rfl
       have x4 : w9.cell? ⟨gx, 4, none⟩ = some (.int .i64 (Ga.rd : Int)) := (blk_cell HXA9.out 4).trans rfl
       have y0 : w9.cell? ⟨gy, 0, none⟩ = some (.int .i64 eb) := (blk_cell HXB.out 0).trans rfl
       have y1 : w9.cell? ⟨gy, 1, none⟩ = some (.int .i32 vb) := (blk_cell HXB.out 1).trans rfl
       have y2 : w9.cell? ⟨gy, 2, none⟩ = some (.slice A8 Gb.tr.length c8) := (blk_cell HXB.out 2).trans rfl
       have y3 : w9.cell? ⟨gy, 3, none⟩ = some (.int .i64 (Gb.st : Int)) := (blk_cell HXB.out 3).trans rfl
       have y4 : w9.cell? ⟨gy, 4, none⟩ = some (.int .i64 (Gb.rd : Int)) := (blk_cell HXB.out 4).trans rfl
       have HTR := Aside0.mk (Nat.le_trans (runT_tr HBR.out) (by decide : (400 : Int).toNat ≤ 1000000))
       have hms := more_cases HF4.out HA.out HBR.out
       clear hcb hbl hw hbox hb hz0 hf0 hz1 hf1 hz2 hf2 hz3 hf3 hz4 hf4)
    | fail)
  · go_wp2_with (first
      | (go_at_call 8; (with_reducible refine (lives_calls _).mono ?_)
         rintro e w6 ⟨rfl, hB6⟩
         have HB6 := Aside0.mk (below_step HLW.out.below hB6)
         clear hB6)
      | fail)
    go_ret
    exact ⟨rfl, HB6.out⟩
  obtain ⟨hms, hr⟩ := hms
  have HR := Aside0.mk hr
  clear hr
  have RL : Aside0 (Below w.heap.size w w9) := ⟨HLW9.out.below⟩
  rcases hms with ⟨rfl, hs, hp⟩ | ⟨h5, rfl, rfl, rfl, hs⟩
  · subst hs
    have HP := Aside0.mk hp
    clear hp
    by_cases h5b : eb = 5
    · subst h5b
      go_wp2_with (first
        | (go_at_call 13; (with_reducible refine (begins_calls 5 vb A8 c8 Gb.tr (Gb.st : Int) (Gb.rd : Int) 5 va A6 c6 Ga.tr (Ga.st : Int) (Ga.rd : Int) w9 HCB9.out HLB.out HCA9.out HLA.out HTR.out).mono ?_)
           rw [if_pos rfl, decide_eq_true HP.out]
           rintro e w10 ⟨rfl, hB10⟩
           have HLW10 := Aside0.mk (HLW9.out.keep hB10)
           have HXA10 := Aside0.mk (blk_below HXA9.out hB10)
           have HXB10 := Aside0.mk (blk_below HXB.out hB10)
           have HCA10 := Aside0.mk (Kd.C_below HCA9.out hB10)
           have HCB10 := Aside0.mk (Kd.C_below HCB9.out hB10)
           have HBL := Aside0.mk HLW10.out.below
           have m0 := HLW10.out.c0
           have m1 := HLW10.out.c1
           have x0 : w10.cell? ⟨gx, 0, none⟩ = some (.int .i64 5) := (blk_cell HXA10.out 0).trans rfl
           have x1 : w10.cell? ⟨gx, 1, none⟩ = some (.int .i32 va) := (blk_cell HXA10.out 1).trans rfl
           have x2 : w10.cell? ⟨gx, 2, none⟩ = some (.slice A6 Ga.tr.length c6) := (blk_cell HXA10.out 2).trans rfl
           have x3 : w10.cell? ⟨gx, 3, none⟩ = some (.int .i64 (Ga.st : Int)) := (blk_cell HXA10.out 3).trans rfl
           have x4 : w10.cell? ⟨gx, 4, none⟩ = some (.int .i64 (Ga.rd : Int)) := (blk_cell HXA10.out 4).trans rfl
           have y0 : w10.cell? ⟨gy, 0, none⟩ = some (.int .i64 5) := (blk_cell HXB10.out 0).trans rfl
           have y1 : w10.cell? ⟨gy, 1, none⟩ = some (.int .i32 vb) := (blk_cell HXB10.out 1).trans rfl
           have y2 : w10.cell? ⟨gy, 2, none⟩ = some (.slice A8 Gb.tr.length c8) := (blk_cell HXB10.out 2).trans rfl
           have y3 : w10.cell? ⟨gy, 3, none⟩ = some (.int .i64 (Gb.st : Int)) := (blk_cell HXB10.out 3).trans rfl
           have y4 : w10.cell? ⟨gy, 4, none⟩ = some (.int .i64 (Gb.rd : Int)) := (blk_cell HXB10.out 4).trans rfl
           clear hB10)
        | (go_at_call 8; (with_reducible refine (lives_calls _).mono ?_)
           rintro e w11 ⟨rfl, hB11⟩
           have HBL := Aside0.mk (below_step HLW10.out.below hB11)
           clear hB11)
        | fail)
      go_ret
      exact ⟨rfl, HBL.out⟩
    · have hd5 : decide (eb = 5) = false := decide_eq_false h5b
      go_wp2_with (first
        | (go_at_call 13; (with_reducible refine (begins_calls eb vb A8 c8 Gb.tr (Gb.st : Int) (Gb.rd : Int) 5 va A6 c6 Ga.tr (Ga.st : Int) (Ga.rd : Int) w9 HCB9.out HLB.out HCA9.out HLA.out HTR.out).mono ?_)
           rw [if_pos rfl, decide_eq_true HP.out]
           rintro e w10 ⟨rfl, hB10⟩
           have HLW10 := Aside0.mk (HLW9.out.keep hB10)
           have HXA10 := Aside0.mk (blk_below HXA9.out hB10)
           have HXB10 := Aside0.mk (blk_below HXB.out hB10)
           have HCA10 := Aside0.mk (Kd.C_below HCA9.out hB10)
           have HCB10 := Aside0.mk (Kd.C_below HCB9.out hB10)
           have HBL := Aside0.mk HLW10.out.below
           have m0 := HLW10.out.c0
           have m1 := HLW10.out.c1
           have x0 : w10.cell? ⟨gx, 0, none⟩ = some (.int .i64 5) := (blk_cell HXA10.out 0).trans rfl
           have x1 : w10.cell? ⟨gx, 1, none⟩ = some (.int .i32 va) := (blk_cell HXA10.out 1).trans rfl
           have x2 : w10.cell? ⟨gx, 2, none⟩ = some (.slice A6 Ga.tr.length c6) := (blk_cell HXA10.out 2).trans rfl
           have x3 : w10.cell? ⟨gx, 3, none⟩ = some (.int .i64 (Ga.st : Int)) := (blk_cell HXA10.out 3).trans rfl
           have x4 : w10.cell? ⟨gx, 4, none⟩ = some (.int .i64 (Ga.rd : Int)) := (blk_cell HXA10.out 4).trans rfl
           have y0 : w10.cell? ⟨gy, 0, none⟩ = some (.int .i64 eb) := (blk_cell HXB10.out 0).trans rfl
           have y1 : w10.cell? ⟨gy, 1, none⟩ = some (.int .i32 vb) := (blk_cell HXB10.out 1).trans rfl
           have y2 : w10.cell? ⟨gy, 2, none⟩ = some (.slice A8 Gb.tr.length c8) := (blk_cell HXB10.out 2).trans rfl
           have y3 : w10.cell? ⟨gy, 3, none⟩ = some (.int .i64 (Gb.st : Int)) := (blk_cell HXB10.out 3).trans rfl
           have y4 : w10.cell? ⟨gy, 4, none⟩ = some (.int .i64 (Gb.rd : Int)) := (blk_cell HXB10.out 4).trans rfl
           clear hB10)
        | fail)
      obtain ⟨hs1, hs2, hs3, vd, Gd, hs4⟩ := HR.out h5b
      have HS1 : Aside0 ((Gb.st : Int) ≤ 10000) := ⟨by omega⟩
      have hw1 : wrap64 ((Gb.st : Int) - 1) = (Gb.st : Int) - 1 := w64 (by omega) (by omega)
      have HS2 : Aside0 (wrap64 ((Gb.st : Int) - 1) ≤ 10000) := ⟨by rw [hw1]; omega⟩
      have HW1 := Aside0.mk hw1
      have HS3 := Aside0.mk hs3
      have HS4 := Aside0.mk hs4
      clear hs1 hs2 hs3 hs4 hw1
      refine start_ (n := 15) (S := fun w_ => w_.cell? ⟨w.heap.size, 0, none⟩ = some (.slice AG GS.length cG) ∧ w_.cell? ⟨w.heap.size, 1, none⟩ = some (.slice (some A) F.length cF) ∧ w_.cell? ⟨gy, 3, none⟩ = some (.int .i64 (Gb.st : Int)) ∧ Aside0 (Below w10.heap.size w10 w_)) (ds := [13, 14]) #[false, false, false, false, false, false, false, false, false, false, false, false, false, false, false] (by kernel_rfl) rfl rfl ⟨m0, m1, y3, ⟨below_drew (Below.refl _ _)⟩⟩ (fun hHeld => ?_)
      refine take_ (i := 0) (N := some 65) (v := ?_) (a' := ?_) #[true, false, false, false, false, false, false, false, false, false, false, false, false, false, false] rfl rfl (by kernel_rfl) (fun _ _ _ h => h) (Or.inl ⟨by rfl, ?_⟩) hHeld ?_ ?_
      rotate_left
      · rintro w' ⟨h0_, h1_, h2_, h3_⟩
        go_simp
        with_reducible rfl
      rotate_left
      · simp only [Act.put, List.setIfInBounds_toArray, List.set_cons_zero, List.set_cons_succ, i64_w, i32_w]
        rfl
      refine pure_ (i := 1) (N := some 66) (v := ?_) (a' := ?_) #[true, true, false, false, false, false, false, false, false, false, false, false, false, false, false] rfl rfl (by kernel_rfl) (fun _ _ _ h => h) (Or.inl ⟨by rfl, ?_⟩) ?_ ?_
      rotate_left
      · intro w'
        go_simp
        with_reducible rfl
      rotate_left
      · simp only [Act.put, List.setIfInBounds_toArray, List.set_cons_zero, List.set_cons_succ, i64_w, i32_w]
        rfl
      refine pure_ (i := 2) (N := some 67) (v := ?_) (a' := ?_) #[true, true, true, false, false, false, false, false, false, false, false, false, false, false, false] rfl rfl (by kernel_rfl) (fun _ _ _ h => h) (Or.inl ⟨by rfl, ?_⟩) ?_ ?_
      rotate_left
      · intro w'
        go_simp
        with_reducible rfl
      rotate_left
      · simp only [Act.put, List.setIfInBounds_toArray, List.set_cons_zero, List.set_cons_succ, i64_w, i32_w]
        rfl
      refine take_ (i := 3) (N := some 68) (v := ?_) (a' := ?_) #[true, true, true, true, false, false, false, false, false, false, false, false, false, false, false] rfl rfl (by kernel_rfl) (fun _ _ _ h => h) (Or.inl ⟨by rfl, ?_⟩) hHeld ?_ ?_
      rotate_left
      · rintro w' ⟨h0_, h1_, h2_, h3_⟩
        go_simp
        with_reducible rfl
      rotate_left
      · simp only [Act.put, List.setIfInBounds_toArray, List.set_cons_zero, List.set_cons_succ, i64_w, i32_w]
        rfl
      refine take_ (i := 5) (N := some 70) (v := ?_) (a' := ?_) #[true, true, true, true, false, true, false, false, false, false, false, false, false, false, false] rfl rfl (by kernel_rfl) (fun _ _ _ h => h) (Or.inl ⟨by rfl, ?_⟩) hHeld ?_ ?_
      rotate_left
      · rintro w' ⟨h0_, h1_, h2_, h3_⟩
        go_simp
        with_reducible rfl
      rotate_left
      · simp only [Act.put, List.setIfInBounds_toArray, List.set_cons_zero, List.set_cons_succ, i64_w, i32_w]
        rfl
      refine pure_ (i := 6) (N := some 71) (v := ?_) (a' := ?_) #[true, true, true, true, false, true, true, false, false, false, false, false, false, false, false] rfl rfl (by kernel_rfl) (fun _ _ _ h => h) (Or.inl ⟨by rfl, ?_⟩) ?_ ?_
      rotate_left
      · intro w'
        go_simp
        with_reducible rfl
      rotate_left
      · simp only [Act.put, List.setIfInBounds_toArray, List.set_cons_zero, List.set_cons_succ, i64_w, i32_w]
        rfl
      refine pure_ (i := 7) (N := some 72) (v := ?_) (a' := ?_) #[true, true, true, true, false, true, true, true, false, false, false, false, false, false, false] rfl rfl (by kernel_rfl) (fun _ _ _ h => h) (Or.inl ⟨by rfl, ?_⟩) ?_ ?_
      rotate_left
      · intro w'
        go_simp
        with_reducible rfl
      rotate_left
      · simp only [Act.put, List.setIfInBounds_toArray, List.set_cons_zero, List.set_cons_succ, i64_w, i32_w]
        rfl
      refine take_ (i := 8) (N := some 73) (v := ?_) (a' := ?_) #[true, true, true, true, false, true, true, true, true, false, false, false, false, false, false] rfl rfl (by kernel_rfl) (fun _ _ _ h => h) (Or.inl ⟨by rfl, ?_⟩) hHeld ?_ ?_
      rotate_left
      · rintro w' ⟨h0_, h1_, h2_, h3_⟩
        go_simp
        with_reducible rfl
      rotate_left
      · simp only [Act.put, List.setIfInBounds_toArray, List.set_cons_zero, List.set_cons_succ, i64_w, i32_w]
        rfl
      refine pure_ (i := 9) (N := some 74) (v := ?_) (a' := ?_) #[true, true, true, true, false, true, true, true, true, true, false, false, false, false, false] rfl rfl (by kernel_rfl) (fun _ _ _ h => h) (Or.inl ⟨by rfl, ?_⟩) ?_ ?_
      rotate_left
      · intro w'
        go_simp
        with_reducible rfl
      rotate_left
      · simp only [Act.put, List.setIfInBounds_toArray, List.set_cons_zero, List.set_cons_succ, i64_w, i32_w]
        rfl
      refine join_ (σ := Two) 2 #[true, true, true, true, true, true, true, true, true, true, true, true, true, false, false] (fun s => [(69, .agg #[.int .i64 eb, .int .i32 vb, .slice s.A1 Gb.tr.length s.c1, .int .i64 (Gb.st : Int), .int .i64 (Gb.rd : Int)]), (75, .agg #[.int .i64 5, .int .i32 s.v2, .slice s.A2 s.G2.tr.length s.c2, .int .i64 (s.G2.st : Int), .int .i64 (s.G2.rd : Int)]), (9, .pointer (some ⟨s.g1, 0, none⟩)), (10, .pointer (some ⟨s.g2, 0, none⟩))]) (fun s w_ => Aside0 (Below w10.heap.size w10 w_) ∧ Aside0 (Keeps (fun k => k = s.g1 ∨ k = s.g2) w_ s.A1 Gb.tr) ∧ Aside0 (Gb.tr.length ≤ s.c1) ∧ Aside0 (w_.heap[s.g1]? = some (.cells #[.int .i64 0, .int .i32 0, .slice none 0 0, .int .i64 0, .int .i64 0] 32 (0, 0))) ∧ Aside0 (w_.heap[s.g2]? = some (.cells #[.int .i64 0, .int .i32 0, .slice none 0 0, .int .i64 0, .int .i64 0] 32 (0, 0))) ∧ Aside0 (s.g1 ≠ s.g2 ∧ w10.heap.size ≤ s.g1 ∧ w10.heap.size ≤ s.g2)) ?_ (fun hfin => ?_)
      rotate_left
      refine three_ (i := 4) (j := 11) (k := 12) (Ni := some 69) (Nj := some 9) (Nk := some 10) #[true, true, true, true, true, true, true, true, true, true, false, false, false, false, false] #[true, true, true, true, false, true, true, true, true, true, false, true, false, false, false] #[true, true, true, true, false, true, true, true, true, true, false, false, true, false, false] rfl rfl rfl rfl rfl rfl (by kernel_rfl) (by decide) (by decide) (by decide) (fun K hK => ?_) (fun K hK => ?_) (fun K hK => ?_)
      · refine goes_ Try.func10 (by kernel_rfl) rfl #[.agg #[.slice AG GS.length cG, .slice (some A) F.length cF], .slice AI inp.length cI, .int .i64 (Gb.st : Int)] (by rfl) rfl rfl (by first | rfl | (simp only [List.map_toArray, List.map_cons, List.map_nil]; done) | (simp only [List.map_toArray, List.map_cons, List.map_nil]; rfl)) ?_
        refine (trace_at (HLW10.out.keep hHeld.2.2.2.out) HO.out inp AI cI (Gb.st : Int) HGG.out HF.out HIT.out HCF.out HCG.out HCI.out HWI.out HL3.out HS1.out).mono ?_
        rintro e_ w11 ⟨ec, vc, Gc, A11, c11, hc, rfl, hl11, hC11, hB_⟩
        rw [HS3.out] at hc
        injection hc with hc1 hc2 hc3
        subst hc1 hc2 hc3
        have HC1 := Aside0.mk (hC11.mono (Y := (fun _ => False)) (fun k hk => hk.elim))
        have HL11 := Aside0.mk hl11
        clear hC11 hl11
        refine ⟨_, rfl, ?_⟩
        refine hK.out _ _ ⟨pw_cell_below hB_ hHeld.1, pw_cell_below hB_ hHeld.2.1, pw_cell_below hB_ hHeld.2.2.1, ⟨below_then hHeld.2.2.2.out hHeld.2.2.2.out.size hB_⟩⟩ (fun hHeld => ?_)
        clear hK K
        refine norm_ (a' := ?_) ?_ ?_
        rotate_left
        · show Act.put _ (some 69) _ = _
          simp only [Act.put, List.setIfInBounds_toArray, List.set_cons_zero, List.set_cons_succ, i64_w, i32_w]
          rfl
        refine three_ (i := 10) (j := 11) (k := 12) (Ni := some 75) (Nj := some 9) (Nk := some 10) #[true, true, true, true, true, true, true, true, true, true, true, false, false, false, false] #[true, true, true, true, true, true, true, true, true, true, false, true, false, false, false] #[true, true, true, true, true, true, true, true, true, true, false, false, true, false, false] rfl rfl rfl rfl rfl rfl (by kernel_rfl) (by decide) (by decide) (by decide) (fun K hK => ?_) (fun K hK => ?_) (fun K hK => ?_)
        · refine goes_ Try.func10 (by kernel_rfl) rfl #[.agg #[.slice AG GS.length cG, .slice (some A) F.length cF], .slice AI inp.length cI, .int .i64 (wrap64 ((Gb.st : Int) - 1))] (by rfl) rfl rfl (by first | rfl | (simp only [List.map_toArray, List.map_cons, List.map_nil]; done) | (simp only [List.map_toArray, List.map_cons, List.map_nil]; rfl)) ?_
          refine (trace_at (HLW10.out.keep hHeld.2.2.2.out) HO.out inp AI cI (wrap64 ((Gb.st : Int) - 1)) HGG.out HF.out HIT.out HCF.out HCG.out HCI.out HWI.out HL3.out HS2.out).mono ?_
          rintro e_ w12 ⟨ed, vd_, Gd_, A12, c12, hd, rfl, hl12, hC12, hB_⟩
          rw [HW1.out, HS4.out] at hd
          injection hd with hd1 hd2 hd3
          subst hd1 hd2 hd3
          have HC1 := Aside0.mk (HC1.out.step hB_ (Y := (fun _ => False)) (fun k hk => Or.inl hk))
          clear hC12 hl12
          refine ⟨_, rfl, ?_⟩
          refine hK.out _ _ ⟨pw_cell_below hB_ hHeld.1, pw_cell_below hB_ hHeld.2.1, pw_cell_below hB_ hHeld.2.2.1, ⟨below_then hHeld.2.2.2.out hHeld.2.2.2.out.size hB_⟩⟩ (fun hHeld => ?_)
          clear hK K
          refine norm_ (a' := ?_) ?_ ?_
          rotate_left
          · show Act.put _ (some 75) _ = _
            simp only [Act.put, List.setIfInBounds_toArray, List.set_cons_zero, List.set_cons_succ, i64_w, i32_w]
            rfl
          refine two_ (i := 11) (j := 12) (Ni := some 9) (Nj := some 10) #[true, true, true, true, true, true, true, true, true, true, true, true, false, false, false] #[true, true, true, true, true, true, true, true, true, true, true, false, true, false, false] rfl rfl rfl rfl (by kernel_rfl) (by decide) (by decide) (fun K hK => ?_) (fun K hK => ?_)
          · refine box_step (by rfl) (N := 9) rfl (cs := #[.int .i64 0, .int .i32 0, .slice none 0 0, .int .i64 0, .int .i64 0]) (t := 32) (by first | (go_simp; done) | (go_simp; rfl)) ?_
            intro g9 hg_ w13 hb_ hB_
            have HC1 := Aside0.mk (HC1.out.step hB_ (Y := fun k => k = g9) (fun k hk => .inr (Nat.le_of_eq (Eq.trans hk hg_).symm)))
            have HB9 := Aside0.mk hb_
            have HG9 : Aside0 (w10.heap.size ≤ g9) := ⟨Nat.le_trans hHeld.2.2.2.out.size (Nat.le_of_eq hg_.symm)⟩
            clear hb_ hg_
            refine hK.out _ _ ⟨pw_cell_below hB_ hHeld.1, pw_cell_below hB_ hHeld.2.1, pw_cell_below hB_ hHeld.2.2.1, ⟨below_then hHeld.2.2.2.out hHeld.2.2.2.out.size hB_⟩⟩ (fun hHeld => ?_)
            clear hK K
            refine norm_ (a' := ?_) ?_ ?_
            rotate_left
            · show Act.put _ (some 9) _ = _
              simp only [Act.put, List.setIfInBounds_toArray, List.set_cons_zero, List.set_cons_succ, i64_w, i32_w]
              rfl
            refine one_ (i := 12) (N := some 10) #[true, true, true, true, true, true, true, true, true, true, true, true, true, false, false] rfl rfl (by kernel_rfl) (by decide) (fun K hK => ?_)
            refine box_step (by rfl) (N := 10) rfl (cs := #[.int .i64 0, .int .i32 0, .slice none 0 0, .int .i64 0, .int .i64 0]) (t := 32) (by first | (go_simp; done) | (go_simp; rfl)) ?_
            intro g10 hg_ w13 hb_ hB_
            have HC1 := Aside0.mk (HC1.out.step hB_ (Y := fun k => k = g9 ∨ k = g10) (fun k hk => hk.elim (fun h => .inl h) (fun h => .inr (Nat.le_of_eq (h.trans hg_).symm))))
            have HNE : Aside0 (g9 ≠ g10) := ⟨fun e_ => by have h1_ := blk_lt HB9.out; omega⟩
            have HB9 := Aside0.mk (blk_below HB9.out hB_)
            have HB10 := Aside0.mk hb_
            have HG10 : Aside0 (w10.heap.size ≤ g10) := ⟨Nat.le_trans hHeld.2.2.2.out.size (Nat.le_of_eq hg_.symm)⟩
            clear hb_ hg_
            refine hK.out _ _ ⟨pw_cell_below hB_ hHeld.1, pw_cell_below hB_ hHeld.2.1, pw_cell_below hB_ hHeld.2.2.1, ⟨below_then hHeld.2.2.2.out hHeld.2.2.2.out.size hB_⟩⟩ (fun hHeld => ?_)
            clear hK K
            refine norm_ (a' := ?_) ?_ ?_
            rotate_left
            · show Act.put _ (some 10) _ = _
              simp only [Act.put, List.setIfInBounds_toArray, List.set_cons_zero, List.set_cons_succ, i64_w, i32_w]
              rfl
            refine norm_ (by kernel_rfl) (hfin ⟨A11, c11, vd, Gd, A12, c12, g9, g10⟩ _ ⟨hHeld.2.2.2, HC1, HL11, HB9, HB10, ⟨⟨HNE.out, HG9.out, HG10.out⟩⟩⟩)
          · refine box_step (by rfl) (N := 10) rfl (cs := #[.int .i64 0, .int .i32 0, .slice none 0 0, .int .i64 0, .int .i64 0]) (t := 32) (by first | (go_simp; done) | (go_simp; rfl)) ?_
            intro g10 hg_ w13 hb_ hB_
            have HC1 := Aside0.mk (HC1.out.step hB_ (Y := fun k => k = g10) (fun k hk => .inr (Nat.le_of_eq (Eq.trans hk hg_).symm)))
            have HB10 := Aside0.mk hb_
            have HG10 : Aside0 (w10.heap.size ≤ g10) := ⟨Nat.le_trans hHeld.2.2.2.out.size (Nat.le_of_eq hg_.symm)⟩
            clear hb_ hg_
            refine hK.out _ _ ⟨pw_cell_below hB_ hHeld.1, pw_cell_below hB_ hHeld.2.1, pw_cell_below hB_ hHeld.2.2.1, ⟨below_then hHeld.2.2.2.out hHeld.2.2.2.out.size hB_⟩⟩ (fun hHeld => ?_)
            clear hK K
            refine norm_ (a' := ?_) ?_ ?_
            rotate_left
            · show Act.put _ (some 10) _ = _
              simp only [Act.put, List.setIfInBounds_toArray, List.set_cons_zero, List.set_cons_succ, i64_w, i32_w]
              rfl
            refine one_ (i := 11) (N := some 9) #[true, true, true, true, true, true, true, true, true, true, true, true, true, false, false] rfl rfl (by kernel_rfl) (by decide) (fun K hK => ?_)
            refine box_step (by rfl) (N := 9) rfl (cs := #[.int .i64 0, .int .i32 0, .slice none 0 0, .int .i64 0, .int .i64 0]) (t := 32) (by first | (go_simp; done) | (go_simp; rfl)) ?_
            intro g9 hg_ w13 hb_ hB_
            have HC1 := Aside0.mk (HC1.out.step hB_ (Y := fun k => k = g9 ∨ k = g10) (fun k hk => hk.elim (fun h => .inr (Nat.le_of_eq (h.trans hg_).symm)) (fun h => .inl h)))
            have HNE : Aside0 (g9 ≠ g10) := ⟨fun e_ => by have h1_ := blk_lt HB10.out; omega⟩
            have HB10 := Aside0.mk (blk_below HB10.out hB_)
            have HB9 := Aside0.mk hb_
            have HG9 : Aside0 (w10.heap.size ≤ g9) := ⟨Nat.le_trans hHeld.2.2.2.out.size (Nat.le_of_eq hg_.symm)⟩
            clear hb_ hg_
            refine hK.out _ _ ⟨pw_cell_below hB_ hHeld.1, pw_cell_below hB_ hHeld.2.1, pw_cell_below hB_ hHeld.2.2.1, ⟨below_then hHeld.2.2.2.out hHeld.2.2.2.out.size hB_⟩⟩ (fun hHeld => ?_)
            clear hK K
            refine norm_ (a' := ?_) ?_ ?_
            rotate_left
            · show Act.put _ (some 9) _ = _
              simp only [Act.put, List.setIfInBounds_toArray, List.set_cons_zero, List.set_cons_succ, i64_w, i32_w]
              rfl
            refine norm_ (by kernel_rfl) (hfin ⟨A11, c11, vd, Gd, A12, c12, g9, g10⟩ _ ⟨hHeld.2.2.2, HC1, HL11, HB9, HB10, ⟨⟨HNE.out, HG9.out, HG10.out⟩⟩⟩)
        · refine box_step (by rfl) (N := 9) rfl (cs := #[.int .i64 0, .int .i32 0, .slice none 0 0, .int .i64 0, .int .i64 0]) (t := 32) (by first | (go_simp; done) | (go_simp; rfl)) ?_
          intro g9 hg_ w13 hb_ hB_
          have HC1 := Aside0.mk (HC1.out.step hB_ (Y := fun k => k = g9) (fun k hk => .inr (Nat.le_of_eq (Eq.trans hk hg_).symm)))
          have HB9 := Aside0.mk hb_
          have HG9 : Aside0 (w10.heap.size ≤ g9) := ⟨Nat.le_trans hHeld.2.2.2.out.size (Nat.le_of_eq hg_.symm)⟩
          clear hb_ hg_
          refine hK.out _ _ ⟨pw_cell_below hB_ hHeld.1, pw_cell_below hB_ hHeld.2.1, pw_cell_below hB_ hHeld.2.2.1, ⟨below_then hHeld.2.2.2.out hHeld.2.2.2.out.size hB_⟩⟩ (fun hHeld => ?_)
          clear hK K
          refine norm_ (a' := ?_) ?_ ?_
          rotate_left
          · show Act.put _ (some 9) _ = _
            simp only [Act.put, List.setIfInBounds_toArray, List.set_cons_zero, List.set_cons_succ, i64_w, i32_w]
            rfl
          refine two_ (i := 10) (j := 12) (Ni := some 75) (Nj := some 10) #[true, true, true, true, true, true, true, true, true, true, true, true, false, false, false] #[true, true, true, true, true, true, true, true, true, true, false, true, true, false, false] rfl rfl rfl rfl (by kernel_rfl) (by decide) (by decide) (fun K hK => ?_) (fun K hK => ?_)
          · refine goes_ Try.func10 (by kernel_rfl) rfl #[.agg #[.slice AG GS.length cG, .slice (some A) F.length cF], .slice AI inp.length cI, .int .i64 (wrap64 ((Gb.st : Int) - 1))] (by rfl) rfl rfl (by first | rfl | (simp only [List.map_toArray, List.map_cons, List.map_nil]; done) | (simp only [List.map_toArray, List.map_cons, List.map_nil]; rfl)) ?_
            refine (trace_at (HLW10.out.keep hHeld.2.2.2.out) HO.out inp AI cI (wrap64 ((Gb.st : Int) - 1)) HGG.out HF.out HIT.out HCF.out HCG.out HCI.out HWI.out HL3.out HS2.out).mono ?_
            rintro e_ w12 ⟨ed, vd_, Gd_, A12, c12, hd, rfl, hl12, hC12, hB_⟩
            rw [HW1.out, HS4.out] at hd
            injection hd with hd1 hd2 hd3
            subst hd1 hd2 hd3
            have HC1 := Aside0.mk (HC1.out.step hB_ (Y := (fun k => k = g9)) (fun k hk => Or.inl hk))
            have HB9 := Aside0.mk (blk_below HB9.out hB_)
            clear hC12 hl12
            refine ⟨_, rfl, ?_⟩
            refine hK.out _ _ ⟨pw_cell_below hB_ hHeld.1, pw_cell_below hB_ hHeld.2.1, pw_cell_below hB_ hHeld.2.2.1, ⟨below_then hHeld.2.2.2.out hHeld.2.2.2.out.size hB_⟩⟩ (fun hHeld => ?_)
            clear hK K
            refine norm_ (a' := ?_) ?_ ?_
            rotate_left
            · show Act.put _ (some 75) _ = _
              simp only [Act.put, List.setIfInBounds_toArray, List.set_cons_zero, List.set_cons_succ, i64_w, i32_w]
              rfl
            refine one_ (i := 12) (N := some 10) #[true, true, true, true, true, true, true, true, true, true, true, true, true, false, false] rfl rfl (by kernel_rfl) (by decide) (fun K hK => ?_)
            refine box_step (by rfl) (N := 10) rfl (cs := #[.int .i64 0, .int .i32 0, .slice none 0 0, .int .i64 0, .int .i64 0]) (t := 32) (by first | (go_simp; done) | (go_simp; rfl)) ?_
            intro g10 hg_ w13 hb_ hB_
            have HC1 := Aside0.mk (HC1.out.step hB_ (Y := fun k => k = g9 ∨ k = g10) (fun k hk => hk.elim (fun h => .inl h) (fun h => .inr (Nat.le_of_eq (h.trans hg_).symm))))
            have HNE : Aside0 (g9 ≠ g10) := ⟨fun e_ => by have h1_ := blk_lt HB9.out; omega⟩
            have HB9 := Aside0.mk (blk_below HB9.out hB_)
            have HB10 := Aside0.mk hb_
            have HG10 : Aside0 (w10.heap.size ≤ g10) := ⟨Nat.le_trans hHeld.2.2.2.out.size (Nat.le_of_eq hg_.symm)⟩
            clear hb_ hg_
            refine hK.out _ _ ⟨pw_cell_below hB_ hHeld.1, pw_cell_below hB_ hHeld.2.1, pw_cell_below hB_ hHeld.2.2.1, ⟨below_then hHeld.2.2.2.out hHeld.2.2.2.out.size hB_⟩⟩ (fun hHeld => ?_)
            clear hK K
            refine norm_ (a' := ?_) ?_ ?_
            rotate_left
            · show Act.put _ (some 10) _ = _
              simp only [Act.put, List.setIfInBounds_toArray, List.set_cons_zero, List.set_cons_succ, i64_w, i32_w]
              rfl
            refine norm_ (by kernel_rfl) (hfin ⟨A11, c11, vd, Gd, A12, c12, g9, g10⟩ _ ⟨hHeld.2.2.2, HC1, HL11, HB9, HB10, ⟨⟨HNE.out, HG9.out, HG10.out⟩⟩⟩)
          · refine box_step (by rfl) (N := 10) rfl (cs := #[.int .i64 0, .int .i32 0, .slice none 0 0, .int .i64 0, .int .i64 0]) (t := 32) (by first | (go_simp; done) | (go_simp; rfl)) ?_
            intro g10 hg_ w13 hb_ hB_
            have HC1 := Aside0.mk (HC1.out.step hB_ (Y := fun k => k = g9 ∨ k = g10) (fun k hk => hk.elim (fun h => .inl h) (fun h => .inr (Nat.le_of_eq (h.trans hg_).symm))))
            have HNE : Aside0 (g9 ≠ g10) := ⟨fun e_ => by have h1_ := blk_lt HB9.out; omega⟩
            have HB9 := Aside0.mk (blk_below HB9.out hB_)
            have HB10 := Aside0.mk hb_
            have HG10 : Aside0 (w10.heap.size ≤ g10) := ⟨Nat.le_trans hHeld.2.2.2.out.size (Nat.le_of_eq hg_.symm)⟩
            clear hb_ hg_
            refine hK.out _ _ ⟨pw_cell_below hB_ hHeld.1, pw_cell_below hB_ hHeld.2.1, pw_cell_below hB_ hHeld.2.2.1, ⟨below_then hHeld.2.2.2.out hHeld.2.2.2.out.size hB_⟩⟩ (fun hHeld => ?_)
            clear hK K
            refine norm_ (a' := ?_) ?_ ?_
            rotate_left
            · show Act.put _ (some 10) _ = _
              simp only [Act.put, List.setIfInBounds_toArray, List.set_cons_zero, List.set_cons_succ, i64_w, i32_w]
              rfl
            refine one_ (i := 10) (N := some 75) #[true, true, true, true, true, true, true, true, true, true, true, true, true, false, false] rfl rfl (by kernel_rfl) (by decide) (fun K hK => ?_)
            refine goes_ Try.func10 (by kernel_rfl) rfl #[.agg #[.slice AG GS.length cG, .slice (some A) F.length cF], .slice AI inp.length cI, .int .i64 (wrap64 ((Gb.st : Int) - 1))] (by rfl) rfl rfl (by first | rfl | (simp only [List.map_toArray, List.map_cons, List.map_nil]; done) | (simp only [List.map_toArray, List.map_cons, List.map_nil]; rfl)) ?_
            refine (trace_at (HLW10.out.keep hHeld.2.2.2.out) HO.out inp AI cI (wrap64 ((Gb.st : Int) - 1)) HGG.out HF.out HIT.out HCF.out HCG.out HCI.out HWI.out HL3.out HS2.out).mono ?_
            rintro e_ w12 ⟨ed, vd_, Gd_, A12, c12, hd, rfl, hl12, hC12, hB_⟩
            rw [HW1.out, HS4.out] at hd
            injection hd with hd1 hd2 hd3
            subst hd1 hd2 hd3
            have HC1 := Aside0.mk (HC1.out.step hB_ (Y := (fun k => k = g9 ∨ k = g10)) (fun k hk => Or.inl hk))
            have HB9 := Aside0.mk (blk_below HB9.out hB_)
            have HB10 := Aside0.mk (blk_below HB10.out hB_)
            clear hC12 hl12
            refine ⟨_, rfl, ?_⟩
            refine hK.out _ _ ⟨pw_cell_below hB_ hHeld.1, pw_cell_below hB_ hHeld.2.1, pw_cell_below hB_ hHeld.2.2.1, ⟨below_then hHeld.2.2.2.out hHeld.2.2.2.out.size hB_⟩⟩ (fun hHeld => ?_)
            clear hK K
            refine norm_ (a' := ?_) ?_ ?_
            rotate_left
            · show Act.put _ (some 75) _ = _
              simp only [Act.put, List.setIfInBounds_toArray, List.set_cons_zero, List.set_cons_succ, i64_w, i32_w]
              rfl
            refine norm_ (by kernel_rfl) (hfin ⟨A11, c11, vd, Gd, A12, c12, g9, g10⟩ _ ⟨hHeld.2.2.2, HC1, HL11, HB9, HB10, ⟨⟨HNE.out, HG9.out, HG10.out⟩⟩⟩)
        · refine box_step (by rfl) (N := 10) rfl (cs := #[.int .i64 0, .int .i32 0, .slice none 0 0, .int .i64 0, .int .i64 0]) (t := 32) (by first | (go_simp; done) | (go_simp; rfl)) ?_
          intro g10 hg_ w13 hb_ hB_
          have HC1 := Aside0.mk (HC1.out.step hB_ (Y := fun k => k = g10) (fun k hk => .inr (Nat.le_of_eq (Eq.trans hk hg_).symm)))
          have HB10 := Aside0.mk hb_
          have HG10 : Aside0 (w10.heap.size ≤ g10) := ⟨Nat.le_trans hHeld.2.2.2.out.size (Nat.le_of_eq hg_.symm)⟩
          clear hb_ hg_
          refine hK.out _ _ ⟨pw_cell_below hB_ hHeld.1, pw_cell_below hB_ hHeld.2.1, pw_cell_below hB_ hHeld.2.2.1, ⟨below_then hHeld.2.2.2.out hHeld.2.2.2.out.size hB_⟩⟩ (fun hHeld => ?_)
          clear hK K
          refine norm_ (a' := ?_) ?_ ?_
          rotate_left
          · show Act.put _ (some 10) _ = _
            simp only [Act.put, List.setIfInBounds_toArray, List.set_cons_zero, List.set_cons_succ, i64_w, i32_w]
            rfl
          refine two_ (i := 10) (j := 11) (Ni := some 75) (Nj := some 9) #[true, true, true, true, true, true, true, true, true, true, true, false, true, false, false] #[true, true, true, true, true, true, true, true, true, true, false, true, true, false, false] rfl rfl rfl rfl (by kernel_rfl) (by decide) (by decide) (fun K hK => ?_) (fun K hK => ?_)
          · refine goes_ Try.func10 (by kernel_rfl) rfl #[.agg #[.slice AG GS.length cG, .slice (some A) F.length cF], .slice AI inp.length cI, .int .i64 (wrap64 ((Gb.st : Int) - 1))] (by rfl) rfl rfl (by first | rfl | (simp only [List.map_toArray, List.map_cons, List.map_nil]; done) | (simp only [List.map_toArray, List.map_cons, List.map_nil]; rfl)) ?_
            refine (trace_at (HLW10.out.keep hHeld.2.2.2.out) HO.out inp AI cI (wrap64 ((Gb.st : Int) - 1)) HGG.out HF.out HIT.out HCF.out HCG.out HCI.out HWI.out HL3.out HS2.out).mono ?_
            rintro e_ w12 ⟨ed, vd_, Gd_, A12, c12, hd, rfl, hl12, hC12, hB_⟩
            rw [HW1.out, HS4.out] at hd
            injection hd with hd1 hd2 hd3
            subst hd1 hd2 hd3
            have HC1 := Aside0.mk (HC1.out.step hB_ (Y := (fun k => k = g10)) (fun k hk => Or.inl hk))
            have HB10 := Aside0.mk (blk_below HB10.out hB_)
            clear hC12 hl12
            refine ⟨_, rfl, ?_⟩
            refine hK.out _ _ ⟨pw_cell_below hB_ hHeld.1, pw_cell_below hB_ hHeld.2.1, pw_cell_below hB_ hHeld.2.2.1, ⟨below_then hHeld.2.2.2.out hHeld.2.2.2.out.size hB_⟩⟩ (fun hHeld => ?_)
            clear hK K
            refine norm_ (a' := ?_) ?_ ?_
            rotate_left
            · show Act.put _ (some 75) _ = _
              simp only [Act.put, List.setIfInBounds_toArray, List.set_cons_zero, List.set_cons_succ, i64_w, i32_w]
              rfl
            refine one_ (i := 11) (N := some 9) #[true, true, true, true, true, true, true, true, true, true, true, true, true, false, false] rfl rfl (by kernel_rfl) (by decide) (fun K hK => ?_)
            refine box_step (by rfl) (N := 9) rfl (cs := #[.int .i64 0, .int .i32 0, .slice none 0 0, .int .i64 0, .int .i64 0]) (t := 32) (by first | (go_simp; done) | (go_simp; rfl)) ?_
            intro g9 hg_ w13 hb_ hB_
            have HC1 := Aside0.mk (HC1.out.step hB_ (Y := fun k => k = g9 ∨ k = g10) (fun k hk => hk.elim (fun h => .inr (Nat.le_of_eq (h.trans hg_).symm)) (fun h => .inl h)))
            have HNE : Aside0 (g9 ≠ g10) := ⟨fun e_ => by have h1_ := blk_lt HB10.out; omega⟩
            have HB10 := Aside0.mk (blk_below HB10.out hB_)
            have HB9 := Aside0.mk hb_
            have HG9 : Aside0 (w10.heap.size ≤ g9) := ⟨Nat.le_trans hHeld.2.2.2.out.size (Nat.le_of_eq hg_.symm)⟩
            clear hb_ hg_
            refine hK.out _ _ ⟨pw_cell_below hB_ hHeld.1, pw_cell_below hB_ hHeld.2.1, pw_cell_below hB_ hHeld.2.2.1, ⟨below_then hHeld.2.2.2.out hHeld.2.2.2.out.size hB_⟩⟩ (fun hHeld => ?_)
            clear hK K
            refine norm_ (a' := ?_) ?_ ?_
            rotate_left
            · show Act.put _ (some 9) _ = _
              simp only [Act.put, List.setIfInBounds_toArray, List.set_cons_zero, List.set_cons_succ, i64_w, i32_w]
              rfl
            refine norm_ (by kernel_rfl) (hfin ⟨A11, c11, vd, Gd, A12, c12, g9, g10⟩ _ ⟨hHeld.2.2.2, HC1, HL11, HB9, HB10, ⟨⟨HNE.out, HG9.out, HG10.out⟩⟩⟩)
          · refine box_step (by rfl) (N := 9) rfl (cs := #[.int .i64 0, .int .i32 0, .slice none 0 0, .int .i64 0, .int .i64 0]) (t := 32) (by first | (go_simp; done) | (go_simp; rfl)) ?_
            intro g9 hg_ w13 hb_ hB_
            have HC1 := Aside0.mk (HC1.out.step hB_ (Y := fun k => k = g9 ∨ k = g10) (fun k hk => hk.elim (fun h => .inr (Nat.le_of_eq (h.trans hg_).symm)) (fun h => .inl h)))
            have HNE : Aside0 (g9 ≠ g10) := ⟨fun e_ => by have h1_ := blk_lt HB10.out; omega⟩
            have HB10 := Aside0.mk (blk_below HB10.out hB_)
            have HB9 := Aside0.mk hb_
            have HG9 : Aside0 (w10.heap.size ≤ g9) := ⟨Nat.le_trans hHeld.2.2.2.out.size (Nat.le_of_eq hg_.symm)⟩
            clear hb_ hg_
            refine hK.out _ _ ⟨pw_cell_below hB_ hHeld.1, pw_cell_below hB_ hHeld.2.1, pw_cell_below hB_ hHeld.2.2.1, ⟨below_then hHeld.2.2.2.out hHeld.2.2.2.out.size hB_⟩⟩ (fun hHeld => ?_)
            clear hK K
            refine norm_ (a' := ?_) ?_ ?_
            rotate_left
            · show Act.put _ (some 9) _ = _
              simp only [Act.put, List.setIfInBounds_toArray, List.set_cons_zero, List.set_cons_succ, i64_w, i32_w]
              rfl
            refine one_ (i := 10) (N := some 75) #[true, true, true, true, true, true, true, true, true, true, true, true, true, false, false] rfl rfl (by kernel_rfl) (by decide) (fun K hK => ?_)
            refine goes_ Try.func10 (by kernel_rfl) rfl #[.agg #[.slice AG GS.length cG, .slice (some A) F.length cF], .slice AI inp.length cI, .int .i64 (wrap64 ((Gb.st : Int) - 1))] (by rfl) rfl rfl (by first | rfl | (simp only [List.map_toArray, List.map_cons, List.map_nil]; done) | (simp only [List.map_toArray, List.map_cons, List.map_nil]; rfl)) ?_
            refine (trace_at (HLW10.out.keep hHeld.2.2.2.out) HO.out inp AI cI (wrap64 ((Gb.st : Int) - 1)) HGG.out HF.out HIT.out HCF.out HCG.out HCI.out HWI.out HL3.out HS2.out).mono ?_
            rintro e_ w12 ⟨ed, vd_, Gd_, A12, c12, hd, rfl, hl12, hC12, hB_⟩
            rw [HW1.out, HS4.out] at hd
            injection hd with hd1 hd2 hd3
            subst hd1 hd2 hd3
            have HC1 := Aside0.mk (HC1.out.step hB_ (Y := (fun k => k = g9 ∨ k = g10)) (fun k hk => Or.inl hk))
            have HB9 := Aside0.mk (blk_below HB9.out hB_)
            have HB10 := Aside0.mk (blk_below HB10.out hB_)
            clear hC12 hl12
            refine ⟨_, rfl, ?_⟩
            refine hK.out _ _ ⟨pw_cell_below hB_ hHeld.1, pw_cell_below hB_ hHeld.2.1, pw_cell_below hB_ hHeld.2.2.1, ⟨below_then hHeld.2.2.2.out hHeld.2.2.2.out.size hB_⟩⟩ (fun hHeld => ?_)
            clear hK K
            refine norm_ (a' := ?_) ?_ ?_
            rotate_left
            · show Act.put _ (some 75) _ = _
              simp only [Act.put, List.setIfInBounds_toArray, List.set_cons_zero, List.set_cons_succ, i64_w, i32_w]
              rfl
            refine norm_ (by kernel_rfl) (hfin ⟨A11, c11, vd, Gd, A12, c12, g9, g10⟩ _ ⟨hHeld.2.2.2, HC1, HL11, HB9, HB10, ⟨⟨HNE.out, HG9.out, HG10.out⟩⟩⟩)
      · refine box_step (by rfl) (N := 9) rfl (cs := #[.int .i64 0, .int .i32 0, .slice none 0 0, .int .i64 0, .int .i64 0]) (t := 32) (by first | (go_simp; done) | (go_simp; rfl)) ?_
        intro g9 hg_ w13 hb_ hB_
        have HB9 := Aside0.mk hb_
        have HG9 : Aside0 (w10.heap.size ≤ g9) := ⟨Nat.le_trans hHeld.2.2.2.out.size (Nat.le_of_eq hg_.symm)⟩
        clear hb_ hg_
        refine hK.out _ _ ⟨pw_cell_below hB_ hHeld.1, pw_cell_below hB_ hHeld.2.1, pw_cell_below hB_ hHeld.2.2.1, ⟨below_then hHeld.2.2.2.out hHeld.2.2.2.out.size hB_⟩⟩ (fun hHeld => ?_)
        clear hK K
        refine norm_ (a' := ?_) ?_ ?_
        rotate_left
        · show Act.put _ (some 9) _ = _
          simp only [Act.put, List.setIfInBounds_toArray, List.set_cons_zero, List.set_cons_succ, i64_w, i32_w]
          rfl
        refine two_ (i := 4) (j := 12) (Ni := some 69) (Nj := some 10) #[true, true, true, true, true, true, true, true, true, true, false, true, false, false, false] #[true, true, true, true, false, true, true, true, true, true, false, true, true, false, false] rfl rfl rfl rfl (by kernel_rfl) (by decide) (by decide) (fun K hK => ?_) (fun K hK => ?_)
        · refine goes_ Try.func10 (by kernel_rfl) rfl #[.agg #[.slice AG GS.length cG, .slice (some A) F.length cF], .slice AI inp.length cI, .int .i64 (Gb.st : Int)] (by rfl) rfl rfl (by first | rfl | (simp only [List.map_toArray, List.map_cons, List.map_nil]; done) | (simp only [List.map_toArray, List.map_cons, List.map_nil]; rfl)) ?_
          refine (trace_at (HLW10.out.keep hHeld.2.2.2.out) HO.out inp AI cI (Gb.st : Int) HGG.out HF.out HIT.out HCF.out HCG.out HCI.out HWI.out HL3.out HS1.out).mono ?_
          rintro e_ w11 ⟨ec, vc, Gc, A11, c11, hc, rfl, hl11, hC11, hB_⟩
          rw [HS3.out] at hc
          injection hc with hc1 hc2 hc3
          subst hc1 hc2 hc3
          have HC1 := Aside0.mk (hC11.mono (Y := (fun k => k = g9)) (fun k hk => hk ▸ blk_lt HB9.out))
          have HL11 := Aside0.mk hl11
          have HB9 := Aside0.mk (blk_below HB9.out hB_)
          clear hC11 hl11
          refine ⟨_, rfl, ?_⟩
          refine hK.out _ _ ⟨pw_cell_below hB_ hHeld.1, pw_cell_below hB_ hHeld.2.1, pw_cell_below hB_ hHeld.2.2.1, ⟨below_then hHeld.2.2.2.out hHeld.2.2.2.out.size hB_⟩⟩ (fun hHeld => ?_)
          clear hK K
          refine norm_ (a' := ?_) ?_ ?_
          rotate_left
          · show Act.put _ (some 69) _ = _
            simp only [Act.put, List.setIfInBounds_toArray, List.set_cons_zero, List.set_cons_succ, i64_w, i32_w]
            rfl
          refine two_ (i := 10) (j := 12) (Ni := some 75) (Nj := some 10) #[true, true, true, true, true, true, true, true, true, true, true, true, false, false, false] #[true, true, true, true, true, true, true, true, true, true, false, true, true, false, false] rfl rfl rfl rfl (by kernel_rfl) (by decide) (by decide) (fun K hK => ?_) (fun K hK => ?_)
          · refine goes_ Try.func10 (by kernel_rfl) rfl #[.agg #[.slice AG GS.length cG, .slice (some A) F.length cF], .slice AI inp.length cI, .int .i64 (wrap64 ((Gb.st : Int) - 1))] (by rfl) rfl rfl (by first | rfl | (simp only [List.map_toArray, List.map_cons, List.map_nil]; done) | (simp only [List.map_toArray, List.map_cons, List.map_nil]; rfl)) ?_
            refine (trace_at (HLW10.out.keep hHeld.2.2.2.out) HO.out inp AI cI (wrap64 ((Gb.st : Int) - 1)) HGG.out HF.out HIT.out HCF.out HCG.out HCI.out HWI.out HL3.out HS2.out).mono ?_
            rintro e_ w12 ⟨ed, vd_, Gd_, A12, c12, hd, rfl, hl12, hC12, hB_⟩
            rw [HW1.out, HS4.out] at hd
            injection hd with hd1 hd2 hd3
            subst hd1 hd2 hd3
            have HC1 := Aside0.mk (HC1.out.step hB_ (Y := (fun k => k = g9)) (fun k hk => Or.inl hk))
            have HB9 := Aside0.mk (blk_below HB9.out hB_)
            clear hC12 hl12
            refine ⟨_, rfl, ?_⟩
            refine hK.out _ _ ⟨pw_cell_below hB_ hHeld.1, pw_cell_below hB_ hHeld.2.1, pw_cell_below hB_ hHeld.2.2.1, ⟨below_then hHeld.2.2.2.out hHeld.2.2.2.out.size hB_⟩⟩ (fun hHeld => ?_)
            clear hK K
            refine norm_ (a' := ?_) ?_ ?_
            rotate_left
            · show Act.put _ (some 75) _ = _
              simp only [Act.put, List.setIfInBounds_toArray, List.set_cons_zero, List.set_cons_succ, i64_w, i32_w]
              rfl
            refine one_ (i := 12) (N := some 10) #[true, true, true, true, true, true, true, true, true, true, true, true, true, false, false] rfl rfl (by kernel_rfl) (by decide) (fun K hK => ?_)
            refine box_step (by rfl) (N := 10) rfl (cs := #[.int .i64 0, .int .i32 0, .slice none 0 0, .int .i64 0, .int .i64 0]) (t := 32) (by first | (go_simp; done) | (go_simp; rfl)) ?_
            intro g10 hg_ w13 hb_ hB_
            have HC1 := Aside0.mk (HC1.out.step hB_ (Y := fun k => k = g9 ∨ k = g10) (fun k hk => hk.elim (fun h => .inl h) (fun h => .inr (Nat.le_of_eq (h.trans hg_).symm))))
            have HNE : Aside0 (g9 ≠ g10) := ⟨fun e_ => by have h1_ := blk_lt HB9.out; omega⟩
            have HB9 := Aside0.mk (blk_below HB9.out hB_)
            have HB10 := Aside0.mk hb_
            have HG10 : Aside0 (w10.heap.size ≤ g10) := ⟨Nat.le_trans hHeld.2.2.2.out.size (Nat.le_of_eq hg_.symm)⟩
            clear hb_ hg_
            refine hK.out _ _ ⟨pw_cell_below hB_ hHeld.1, pw_cell_below hB_ hHeld.2.1, pw_cell_below hB_ hHeld.2.2.1, ⟨below_then hHeld.2.2.2.out hHeld.2.2.2.out.size hB_⟩⟩ (fun hHeld => ?_)
            clear hK K
            refine norm_ (a' := ?_) ?_ ?_
            rotate_left
            · show Act.put _ (some 10) _ = _
              simp only [Act.put, List.setIfInBounds_toArray, List.set_cons_zero, List.set_cons_succ, i64_w, i32_w]
              rfl
            refine norm_ (by kernel_rfl) (hfin ⟨A11, c11, vd, Gd, A12, c12, g9, g10⟩ _ ⟨hHeld.2.2.2, HC1, HL11, HB9, HB10, ⟨⟨HNE.out, HG9.out, HG10.out⟩⟩⟩)
          · refine box_step (by rfl) (N := 10) rfl (cs := #[.int .i64 0, .int .i32 0, .slice none 0 0, .int .i64 0, .int .i64 0]) (t := 32) (by first | (go_simp; done) | (go_simp; rfl)) ?_
            intro g10 hg_ w13 hb_ hB_
            have HC1 := Aside0.mk (HC1.out.step hB_ (Y := fun k => k = g9 ∨ k = g10) (fun k hk => hk.elim (fun h => .inl h) (fun h => .inr (Nat.le_of_eq (h.trans hg_).symm))))
            have HNE : Aside0 (g9 ≠ g10) := ⟨fun e_ => by have h1_ := blk_lt HB9.out; omega⟩
            have HB9 := Aside0.mk (blk_below HB9.out hB_)
            have HB10 := Aside0.mk hb_
            have HG10 : Aside0 (w10.heap.size ≤ g10) := ⟨Nat.le_trans hHeld.2.2.2.out.size (Nat.le_of_eq hg_.symm)⟩
            clear hb_ hg_
            refine hK.out _ _ ⟨pw_cell_below hB_ hHeld.1, pw_cell_below hB_ hHeld.2.1, pw_cell_below hB_ hHeld.2.2.1, ⟨below_then hHeld.2.2.2.out hHeld.2.2.2.out.size hB_⟩⟩ (fun hHeld => ?_)
            clear hK K
            refine norm_ (a' := ?_) ?_ ?_
            rotate_left
            · show Act.put _ (some 10) _ = _
              simp only [Act.put, List.setIfInBounds_toArray, List.set_cons_zero, List.set_cons_succ, i64_w, i32_w]
              rfl
            refine one_ (i := 10) (N := some 75) #[true, true, true, true, true, true, true, true, true, true, true, true, true, false, false] rfl rfl (by kernel_rfl) (by decide) (fun K hK => ?_)
            refine goes_ Try.func10 (by kernel_rfl) rfl #[.agg #[.slice AG GS.length cG, .slice (some A) F.length cF], .slice AI inp.length cI, .int .i64 (wrap64 ((Gb.st : Int) - 1))] (by rfl) rfl rfl (by first | rfl | (simp only [List.map_toArray, List.map_cons, List.map_nil]; done) | (simp only [List.map_toArray, List.map_cons, List.map_nil]; rfl)) ?_
            refine (trace_at (HLW10.out.keep hHeld.2.2.2.out) HO.out inp AI cI (wrap64 ((Gb.st : Int) - 1)) HGG.out HF.out HIT.out HCF.out HCG.out HCI.out HWI.out HL3.out HS2.out).mono ?_
            rintro e_ w12 ⟨ed, vd_, Gd_, A12, c12, hd, rfl, hl12, hC12, hB_⟩
            rw [HW1.out, HS4.out] at hd
            injection hd with hd1 hd2 hd3
            subst hd1 hd2 hd3
            have HC1 := Aside0.mk (HC1.out.step hB_ (Y := (fun k => k = g9 ∨ k = g10)) (fun k hk => Or.inl hk))
            have HB9 := Aside0.mk (blk_below HB9.out hB_)
            have HB10 := Aside0.mk (blk_below HB10.out hB_)
            clear hC12 hl12
            refine ⟨_, rfl, ?_⟩
            refine hK.out _ _ ⟨pw_cell_below hB_ hHeld.1, pw_cell_below hB_ hHeld.2.1, pw_cell_below hB_ hHeld.2.2.1, ⟨below_then hHeld.2.2.2.out hHeld.2.2.2.out.size hB_⟩⟩ (fun hHeld => ?_)
            clear hK K
            refine norm_ (a' := ?_) ?_ ?_
            rotate_left
            · show Act.put _ (some 75) _ = _
              simp only [Act.put, List.setIfInBounds_toArray, List.set_cons_zero, List.set_cons_succ, i64_w, i32_w]
              rfl
            refine norm_ (by kernel_rfl) (hfin ⟨A11, c11, vd, Gd, A12, c12, g9, g10⟩ _ ⟨hHeld.2.2.2, HC1, HL11, HB9, HB10, ⟨⟨HNE.out, HG9.out, HG10.out⟩⟩⟩)
        · refine box_step (by rfl) (N := 10) rfl (cs := #[.int .i64 0, .int .i32 0, .slice none 0 0, .int .i64 0, .int .i64 0]) (t := 32) (by first | (go_simp; done) | (go_simp; rfl)) ?_
          intro g10 hg_ w13 hb_ hB_
          have HNE : Aside0 (g9 ≠ g10) := ⟨fun e_ => by have h1_ := blk_lt HB9.out; omega⟩
          have HB9 := Aside0.mk (blk_below HB9.out hB_)
          have HB10 := Aside0.mk hb_
          have HG10 : Aside0 (w10.heap.size ≤ g10) := ⟨Nat.le_trans hHeld.2.2.2.out.size (Nat.le_of_eq hg_.symm)⟩
          clear hb_ hg_
          refine hK.out _ _ ⟨pw_cell_below hB_ hHeld.1, pw_cell_below hB_ hHeld.2.1, pw_cell_below hB_ hHeld.2.2.1, ⟨below_then hHeld.2.2.2.out hHeld.2.2.2.out.size hB_⟩⟩ (fun hHeld => ?_)
          clear hK K
          refine norm_ (a' := ?_) ?_ ?_
          rotate_left
          · show Act.put _ (some 10) _ = _
            simp only [Act.put, List.setIfInBounds_toArray, List.set_cons_zero, List.set_cons_succ, i64_w, i32_w]
            rfl
          refine one_ (i := 4) (N := some 69) #[true, true, true, true, true, true, true, true, true, true, false, true, true, false, false] rfl rfl (by kernel_rfl) (by decide) (fun K hK => ?_)
          refine goes_ Try.func10 (by kernel_rfl) rfl #[.agg #[.slice AG GS.length cG, .slice (some A) F.length cF], .slice AI inp.length cI, .int .i64 (Gb.st : Int)] (by rfl) rfl rfl (by first | rfl | (simp only [List.map_toArray, List.map_cons, List.map_nil]; done) | (simp only [List.map_toArray, List.map_cons, List.map_nil]; rfl)) ?_
          refine (trace_at (HLW10.out.keep hHeld.2.2.2.out) HO.out inp AI cI (Gb.st : Int) HGG.out HF.out HIT.out HCF.out HCG.out HCI.out HWI.out HL3.out HS1.out).mono ?_
          rintro e_ w11 ⟨ec, vc, Gc, A11, c11, hc, rfl, hl11, hC11, hB_⟩
          rw [HS3.out] at hc
          injection hc with hc1 hc2 hc3
          subst hc1 hc2 hc3
          have HC1 := Aside0.mk (hC11.mono (Y := (fun k => k = g9 ∨ k = g10)) (fun k hk => hk.elim (fun h => h ▸ blk_lt HB9.out) (fun h => h ▸ blk_lt HB10.out)))
          have HL11 := Aside0.mk hl11
          have HB9 := Aside0.mk (blk_below HB9.out hB_)
          have HB10 := Aside0.mk (blk_below HB10.out hB_)
          clear hC11 hl11
          refine ⟨_, rfl, ?_⟩
          refine hK.out _ _ ⟨pw_cell_below hB_ hHeld.1, pw_cell_below hB_ hHeld.2.1, pw_cell_below hB_ hHeld.2.2.1, ⟨below_then hHeld.2.2.2.out hHeld.2.2.2.out.size hB_⟩⟩ (fun hHeld => ?_)
          clear hK K
          refine norm_ (a' := ?_) ?_ ?_
          rotate_left
          · show Act.put _ (some 69) _ = _
            simp only [Act.put, List.setIfInBounds_toArray, List.set_cons_zero, List.set_cons_succ, i64_w, i32_w]
            rfl
          refine one_ (i := 10) (N := some 75) #[true, true, true, true, true, true, true, true, true, true, true, true, true, false, false] rfl rfl (by kernel_rfl) (by decide) (fun K hK => ?_)
          refine goes_ Try.func10 (by kernel_rfl) rfl #[.agg #[.slice AG GS.length cG, .slice (some A) F.length cF], .slice AI inp.length cI, .int .i64 (wrap64 ((Gb.st : Int) - 1))] (by rfl) rfl rfl (by first | rfl | (simp only [List.map_toArray, List.map_cons, List.map_nil]; done) | (simp only [List.map_toArray, List.map_cons, List.map_nil]; rfl)) ?_
          refine (trace_at (HLW10.out.keep hHeld.2.2.2.out) HO.out inp AI cI (wrap64 ((Gb.st : Int) - 1)) HGG.out HF.out HIT.out HCF.out HCG.out HCI.out HWI.out HL3.out HS2.out).mono ?_
          rintro e_ w12 ⟨ed, vd_, Gd_, A12, c12, hd, rfl, hl12, hC12, hB_⟩
          rw [HW1.out, HS4.out] at hd
          injection hd with hd1 hd2 hd3
          subst hd1 hd2 hd3
          have HC1 := Aside0.mk (HC1.out.step hB_ (Y := (fun k => k = g9 ∨ k = g10)) (fun k hk => Or.inl hk))
          have HB9 := Aside0.mk (blk_below HB9.out hB_)
          have HB10 := Aside0.mk (blk_below HB10.out hB_)
          clear hC12 hl12
          refine ⟨_, rfl, ?_⟩
          refine hK.out _ _ ⟨pw_cell_below hB_ hHeld.1, pw_cell_below hB_ hHeld.2.1, pw_cell_below hB_ hHeld.2.2.1, ⟨below_then hHeld.2.2.2.out hHeld.2.2.2.out.size hB_⟩⟩ (fun hHeld => ?_)
          clear hK K
          refine norm_ (a' := ?_) ?_ ?_
          rotate_left
          · show Act.put _ (some 75) _ = _
            simp only [Act.put, List.setIfInBounds_toArray, List.set_cons_zero, List.set_cons_succ, i64_w, i32_w]
            rfl
          refine norm_ (by kernel_rfl) (hfin ⟨A11, c11, vd, Gd, A12, c12, g9, g10⟩ _ ⟨hHeld.2.2.2, HC1, HL11, HB9, HB10, ⟨⟨HNE.out, HG9.out, HG10.out⟩⟩⟩)
      · refine box_step (by rfl) (N := 10) rfl (cs := #[.int .i64 0, .int .i32 0, .slice none 0 0, .int .i64 0, .int .i64 0]) (t := 32) (by first | (go_simp; done) | (go_simp; rfl)) ?_
        intro g10 hg_ w13 hb_ hB_
        have HB10 := Aside0.mk hb_
        have HG10 : Aside0 (w10.heap.size ≤ g10) := ⟨Nat.le_trans hHeld.2.2.2.out.size (Nat.le_of_eq hg_.symm)⟩
        clear hb_ hg_
        refine hK.out _ _ ⟨pw_cell_below hB_ hHeld.1, pw_cell_below hB_ hHeld.2.1, pw_cell_below hB_ hHeld.2.2.1, ⟨below_then hHeld.2.2.2.out hHeld.2.2.2.out.size hB_⟩⟩ (fun hHeld => ?_)
        clear hK K
        refine norm_ (a' := ?_) ?_ ?_
        rotate_left
        · show Act.put _ (some 10) _ = _
          simp only [Act.put, List.setIfInBounds_toArray, List.set_cons_zero, List.set_cons_succ, i64_w, i32_w]
          rfl
        refine two_ (i := 4) (j := 11) (Ni := some 69) (Nj := some 9) #[true, true, true, true, true, true, true, true, true, true, false, false, true, false, false] #[true, true, true, true, false, true, true, true, true, true, false, true, true, false, false] rfl rfl rfl rfl (by kernel_rfl) (by decide) (by decide) (fun K hK => ?_) (fun K hK => ?_)
        · refine goes_ Try.func10 (by kernel_rfl) rfl #[.agg #[.slice AG GS.length cG, .slice (some A) F.length cF], .slice AI inp.length cI, .int .i64 (Gb.st : Int)] (by rfl) rfl rfl (by first | rfl | (simp only [List.map_toArray, List.map_cons, List.map_nil]; done) | (simp only [List.map_toArray, List.map_cons, List.map_nil]; rfl)) ?_
          refine (trace_at (HLW10.out.keep hHeld.2.2.2.out) HO.out inp AI cI (Gb.st : Int) HGG.out HF.out HIT.out HCF.out HCG.out HCI.out HWI.out HL3.out HS1.out).mono ?_
          rintro e_ w11 ⟨ec, vc, Gc, A11, c11, hc, rfl, hl11, hC11, hB_⟩
          rw [HS3.out] at hc
          injection hc with hc1 hc2 hc3
          subst hc1 hc2 hc3
          have HC1 := Aside0.mk (hC11.mono (Y := (fun k => k = g10)) (fun k hk => hk ▸ blk_lt HB10.out))
          have HL11 := Aside0.mk hl11
          have HB10 := Aside0.mk (blk_below HB10.out hB_)
          clear hC11 hl11
          refine ⟨_, rfl, ?_⟩
          refine hK.out _ _ ⟨pw_cell_below hB_ hHeld.1, pw_cell_below hB_ hHeld.2.1, pw_cell_below hB_ hHeld.2.2.1, ⟨below_then hHeld.2.2.2.out hHeld.2.2.2.out.size hB_⟩⟩ (fun hHeld => ?_)
          clear hK K
          refine norm_ (a' := ?_) ?_ ?_
          rotate_left
          · show Act.put _ (some 69) _ = _
            simp only [Act.put, List.setIfInBounds_toArray, List.set_cons_zero, List.set_cons_succ, i64_w, i32_w]
            rfl
          refine two_ (i := 10) (j := 11) (Ni := some 75) (Nj := some 9) #[true, true, true, true, true, true, true, true, true, true, true, false, true, false, false] #[true, true, true, true, true, true, true, true, true, true, false, true, true, false, false] rfl rfl rfl rfl (by kernel_rfl) (by decide) (by decide) (fun K hK => ?_) (fun K hK => ?_)
          · refine goes_ Try.func10 (by kernel_rfl) rfl #[.agg #[.slice AG GS.length cG, .slice (some A) F.length cF], .slice AI inp.length cI, .int .i64 (wrap64 ((Gb.st : Int) - 1))] (by rfl) rfl rfl (by first | rfl | (simp only [List.map_toArray, List.map_cons, List.map_nil]; done) | (simp only [List.map_toArray, List.map_cons, List.map_nil]; rfl)) ?_
            refine (trace_at (HLW10.out.keep hHeld.2.2.2.out) HO.out inp AI cI (wrap64 ((Gb.st : Int) - 1)) HGG.out HF.out HIT.out HCF.out HCG.out HCI.out HWI.out HL3.out HS2.out).mono ?_
            rintro e_ w12 ⟨ed, vd_, Gd_, A12, c12, hd, rfl, hl12, hC12, hB_⟩
            rw [HW1.out, HS4.out] at hd
            injection hd with hd1 hd2 hd3
            subst hd1 hd2 hd3
            have HC1 := Aside0.mk (HC1.out.step hB_ (Y := (fun k => k = g10)) (fun k hk => Or.inl hk))
            have HB10 := Aside0.mk (blk_below HB10.out hB_)
            clear hC12 hl12
            refine ⟨_, rfl, ?_⟩
            refine hK.out _ _ ⟨pw_cell_below hB_ hHeld.1, pw_cell_below hB_ hHeld.2.1, pw_cell_below hB_ hHeld.2.2.1, ⟨below_then hHeld.2.2.2.out hHeld.2.2.2.out.size hB_⟩⟩ (fun hHeld => ?_)
            clear hK K
            refine norm_ (a' := ?_) ?_ ?_
            rotate_left
            · show Act.put _ (some 75) _ = _
              simp only [Act.put, List.setIfInBounds_toArray, List.set_cons_zero, List.set_cons_succ, i64_w, i32_w]
              rfl
            refine one_ (i := 11) (N := some 9) #[true, true, true, true, true, true, true, true, true, true, true, true, true, false, false] rfl rfl (by kernel_rfl) (by decide) (fun K hK => ?_)
            refine box_step (by rfl) (N := 9) rfl (cs := #[.int .i64 0, .int .i32 0, .slice none 0 0, .int .i64 0, .int .i64 0]) (t := 32) (by first | (go_simp; done) | (go_simp; rfl)) ?_
            intro g9 hg_ w13 hb_ hB_
            have HC1 := Aside0.mk (HC1.out.step hB_ (Y := fun k => k = g9 ∨ k = g10) (fun k hk => hk.elim (fun h => .inr (Nat.le_of_eq (h.trans hg_).symm)) (fun h => .inl h)))
            have HNE : Aside0 (g9 ≠ g10) := ⟨fun e_ => by have h1_ := blk_lt HB10.out; omega⟩
            have HB10 := Aside0.mk (blk_below HB10.out hB_)
            have HB9 := Aside0.mk hb_
            have HG9 : Aside0 (w10.heap.size ≤ g9) := ⟨Nat.le_trans hHeld.2.2.2.out.size (Nat.le_of_eq hg_.symm)⟩
            clear hb_ hg_
            refine hK.out _ _ ⟨pw_cell_below hB_ hHeld.1, pw_cell_below hB_ hHeld.2.1, pw_cell_below hB_ hHeld.2.2.1, ⟨below_then hHeld.2.2.2.out hHeld.2.2.2.out.size hB_⟩⟩ (fun hHeld => ?_)
            clear hK K
            refine norm_ (a' := ?_) ?_ ?_
            rotate_left
            · show Act.put _ (some 9) _ = _
              simp only [Act.put, List.setIfInBounds_toArray, List.set_cons_zero, List.set_cons_succ, i64_w, i32_w]
              rfl
            refine norm_ (by kernel_rfl) (hfin ⟨A11, c11, vd, Gd, A12, c12, g9, g10⟩ _ ⟨hHeld.2.2.2, HC1, HL11, HB9, HB10, ⟨⟨HNE.out, HG9.out, HG10.out⟩⟩⟩)
          · refine box_step (by rfl) (N := 9) rfl (cs := #[.int .i64 0, .int .i32 0, .slice none 0 0, .int .i64 0, .int .i64 0]) (t := 32) (by first | (go_simp; done) | (go_simp; rfl)) ?_
            intro g9 hg_ w13 hb_ hB_
            have HC1 := Aside0.mk (HC1.out.step hB_ (Y := fun k => k = g9 ∨ k = g10) (fun k hk => hk.elim (fun h => .inr (Nat.le_of_eq (h.trans hg_).symm)) (fun h => .inl h)))
            have HNE : Aside0 (g9 ≠ g10) := ⟨fun e_ => by have h1_ := blk_lt HB10.out; omega⟩
            have HB10 := Aside0.mk (blk_below HB10.out hB_)
            have HB9 := Aside0.mk hb_
            have HG9 : Aside0 (w10.heap.size ≤ g9) := ⟨Nat.le_trans hHeld.2.2.2.out.size (Nat.le_of_eq hg_.symm)⟩
            clear hb_ hg_
            refine hK.out _ _ ⟨pw_cell_below hB_ hHeld.1, pw_cell_below hB_ hHeld.2.1, pw_cell_below hB_ hHeld.2.2.1, ⟨below_then hHeld.2.2.2.out hHeld.2.2.2.out.size hB_⟩⟩ (fun hHeld => ?_)
            clear hK K
            refine norm_ (a' := ?_) ?_ ?_
            rotate_left
            · show Act.put _ (some 9) _ = _
              simp only [Act.put, List.setIfInBounds_toArray, List.set_cons_zero, List.set_cons_succ, i64_w, i32_w]
              rfl
            refine one_ (i := 10) (N := some 75) #[true, true, true, true, true, true, true, true, true, true, true, true, true, false, false] rfl rfl (by kernel_rfl) (by decide) (fun K hK => ?_)
            refine goes_ Try.func10 (by kernel_rfl) rfl #[.agg #[.slice AG GS.length cG, .slice (some A) F.length cF], .slice AI inp.length cI, .int .i64 (wrap64 ((Gb.st : Int) - 1))] (by rfl) rfl rfl (by first | rfl | (simp only [List.map_toArray, List.map_cons, List.map_nil]; done) | (simp only [List.map_toArray, List.map_cons, List.map_nil]; rfl)) ?_
            refine (trace_at (HLW10.out.keep hHeld.2.2.2.out) HO.out inp AI cI (wrap64 ((Gb.st : Int) - 1)) HGG.out HF.out HIT.out HCF.out HCG.out HCI.out HWI.out HL3.out HS2.out).mono ?_
            rintro e_ w12 ⟨ed, vd_, Gd_, A12, c12, hd, rfl, hl12, hC12, hB_⟩
            rw [HW1.out, HS4.out] at hd
            injection hd with hd1 hd2 hd3
            subst hd1 hd2 hd3
            have HC1 := Aside0.mk (HC1.out.step hB_ (Y := (fun k => k = g9 ∨ k = g10)) (fun k hk => Or.inl hk))
            have HB9 := Aside0.mk (blk_below HB9.out hB_)
            have HB10 := Aside0.mk (blk_below HB10.out hB_)
            clear hC12 hl12
            refine ⟨_, rfl, ?_⟩
            refine hK.out _ _ ⟨pw_cell_below hB_ hHeld.1, pw_cell_below hB_ hHeld.2.1, pw_cell_below hB_ hHeld.2.2.1, ⟨below_then hHeld.2.2.2.out hHeld.2.2.2.out.size hB_⟩⟩ (fun hHeld => ?_)
            clear hK K
            refine norm_ (a' := ?_) ?_ ?_
            rotate_left
            · show Act.put _ (some 75) _ = _
              simp only [Act.put, List.setIfInBounds_toArray, List.set_cons_zero, List.set_cons_succ, i64_w, i32_w]
              rfl
            refine norm_ (by kernel_rfl) (hfin ⟨A11, c11, vd, Gd, A12, c12, g9, g10⟩ _ ⟨hHeld.2.2.2, HC1, HL11, HB9, HB10, ⟨⟨HNE.out, HG9.out, HG10.out⟩⟩⟩)
        · refine box_step (by rfl) (N := 9) rfl (cs := #[.int .i64 0, .int .i32 0, .slice none 0 0, .int .i64 0, .int .i64 0]) (t := 32) (by first | (go_simp; done) | (go_simp; rfl)) ?_
          intro g9 hg_ w13 hb_ hB_
          have HNE : Aside0 (g9 ≠ g10) := ⟨fun e_ => by have h1_ := blk_lt HB10.out; omega⟩
          have HB10 := Aside0.mk (blk_below HB10.out hB_)
          have HB9 := Aside0.mk hb_
          have HG9 : Aside0 (w10.heap.size ≤ g9) := ⟨Nat.le_trans hHeld.2.2.2.out.size (Nat.le_of_eq hg_.symm)⟩
          clear hb_ hg_
          refine hK.out _ _ ⟨pw_cell_below hB_ hHeld.1, pw_cell_below hB_ hHeld.2.1, pw_cell_below hB_ hHeld.2.2.1, ⟨below_then hHeld.2.2.2.out hHeld.2.2.2.out.size hB_⟩⟩ (fun hHeld => ?_)
          clear hK K
          refine norm_ (a' := ?_) ?_ ?_
          rotate_left
          · show Act.put _ (some 9) _ = _
            simp only [Act.put, List.setIfInBounds_toArray, List.set_cons_zero, List.set_cons_succ, i64_w, i32_w]
            rfl
          refine one_ (i := 4) (N := some 69) #[true, true, true, true, true, true, true, true, true, true, false, true, true, false, false] rfl rfl (by kernel_rfl) (by decide) (fun K hK => ?_)
          refine goes_ Try.func10 (by kernel_rfl) rfl #[.agg #[.slice AG GS.length cG, .slice (some A) F.length cF], .slice AI inp.length cI, .int .i64 (Gb.st : Int)] (by rfl) rfl rfl (by first | rfl | (simp only [List.map_toArray, List.map_cons, List.map_nil]; done) | (simp only [List.map_toArray, List.map_cons, List.map_nil]; rfl)) ?_
          refine (trace_at (HLW10.out.keep hHeld.2.2.2.out) HO.out inp AI cI (Gb.st : Int) HGG.out HF.out HIT.out HCF.out HCG.out HCI.out HWI.out HL3.out HS1.out).mono ?_
          rintro e_ w11 ⟨ec, vc, Gc, A11, c11, hc, rfl, hl11, hC11, hB_⟩
          rw [HS3.out] at hc
          injection hc with hc1 hc2 hc3
          subst hc1 hc2 hc3
          have HC1 := Aside0.mk (hC11.mono (Y := (fun k => k = g9 ∨ k = g10)) (fun k hk => hk.elim (fun h => h ▸ blk_lt HB9.out) (fun h => h ▸ blk_lt HB10.out)))
          have HL11 := Aside0.mk hl11
          have HB9 := Aside0.mk (blk_below HB9.out hB_)
          have HB10 := Aside0.mk (blk_below HB10.out hB_)
          clear hC11 hl11
          refine ⟨_, rfl, ?_⟩
          refine hK.out _ _ ⟨pw_cell_below hB_ hHeld.1, pw_cell_below hB_ hHeld.2.1, pw_cell_below hB_ hHeld.2.2.1, ⟨below_then hHeld.2.2.2.out hHeld.2.2.2.out.size hB_⟩⟩ (fun hHeld => ?_)
          clear hK K
          refine norm_ (a' := ?_) ?_ ?_
          rotate_left
          · show Act.put _ (some 69) _ = _
            simp only [Act.put, List.setIfInBounds_toArray, List.set_cons_zero, List.set_cons_succ, i64_w, i32_w]
            rfl
          refine one_ (i := 10) (N := some 75) #[true, true, true, true, true, true, true, true, true, true, true, true, true, false, false] rfl rfl (by kernel_rfl) (by decide) (fun K hK => ?_)
          refine goes_ Try.func10 (by kernel_rfl) rfl #[.agg #[.slice AG GS.length cG, .slice (some A) F.length cF], .slice AI inp.length cI, .int .i64 (wrap64 ((Gb.st : Int) - 1))] (by rfl) rfl rfl (by first | rfl | (simp only [List.map_toArray, List.map_cons, List.map_nil]; done) | (simp only [List.map_toArray, List.map_cons, List.map_nil]; rfl)) ?_
          refine (trace_at (HLW10.out.keep hHeld.2.2.2.out) HO.out inp AI cI (wrap64 ((Gb.st : Int) - 1)) HGG.out HF.out HIT.out HCF.out HCG.out HCI.out HWI.out HL3.out HS2.out).mono ?_
          rintro e_ w12 ⟨ed, vd_, Gd_, A12, c12, hd, rfl, hl12, hC12, hB_⟩
          rw [HW1.out, HS4.out] at hd
          injection hd with hd1 hd2 hd3
          subst hd1 hd2 hd3
          have HC1 := Aside0.mk (HC1.out.step hB_ (Y := (fun k => k = g9 ∨ k = g10)) (fun k hk => Or.inl hk))
          have HB9 := Aside0.mk (blk_below HB9.out hB_)
          have HB10 := Aside0.mk (blk_below HB10.out hB_)
          clear hC12 hl12
          refine ⟨_, rfl, ?_⟩
          refine hK.out _ _ ⟨pw_cell_below hB_ hHeld.1, pw_cell_below hB_ hHeld.2.1, pw_cell_below hB_ hHeld.2.2.1, ⟨below_then hHeld.2.2.2.out hHeld.2.2.2.out.size hB_⟩⟩ (fun hHeld => ?_)
          clear hK K
          refine norm_ (a' := ?_) ?_ ?_
          rotate_left
          · show Act.put _ (some 75) _ = _
            simp only [Act.put, List.setIfInBounds_toArray, List.set_cons_zero, List.set_cons_succ, i64_w, i32_w]
            rfl
          refine norm_ (by kernel_rfl) (hfin ⟨A11, c11, vd, Gd, A12, c12, g9, g10⟩ _ ⟨hHeld.2.2.2, HC1, HL11, HB9, HB10, ⟨⟨HNE.out, HG9.out, HG10.out⟩⟩⟩)
      intro s w14 ⟨HZ14, HC1, HL11, HB9, HB10, HNE⟩
      refine norm_ (a' := ?_) ?_ ?_
      rotate_left
      · simp only [putAll, List.foldl, Act.put, List.setIfInBounds_toArray, List.set_cons_zero, List.set_cons_succ, i64_w, i32_w]
        rfl
      refine last_ (i := 13) (N := none) #[true, true, true, true, true, true, true, true, true, true, true, true, true, true, false] rfl rfl (by kernel_rfl) (by decide) (fun K hK => ?_)
      rw [if_pos (by rfl)]
      refine put_step_ 32 (.tmp 9) (.tmp 69) rfl s.g1 (by rfl) 32 #[.int .i64 0, .int .i32 0, .slice none 0 0, .int .i64 0, .int .i64 0] #[.int .i64 eb, .int .i32 vb, .slice s.A1 Gb.tr.length s.c1, .int .i64 (Gb.st : Int), .int .i64 (Gb.rd : Int)] (by rfl) HB9.out I32.out (by rfl) (by simp [Value.oneCell']) ?_
      intro w15 hr_ hB_ ho_
      have HR9 := Aside0.mk hr_
      have HR10 := Aside0.mk ((ho_ s.g2 (Ne.symm HNE.out.1)).trans HB10.out)
      have HO9 := Aside0.mk ho_
      have HZ15 := Aside0.mk (HZ14.out.trans (hB_ _ HNE.out.2.1))
      clear hr_ hB_ ho_
      refine hK.out _ _ ?_
      clear hK K
      refine last_ (i := 14) (N := none) #[true, true, true, true, true, true, true, true, true, true, true, true, true, true, true] rfl rfl (by kernel_rfl) (by decide) (fun K hK => ?_)
      rw [if_pos (by rfl)]
      refine put_step_ 32 (.tmp 10) (.tmp 75) rfl s.g2 (by rfl) 32 #[.int .i64 0, .int .i32 0, .slice none 0 0, .int .i64 0, .int .i64 0] #[.int .i64 5, .int .i32 s.v2, .slice s.A2 s.G2.tr.length s.c2, .int .i64 (s.G2.st : Int), .int .i64 (s.G2.rd : Int)] (by rfl) HR10.out I32.out (by rfl) (by simp [Value.oneCell']) ?_
      intro w16 hr_ hB_ ho_
      have HR10_ := Aside0.mk hr_
      have HR9_ := Aside0.mk ((ho_ s.g1 HNE.out.1).trans HR9.out)
      have HCF := Aside0.mk (HC1.out _ (fun k _ hn => (ho_ k (fun e => hn (.inr e))).trans (HO9.out k (fun e => hn (.inl e)))))
      have HZ16 := Aside0.mk (HZ15.out.trans (hB_ _ HNE.out.2.2))
      clear hr_ hB_ ho_
      refine hK.out _ _ ?_
      clear hK K
      refine done_ (by kernel_rfl) ?_
      have HXB16 := Aside0.mk (blk_below HXB10.out HZ16.out)
      have HBL16 := Aside0.mk (below_step HLW10.out.below HZ16.out)
      have c0 : w16.cell? ⟨s.g1, 0, none⟩ = some (.int .i64 eb) := (blk_cell HR9_.out 0).trans rfl
      have c1 : w16.cell? ⟨s.g1, 1, none⟩ = some (.int .i32 vb) := (blk_cell HR9_.out 1).trans rfl
      have c2 : w16.cell? ⟨s.g1, 2, none⟩ = some (.slice s.A1 Gb.tr.length s.c1) := (blk_cell HR9_.out 2).trans rfl
      have c3 : w16.cell? ⟨s.g1, 3, none⟩ = some (.int .i64 (Gb.st : Int)) := (blk_cell HR9_.out 3).trans rfl
      have c4 : w16.cell? ⟨s.g1, 4, none⟩ = some (.int .i64 (Gb.rd : Int)) := (blk_cell HR9_.out 4).trans rfl
      have d0 : w16.cell? ⟨s.g2, 0, none⟩ = some (.int .i64 5) := (blk_cell HR10_.out 0).trans rfl
      have d1 : w16.cell? ⟨s.g2, 1, none⟩ = some (.int .i32 s.v2) := (blk_cell HR10_.out 1).trans rfl
      have d2 : w16.cell? ⟨s.g2, 2, none⟩ = some (.slice s.A2 s.G2.tr.length s.c2) := (blk_cell HR10_.out 2).trans rfl
      have d3 : w16.cell? ⟨s.g2, 3, none⟩ = some (.int .i64 (s.G2.st : Int)) := (blk_cell HR10_.out 3).trans rfl
      have d4 : w16.cell? ⟨s.g2, 4, none⟩ = some (.int .i64 (s.G2.rd : Int)) := (blk_cell HR10_.out 4).trans rfl
      have y0 : w16.cell? ⟨gy, 0, none⟩ = some (.int .i64 eb) := (blk_cell HXB16.out 0).trans rfl
      have y1 : w16.cell? ⟨gy, 1, none⟩ = some (.int .i32 vb) := (blk_cell HXB16.out 1).trans rfl
      have y2 : w16.cell? ⟨gy, 2, none⟩ = some (.slice A8 Gb.tr.length c8) := (blk_cell HXB16.out 2).trans rfl
      have y3 : w16.cell? ⟨gy, 3, none⟩ = some (.int .i64 (Gb.st : Int)) := (blk_cell HXB16.out 3).trans rfl
      have y4 : w16.cell? ⟨gy, 4, none⟩ = some (.int .i64 (Gb.rd : Int)) := (blk_cell HXB16.out 4).trans rfl
      go_wp2_with (first
        | (go_at_call 12; (with_reducible refine (same_calls eb vb s.A1 s.c1 Gb.tr (Gb.st : Int) (Gb.rd : Int) eb vb A8 c8 Gb.tr (Gb.st : Int) (Gb.rd : Int) w16 HCF.out HL11.out (Kd.C_below HCB10.out HZ16.out) HLB.out HTR.out).mono ?_)
           rw [decide_eq_true (show eb = eb ∧ vb = vb ∧ (Gb.rd : Int) = (Gb.rd : Int) ∧ Gb.tr = Gb.tr from ⟨rfl, rfl, rfl, rfl⟩)]
           rintro e w17 ⟨rfl, hB17⟩
           have HBL17 := Aside0.mk (below_step HBL16.out hB17)
           have HR17 := Aside0.mk (blk_below HR10_.out hB17)
           have d0 : w17.cell? ⟨s.g2, 0, none⟩ = some (.int .i64 5) := (blk_cell HR17.out 0).trans rfl
           have d1 : w17.cell? ⟨s.g2, 1, none⟩ = some (.int .i32 s.v2) := (blk_cell HR17.out 1).trans rfl
           have d2 : w17.cell? ⟨s.g2, 2, none⟩ = some (.slice s.A2 s.G2.tr.length s.c2) := (blk_cell HR17.out 2).trans rfl
           have d3 : w17.cell? ⟨s.g2, 3, none⟩ = some (.int .i64 (s.G2.st : Int)) := (blk_cell HR17.out 3).trans rfl
           have d4 : w17.cell? ⟨s.g2, 4, none⟩ = some (.int .i64 (s.G2.rd : Int)) := (blk_cell HR17.out 4).trans rfl
           clear hB17)
        | (go_at_call 8; (with_reducible refine (lives_calls _).mono ?_)
           rintro e w18 ⟨rfl, hB18⟩
           have HBL18 := Aside0.mk (below_step HBL17.out hB18)
           clear hB18)
        | fail)
      go_ret
      exact ⟨rfl, HBL18.out⟩
  · have hd5 : decide (ea = 5) = false := decide_eq_false h5
    have hd6 : decide ((Ga.st : Int) > (f : Int)) = false := decide_eq_false (by omega)
    have hd7 : decide ((f : Int) < (Ga.st : Int)) = false := decide_eq_false (by omega)
    go_wp2_with (first
      | (go_at_call 13; (with_reducible refine (begins_calls ea va A8 c8 Ga.tr (Ga.st : Int) (Ga.rd : Int) ea va A6 c6 Ga.tr (Ga.st : Int) (Ga.rd : Int) w9 HCB9.out HLB.out HCA9.out HLA.out HTR.out).mono ?_)
         rw [if_neg (of_decide_eq_false hd5), decide_eq_true (show ea = ea ∧ va = va ∧ (Ga.rd : Int) = (Ga.rd : Int) ∧ Ga.tr = Ga.tr from ⟨rfl, rfl, rfl, rfl⟩)]
         rintro e w10 ⟨rfl, hB10⟩
         have HLW10 := Aside0.mk (HLW9.out.keep hB10)
         have HXA10 := Aside0.mk (blk_below HXA9.out hB10)
         have HXB10 := Aside0.mk (blk_below HXB.out hB10)
         have HCA10 := Aside0.mk (Kd.C_below HCA9.out hB10)
         have HCB10 := Aside0.mk (Kd.C_below HCB9.out hB10)
         have HBL := Aside0.mk HLW10.out.below
         have m0 := HLW10.out.c0
         have m1 := HLW10.out.c1
         have x0 : w10.cell? ⟨gx, 0, none⟩ = some (.int .i64 ea) := (blk_cell HXA10.out 0).trans rfl
         have x1 : w10.cell? ⟨gx, 1, none⟩ = some (.int .i32 va) := (blk_cell HXA10.out 1).trans rfl
         have x2 : w10.cell? ⟨gx, 2, none⟩ = some (.slice A6 Ga.tr.length c6) := (blk_cell HXA10.out 2).trans rfl
         have x3 : w10.cell? ⟨gx, 3, none⟩ = some (.int .i64 (Ga.st : Int)) := (blk_cell HXA10.out 3).trans rfl
         have x4 : w10.cell? ⟨gx, 4, none⟩ = some (.int .i64 (Ga.rd : Int)) := (blk_cell HXA10.out 4).trans rfl
         have y0 : w10.cell? ⟨gy, 0, none⟩ = some (.int .i64 ea) := (blk_cell HXB10.out 0).trans rfl
         have y1 : w10.cell? ⟨gy, 1, none⟩ = some (.int .i32 va) := (blk_cell HXB10.out 1).trans rfl
         have y2 : w10.cell? ⟨gy, 2, none⟩ = some (.slice A8 Ga.tr.length c8) := (blk_cell HXB10.out 2).trans rfl
         have y3 : w10.cell? ⟨gy, 3, none⟩ = some (.int .i64 (Ga.st : Int)) := (blk_cell HXB10.out 3).trans rfl
         have y4 : w10.cell? ⟨gy, 4, none⟩ = some (.int .i64 (Ga.rd : Int)) := (blk_cell HXB10.out 4).trans rfl
         clear hB10)
      | fail)
    obtain ⟨hs1, hs2, hs3, vd, Gd, hs4⟩ := HR.out h5
    have HS1 : Aside0 ((Ga.st : Int) ≤ 10000) := ⟨by omega⟩
    have hw1 : wrap64 ((Ga.st : Int) - 1) = (Ga.st : Int) - 1 := w64 (by omega) (by omega)
    have HS2 : Aside0 (wrap64 ((Ga.st : Int) - 1) ≤ 10000) := ⟨by rw [hw1]; omega⟩
    have HW1 := Aside0.mk hw1
    have HS3 := Aside0.mk hs3
    have HS4 := Aside0.mk hs4
    clear hs1 hs2 hs3 hs4 hw1
    refine start_ (n := 15) (S := fun w_ => w_.cell? ⟨w.heap.size, 0, none⟩ = some (.slice AG GS.length cG) ∧ w_.cell? ⟨w.heap.size, 1, none⟩ = some (.slice (some A) F.length cF) ∧ w_.cell? ⟨gy, 3, none⟩ = some (.int .i64 (Ga.st : Int)) ∧ Aside0 (Below w10.heap.size w10 w_)) (ds := [13, 14]) #[false, false, false, false, false, false, false, false, false, false, false, false, false, false, false] (by kernel_rfl) rfl rfl ⟨m0, m1, y3, ⟨below_drew (Below.refl _ _)⟩⟩ (fun hHeld => ?_)
    refine take_ (i := 0) (N := some 65) (v := ?_) (a' := ?_) #[true, false, false, false, false, false, false, false, false, false, false, false, false, false, false] rfl rfl (by kernel_rfl) (fun _ _ _ h => h) (Or.inl ⟨by rfl, ?_⟩) hHeld ?_ ?_
    rotate_left
    · rintro w' ⟨h0_, h1_, h2_, h3_⟩
      go_simp
      with_reducible rfl
    rotate_left
    · simp only [Act.put, List.setIfInBounds_toArray, List.set_cons_zero, List.set_cons_succ, i64_w, i32_w]
      rfl
    refine pure_ (i := 1) (N := some 66) (v := ?_) (a' := ?_) #[true, true, false, false, false, false, false, false, false, false, false, false, false, false, false] rfl rfl (by kernel_rfl) (fun _ _ _ h => h) (Or.inl ⟨by rfl, ?_⟩) ?_ ?_
    rotate_left
    · intro w'
      go_simp
      with_reducible rfl
    rotate_left
    · simp only [Act.put, List.setIfInBounds_toArray, List.set_cons_zero, List.set_cons_succ, i64_w, i32_w]
      rfl
    refine pure_ (i := 2) (N := some 67) (v := ?_) (a' := ?_) #[true, true, true, false, false, false, false, false, false, false, false, false, false, false, false] rfl rfl (by kernel_rfl) (fun _ _ _ h => h) (Or.inl ⟨by rfl, ?_⟩) ?_ ?_
    rotate_left
    · intro w'
      go_simp
      with_reducible rfl
    rotate_left
    · simp only [Act.put, List.setIfInBounds_toArray, List.set_cons_zero, List.set_cons_succ, i64_w, i32_w]
      rfl
    refine take_ (i := 3) (N := some 68) (v := ?_) (a' := ?_) #[true, true, true, true, false, false, false, false, false, false, false, false, false, false, false] rfl rfl (by kernel_rfl) (fun _ _ _ h => h) (Or.inl ⟨by rfl, ?_⟩) hHeld ?_ ?_
    rotate_left
    · rintro w' ⟨h0_, h1_, h2_, h3_⟩
      go_simp
      with_reducible rfl
    rotate_left
    · simp only [Act.put, List.setIfInBounds_toArray, List.set_cons_zero, List.set_cons_succ, i64_w, i32_w]
      rfl
    refine take_ (i := 5) (N := some 70) (v := ?_) (a' := ?_) #[true, true, true, true, false, true, false, false, false, false, false, false, false, false, false] rfl rfl (by kernel_rfl) (fun _ _ _ h => h) (Or.inl ⟨by rfl, ?_⟩) hHeld ?_ ?_
    rotate_left
    · rintro w' ⟨h0_, h1_, h2_, h3_⟩
      go_simp
      with_reducible rfl
    rotate_left
    · simp only [Act.put, List.setIfInBounds_toArray, List.set_cons_zero, List.set_cons_succ, i64_w, i32_w]
      rfl
    refine pure_ (i := 6) (N := some 71) (v := ?_) (a' := ?_) #[true, true, true, true, false, true, true, false, false, false, false, false, false, false, false] rfl rfl (by kernel_rfl) (fun _ _ _ h => h) (Or.inl ⟨by rfl, ?_⟩) ?_ ?_
    rotate_left
    · intro w'
      go_simp
      with_reducible rfl
    rotate_left
    · simp only [Act.put, List.setIfInBounds_toArray, List.set_cons_zero, List.set_cons_succ, i64_w, i32_w]
      rfl
    refine pure_ (i := 7) (N := some 72) (v := ?_) (a' := ?_) #[true, true, true, true, false, true, true, true, false, false, false, false, false, false, false] rfl rfl (by kernel_rfl) (fun _ _ _ h => h) (Or.inl ⟨by rfl, ?_⟩) ?_ ?_
    rotate_left
    · intro w'
      go_simp
      with_reducible rfl
    rotate_left
    · simp only [Act.put, List.setIfInBounds_toArray, List.set_cons_zero, List.set_cons_succ, i64_w, i32_w]
      rfl
    refine take_ (i := 8) (N := some 73) (v := ?_) (a' := ?_) #[true, true, true, true, false, true, true, true, true, false, false, false, false, false, false] rfl rfl (by kernel_rfl) (fun _ _ _ h => h) (Or.inl ⟨by rfl, ?_⟩) hHeld ?_ ?_
    rotate_left
    · rintro w' ⟨h0_, h1_, h2_, h3_⟩
      go_simp
      with_reducible rfl
    rotate_left
    · simp only [Act.put, List.setIfInBounds_toArray, List.set_cons_zero, List.set_cons_succ, i64_w, i32_w]
      rfl
    refine pure_ (i := 9) (N := some 74) (v := ?_) (a' := ?_) #[true, true, true, true, false, true, true, true, true, true, false, false, false, false, false] rfl rfl (by kernel_rfl) (fun _ _ _ h => h) (Or.inl ⟨by rfl, ?_⟩) ?_ ?_
    rotate_left
    · intro w'
      go_simp
      with_reducible rfl
    rotate_left
    · simp only [Act.put, List.setIfInBounds_toArray, List.set_cons_zero, List.set_cons_succ, i64_w, i32_w]
      rfl
    refine join_ (σ := Two) 2 #[true, true, true, true, true, true, true, true, true, true, true, true, true, false, false] (fun s => [(69, .agg #[.int .i64 ea, .int .i32 va, .slice s.A1 Ga.tr.length s.c1, .int .i64 (Ga.st : Int), .int .i64 (Ga.rd : Int)]), (75, .agg #[.int .i64 5, .int .i32 s.v2, .slice s.A2 s.G2.tr.length s.c2, .int .i64 (s.G2.st : Int), .int .i64 (s.G2.rd : Int)]), (9, .pointer (some ⟨s.g1, 0, none⟩)), (10, .pointer (some ⟨s.g2, 0, none⟩))]) (fun s w_ => Aside0 (Below w10.heap.size w10 w_) ∧ Aside0 (Keeps (fun k => k = s.g1 ∨ k = s.g2) w_ s.A1 Ga.tr) ∧ Aside0 (Ga.tr.length ≤ s.c1) ∧ Aside0 (w_.heap[s.g1]? = some (.cells #[.int .i64 0, .int .i32 0, .slice none 0 0, .int .i64 0, .int .i64 0] 32 (0, 0))) ∧ Aside0 (w_.heap[s.g2]? = some (.cells #[.int .i64 0, .int .i32 0, .slice none 0 0, .int .i64 0, .int .i64 0] 32 (0, 0))) ∧ Aside0 (s.g1 ≠ s.g2 ∧ w10.heap.size ≤ s.g1 ∧ w10.heap.size ≤ s.g2)) ?_ (fun hfin => ?_)
    rotate_left
    refine three_ (i := 4) (j := 11) (k := 12) (Ni := some 69) (Nj := some 9) (Nk := some 10) #[true, true, true, true, true, true, true, true, true, true, false, false, false, false, false] #[true, true, true, true, false, true, true, true, true, true, false, true, false, false, false] #[true, true, true, true, false, true, true, true, true, true, false, false, true, false, false] rfl rfl rfl rfl rfl rfl (by kernel_rfl) (by decide) (by decide) (by decide) (fun K hK => ?_) (fun K hK => ?_) (fun K hK => ?_)
    · refine goes_ Try.func10 (by kernel_rfl) rfl #[.agg #[.slice AG GS.length cG, .slice (some A) F.length cF], .slice AI inp.length cI, .int .i64 (Ga.st : Int)] (by rfl) rfl rfl (by first | rfl | (simp only [List.map_toArray, List.map_cons, List.map_nil]; done) | (simp only [List.map_toArray, List.map_cons, List.map_nil]; rfl)) ?_
      refine (trace_at (HLW10.out.keep hHeld.2.2.2.out) HO.out inp AI cI (Ga.st : Int) HGG.out HF.out HIT.out HCF.out HCG.out HCI.out HWI.out HL3.out HS1.out).mono ?_
      rintro e_ w11 ⟨ec, vc, Gc, A11, c11, hc, rfl, hl11, hC11, hB_⟩
      rw [HS3.out] at hc
      injection hc with hc1 hc2 hc3
      subst hc1 hc2 hc3
      have HC1 := Aside0.mk (hC11.mono (Y := (fun _ => False)) (fun k hk => hk.elim))
      have HL11 := Aside0.mk hl11
      clear hC11 hl11
      refine ⟨_, rfl, ?_⟩
      refine hK.out _ _ ⟨pw_cell_below hB_ hHeld.1, pw_cell_below hB_ hHeld.2.1, pw_cell_below hB_ hHeld.2.2.1, ⟨below_then hHeld.2.2.2.out hHeld.2.2.2.out.size hB_⟩⟩ (fun hHeld => ?_)
      clear hK K
      refine norm_ (a' := ?_) ?_ ?_
      rotate_left
      · show Act.put _ (some 69) _ = _
        simp only [Act.put, List.setIfInBounds_toArray, List.set_cons_zero, List.set_cons_succ, i64_w, i32_w]
        rfl
      refine three_ (i := 10) (j := 11) (k := 12) (Ni := some 75) (Nj := some 9) (Nk := some 10) #[true, true, true, true, true, true, true, true, true, true, true, false, false, false, false] #[true, true, true, true, true, true, true, true, true, true, false, true, false, false, false] #[true, true, true, true, true, true, true, true, true, true, false, false, true, false, false] rfl rfl rfl rfl rfl rfl (by kernel_rfl) (by decide) (by decide) (by decide) (fun K hK => ?_) (fun K hK => ?_) (fun K hK => ?_)
      · refine goes_ Try.func10 (by kernel_rfl) rfl #[.agg #[.slice AG GS.length cG, .slice (some A) F.length cF], .slice AI inp.length cI, .int .i64 (wrap64 ((Ga.st : Int) - 1))] (by rfl) rfl rfl (by first | rfl | (simp only [List.map_toArray, List.map_cons, List.map_nil]; done) | (simp only [List.map_toArray, List.map_cons, List.map_nil]; rfl)) ?_
        refine (trace_at (HLW10.out.keep hHeld.2.2.2.out) HO.out inp AI cI (wrap64 ((Ga.st : Int) - 1)) HGG.out HF.out HIT.out HCF.out HCG.out HCI.out HWI.out HL3.out HS2.out).mono ?_
        rintro e_ w12 ⟨ed, vd_, Gd_, A12, c12, hd, rfl, hl12, hC12, hB_⟩
        rw [HW1.out, HS4.out] at hd
        injection hd with hd1 hd2 hd3
        subst hd1 hd2 hd3
        have HC1 := Aside0.mk (HC1.out.step hB_ (Y := (fun _ => False)) (fun k hk => Or.inl hk))
        clear hC12 hl12
        refine ⟨_, rfl, ?_⟩
        refine hK.out _ _ ⟨pw_cell_below hB_ hHeld.1, pw_cell_below hB_ hHeld.2.1, pw_cell_below hB_ hHeld.2.2.1, ⟨below_then hHeld.2.2.2.out hHeld.2.2.2.out.size hB_⟩⟩ (fun hHeld => ?_)
        clear hK K
        refine norm_ (a' := ?_) ?_ ?_
        rotate_left
        · show Act.put _ (some 75) _ = _
          simp only [Act.put, List.setIfInBounds_toArray, List.set_cons_zero, List.set_cons_succ, i64_w, i32_w]
          rfl
        refine two_ (i := 11) (j := 12) (Ni := some 9) (Nj := some 10) #[true, true, true, true, true, true, true, true, true, true, true, true, false, false, false] #[true, true, true, true, true, true, true, true, true, true, true, false, true, false, false] rfl rfl rfl rfl (by kernel_rfl) (by decide) (by decide) (fun K hK => ?_) (fun K hK => ?_)
        · refine box_step (by rfl) (N := 9) rfl (cs := #[.int .i64 0, .int .i32 0, .slice none 0 0, .int .i64 0, .int .i64 0]) (t := 32) (by first | (go_simp; done) | (go_simp; rfl)) ?_
          intro g9 hg_ w13 hb_ hB_
          have HC1 := Aside0.mk (HC1.out.step hB_ (Y := fun k => k = g9) (fun k hk => .inr (Nat.le_of_eq (Eq.trans hk hg_).symm)))
          have HB9 := Aside0.mk hb_
          have HG9 : Aside0 (w10.heap.size ≤ g9) := ⟨Nat.le_trans hHeld.2.2.2.out.size (Nat.le_of_eq hg_.symm)⟩
          clear hb_ hg_
          refine hK.out _ _ ⟨pw_cell_below hB_ hHeld.1, pw_cell_below hB_ hHeld.2.1, pw_cell_below hB_ hHeld.2.2.1, ⟨below_then hHeld.2.2.2.out hHeld.2.2.2.out.size hB_⟩⟩ (fun hHeld => ?_)
          clear hK K
          refine norm_ (a' := ?_) ?_ ?_
          rotate_left
          · show Act.put _ (some 9) _ = _
            simp only [Act.put, List.setIfInBounds_toArray, List.set_cons_zero, List.set_cons_succ, i64_w, i32_w]
            rfl
          refine one_ (i := 12) (N := some 10) #[true, true, true, true, true, true, true, true, true, true, true, true, true, false, false] rfl rfl (by kernel_rfl) (by decide) (fun K hK => ?_)
          refine box_step (by rfl) (N := 10) rfl (cs := #[.int .i64 0, .int .i32 0, .slice none 0 0, .int .i64 0, .int .i64 0]) (t := 32) (by first | (go_simp; done) | (go_simp; rfl)) ?_
          intro g10 hg_ w13 hb_ hB_
          have HC1 := Aside0.mk (HC1.out.step hB_ (Y := fun k => k = g9 ∨ k = g10) (fun k hk => hk.elim (fun h => .inl h) (fun h => .inr (Nat.le_of_eq (h.trans hg_).symm))))
          have HNE : Aside0 (g9 ≠ g10) := ⟨fun e_ => by have h1_ := blk_lt HB9.out; omega⟩
          have HB9 := Aside0.mk (blk_below HB9.out hB_)
          have HB10 := Aside0.mk hb_
          have HG10 : Aside0 (w10.heap.size ≤ g10) := ⟨Nat.le_trans hHeld.2.2.2.out.size (Nat.le_of_eq hg_.symm)⟩
          clear hb_ hg_
          refine hK.out _ _ ⟨pw_cell_below hB_ hHeld.1, pw_cell_below hB_ hHeld.2.1, pw_cell_below hB_ hHeld.2.2.1, ⟨below_then hHeld.2.2.2.out hHeld.2.2.2.out.size hB_⟩⟩ (fun hHeld => ?_)
          clear hK K
          refine norm_ (a' := ?_) ?_ ?_
          rotate_left
          · show Act.put _ (some 10) _ = _
            simp only [Act.put, List.setIfInBounds_toArray, List.set_cons_zero, List.set_cons_succ, i64_w, i32_w]
            rfl
          refine norm_ (by kernel_rfl) (hfin ⟨A11, c11, vd, Gd, A12, c12, g9, g10⟩ _ ⟨hHeld.2.2.2, HC1, HL11, HB9, HB10, ⟨⟨HNE.out, HG9.out, HG10.out⟩⟩⟩)
        · refine box_step (by rfl) (N := 10) rfl (cs := #[.int .i64 0, .int .i32 0, .slice none 0 0, .int .i64 0, .int .i64 0]) (t := 32) (by first | (go_simp; done) | (go_simp; rfl)) ?_
          intro g10 hg_ w13 hb_ hB_
          have HC1 := Aside0.mk (HC1.out.step hB_ (Y := fun k => k = g10) (fun k hk => .inr (Nat.le_of_eq (Eq.trans hk hg_).symm)))
          have HB10 := Aside0.mk hb_
          have HG10 : Aside0 (w10.heap.size ≤ g10) := ⟨Nat.le_trans hHeld.2.2.2.out.size (Nat.le_of_eq hg_.symm)⟩
          clear hb_ hg_
          refine hK.out _ _ ⟨pw_cell_below hB_ hHeld.1, pw_cell_below hB_ hHeld.2.1, pw_cell_below hB_ hHeld.2.2.1, ⟨below_then hHeld.2.2.2.out hHeld.2.2.2.out.size hB_⟩⟩ (fun hHeld => ?_)
          clear hK K
          refine norm_ (a' := ?_) ?_ ?_
          rotate_left
          · show Act.put _ (some 10) _ = _
            simp only [Act.put, List.setIfInBounds_toArray, List.set_cons_zero, List.set_cons_succ, i64_w, i32_w]
            rfl
          refine one_ (i := 11) (N := some 9) #[true, true, true, true, true, true, true, true, true, true, true, true, true, false, false] rfl rfl (by kernel_rfl) (by decide) (fun K hK => ?_)
          refine box_step (by rfl) (N := 9) rfl (cs := #[.int .i64 0, .int .i32 0, .slice none 0 0, .int .i64 0, .int .i64 0]) (t := 32) (by first | (go_simp; done) | (go_simp; rfl)) ?_
          intro g9 hg_ w13 hb_ hB_
          have HC1 := Aside0.mk (HC1.out.step hB_ (Y := fun k => k = g9 ∨ k = g10) (fun k hk => hk.elim (fun h => .inr (Nat.le_of_eq (h.trans hg_).symm)) (fun h => .inl h)))
          have HNE : Aside0 (g9 ≠ g10) := ⟨fun e_ => by have h1_ := blk_lt HB10.out; omega⟩
          have HB10 := Aside0.mk (blk_below HB10.out hB_)
          have HB9 := Aside0.mk hb_
          have HG9 : Aside0 (w10.heap.size ≤ g9) := ⟨Nat.le_trans hHeld.2.2.2.out.size (Nat.le_of_eq hg_.symm)⟩
          clear hb_ hg_
          refine hK.out _ _ ⟨pw_cell_below hB_ hHeld.1, pw_cell_below hB_ hHeld.2.1, pw_cell_below hB_ hHeld.2.2.1, ⟨below_then hHeld.2.2.2.out hHeld.2.2.2.out.size hB_⟩⟩ (fun hHeld => ?_)
          clear hK K
          refine norm_ (a' := ?_) ?_ ?_
          rotate_left
          · show Act.put _ (some 9) _ = _
            simp only [Act.put, List.setIfInBounds_toArray, List.set_cons_zero, List.set_cons_succ, i64_w, i32_w]
            rfl
          refine norm_ (by kernel_rfl) (hfin ⟨A11, c11, vd, Gd, A12, c12, g9, g10⟩ _ ⟨hHeld.2.2.2, HC1, HL11, HB9, HB10, ⟨⟨HNE.out, HG9.out, HG10.out⟩⟩⟩)
      · refine box_step (by rfl) (N := 9) rfl (cs := #[.int .i64 0, .int .i32 0, .slice none 0 0, .int .i64 0, .int .i64 0]) (t := 32) (by first | (go_simp; done) | (go_simp; rfl)) ?_
        intro g9 hg_ w13 hb_ hB_
        have HC1 := Aside0.mk (HC1.out.step hB_ (Y := fun k => k = g9) (fun k hk => .inr (Nat.le_of_eq (Eq.trans hk hg_).symm)))
        have HB9 := Aside0.mk hb_
        have HG9 : Aside0 (w10.heap.size ≤ g9) := ⟨Nat.le_trans hHeld.2.2.2.out.size (Nat.le_of_eq hg_.symm)⟩
        clear hb_ hg_
        refine hK.out _ _ ⟨pw_cell_below hB_ hHeld.1, pw_cell_below hB_ hHeld.2.1, pw_cell_below hB_ hHeld.2.2.1, ⟨below_then hHeld.2.2.2.out hHeld.2.2.2.out.size hB_⟩⟩ (fun hHeld => ?_)
        clear hK K
        refine norm_ (a' := ?_) ?_ ?_
        rotate_left
        · show Act.put _ (some 9) _ = _
          simp only [Act.put, List.setIfInBounds_toArray, List.set_cons_zero, List.set_cons_succ, i64_w, i32_w]
          rfl
        refine two_ (i := 10) (j := 12) (Ni := some 75) (Nj := some 10) #[true, true, true, true, true, true, true, true, true, true, true, true, false, false, false] #[true, true, true, true, true, true, true, true, true, true, false, true, true, false, false] rfl rfl rfl rfl (by kernel_rfl) (by decide) (by decide) (fun K hK => ?_) (fun K hK => ?_)
        · refine goes_ Try.func10 (by kernel_rfl) rfl #[.agg #[.slice AG GS.length cG, .slice (some A) F.length cF], .slice AI inp.length cI, .int .i64 (wrap64 ((Ga.st : Int) - 1))] (by rfl) rfl rfl (by first | rfl | (simp only [List.map_toArray, List.map_cons, List.map_nil]; done) | (simp only [List.map_toArray, List.map_cons, List.map_nil]; rfl)) ?_
          refine (trace_at (HLW10.out.keep hHeld.2.2.2.out) HO.out inp AI cI (wrap64 ((Ga.st : Int) - 1)) HGG.out HF.out HIT.out HCF.out HCG.out HCI.out HWI.out HL3.out HS2.out).mono ?_
          rintro e_ w12 ⟨ed, vd_, Gd_, A12, c12, hd, rfl, hl12, hC12, hB_⟩
          rw [HW1.out, HS4.out] at hd
          injection hd with hd1 hd2 hd3
          subst hd1 hd2 hd3
          have HC1 := Aside0.mk (HC1.out.step hB_ (Y := (fun k => k = g9)) (fun k hk => Or.inl hk))
          have HB9 := Aside0.mk (blk_below HB9.out hB_)
          clear hC12 hl12
          refine ⟨_, rfl, ?_⟩
          refine hK.out _ _ ⟨pw_cell_below hB_ hHeld.1, pw_cell_below hB_ hHeld.2.1, pw_cell_below hB_ hHeld.2.2.1, ⟨below_then hHeld.2.2.2.out hHeld.2.2.2.out.size hB_⟩⟩ (fun hHeld => ?_)
          clear hK K
          refine norm_ (a' := ?_) ?_ ?_
          rotate_left
          · show Act.put _ (some 75) _ = _
            simp only [Act.put, List.setIfInBounds_toArray, List.set_cons_zero, List.set_cons_succ, i64_w, i32_w]
            rfl
          refine one_ (i := 12) (N := some 10) #[true, true, true, true, true, true, true, true, true, true, true, true, true, false, false] rfl rfl (by kernel_rfl) (by decide) (fun K hK => ?_)
          refine box_step (by rfl) (N := 10) rfl (cs := #[.int .i64 0, .int .i32 0, .slice none 0 0, .int .i64 0, .int .i64 0]) (t := 32) (by first | (go_simp; done) | (go_simp; rfl)) ?_
          intro g10 hg_ w13 hb_ hB_
          have HC1 := Aside0.mk (HC1.out.step hB_ (Y := fun k => k = g9 ∨ k = g10) (fun k hk => hk.elim (fun h => .inl h) (fun h => .inr (Nat.le_of_eq (h.trans hg_).symm))))
          have HNE : Aside0 (g9 ≠ g10) := ⟨fun e_ => by have h1_ := blk_lt HB9.out; omega⟩
          have HB9 := Aside0.mk (blk_below HB9.out hB_)
          have HB10 := Aside0.mk hb_
          have HG10 : Aside0 (w10.heap.size ≤ g10) := ⟨Nat.le_trans hHeld.2.2.2.out.size (Nat.le_of_eq hg_.symm)⟩
          clear hb_ hg_
          refine hK.out _ _ ⟨pw_cell_below hB_ hHeld.1, pw_cell_below hB_ hHeld.2.1, pw_cell_below hB_ hHeld.2.2.1, ⟨below_then hHeld.2.2.2.out hHeld.2.2.2.out.size hB_⟩⟩ (fun hHeld => ?_)
          clear hK K
          refine norm_ (a' := ?_) ?_ ?_
          rotate_left
          · show Act.put _ (some 10) _ = _
            simp only [Act.put, List.setIfInBounds_toArray, List.set_cons_zero, List.set_cons_succ, i64_w, i32_w]
            rfl
          refine norm_ (by kernel_rfl) (hfin ⟨A11, c11, vd, Gd, A12, c12, g9, g10⟩ _ ⟨hHeld.2.2.2, HC1, HL11, HB9, HB10, ⟨⟨HNE.out, HG9.out, HG10.out⟩⟩⟩)
        · refine box_step (by rfl) (N := 10) rfl (cs := #[.int .i64 0, .int .i32 0, .slice none 0 0, .int .i64 0, .int .i64 0]) (t := 32) (by first | (go_simp; done) | (go_simp; rfl)) ?_
          intro g10 hg_ w13 hb_ hB_
          have HC1 := Aside0.mk (HC1.out.step hB_ (Y := fun k => k = g9 ∨ k = g10) (fun k hk => hk.elim (fun h => .inl h) (fun h => .inr (Nat.le_of_eq (h.trans hg_).symm))))
          have HNE : Aside0 (g9 ≠ g10) := ⟨fun e_ => by have h1_ := blk_lt HB9.out; omega⟩
          have HB9 := Aside0.mk (blk_below HB9.out hB_)
          have HB10 := Aside0.mk hb_
          have HG10 : Aside0 (w10.heap.size ≤ g10) := ⟨Nat.le_trans hHeld.2.2.2.out.size (Nat.le_of_eq hg_.symm)⟩
          clear hb_ hg_
          refine hK.out _ _ ⟨pw_cell_below hB_ hHeld.1, pw_cell_below hB_ hHeld.2.1, pw_cell_below hB_ hHeld.2.2.1, ⟨below_then hHeld.2.2.2.out hHeld.2.2.2.out.size hB_⟩⟩ (fun hHeld => ?_)
          clear hK K
          refine norm_ (a' := ?_) ?_ ?_
          rotate_left
          · show Act.put _ (some 10) _ = _
            simp only [Act.put, List.setIfInBounds_toArray, List.set_cons_zero, List.set_cons_succ, i64_w, i32_w]
            rfl
          refine one_ (i := 10) (N := some 75) #[true, true, true, true, true, true, true, true, true, true, true, true, true, false, false] rfl rfl (by kernel_rfl) (by decide) (fun K hK => ?_)
          refine goes_ Try.func10 (by kernel_rfl) rfl #[.agg #[.slice AG GS.length cG, .slice (some A) F.length cF], .slice AI inp.length cI, .int .i64 (wrap64 ((Ga.st : Int) - 1))] (by rfl) rfl rfl (by first | rfl | (simp only [List.map_toArray, List.map_cons, List.map_nil]; done) | (simp only [List.map_toArray, List.map_cons, List.map_nil]; rfl)) ?_
          refine (trace_at (HLW10.out.keep hHeld.2.2.2.out) HO.out inp AI cI (wrap64 ((Ga.st : Int) - 1)) HGG.out HF.out HIT.out HCF.out HCG.out HCI.out HWI.out HL3.out HS2.out).mono ?_
          rintro e_ w12 ⟨ed, vd_, Gd_, A12, c12, hd, rfl, hl12, hC12, hB_⟩
          rw [HW1.out, HS4.out] at hd
          injection hd with hd1 hd2 hd3
          subst hd1 hd2 hd3
          have HC1 := Aside0.mk (HC1.out.step hB_ (Y := (fun k => k = g9 ∨ k = g10)) (fun k hk => Or.inl hk))
          have HB9 := Aside0.mk (blk_below HB9.out hB_)
          have HB10 := Aside0.mk (blk_below HB10.out hB_)
          clear hC12 hl12
          refine ⟨_, rfl, ?_⟩
          refine hK.out _ _ ⟨pw_cell_below hB_ hHeld.1, pw_cell_below hB_ hHeld.2.1, pw_cell_below hB_ hHeld.2.2.1, ⟨below_then hHeld.2.2.2.out hHeld.2.2.2.out.size hB_⟩⟩ (fun hHeld => ?_)
          clear hK K
          refine norm_ (a' := ?_) ?_ ?_
          rotate_left
          · show Act.put _ (some 75) _ = _
            simp only [Act.put, List.setIfInBounds_toArray, List.set_cons_zero, List.set_cons_succ, i64_w, i32_w]
            rfl
          refine norm_ (by kernel_rfl) (hfin ⟨A11, c11, vd, Gd, A12, c12, g9, g10⟩ _ ⟨hHeld.2.2.2, HC1, HL11, HB9, HB10, ⟨⟨HNE.out, HG9.out, HG10.out⟩⟩⟩)
      · refine box_step (by rfl) (N := 10) rfl (cs := #[.int .i64 0, .int .i32 0, .slice none 0 0, .int .i64 0, .int .i64 0]) (t := 32) (by first | (go_simp; done) | (go_simp; rfl)) ?_
        intro g10 hg_ w13 hb_ hB_
        have HC1 := Aside0.mk (HC1.out.step hB_ (Y := fun k => k = g10) (fun k hk => .inr (Nat.le_of_eq (Eq.trans hk hg_).symm)))
        have HB10 := Aside0.mk hb_
        have HG10 : Aside0 (w10.heap.size ≤ g10) := ⟨Nat.le_trans hHeld.2.2.2.out.size (Nat.le_of_eq hg_.symm)⟩
        clear hb_ hg_
        refine hK.out _ _ ⟨pw_cell_below hB_ hHeld.1, pw_cell_below hB_ hHeld.2.1, pw_cell_below hB_ hHeld.2.2.1, ⟨below_then hHeld.2.2.2.out hHeld.2.2.2.out.size hB_⟩⟩ (fun hHeld => ?_)
        clear hK K
        refine norm_ (a' := ?_) ?_ ?_
        rotate_left
        · show Act.put _ (some 10) _ = _
          simp only [Act.put, List.setIfInBounds_toArray, List.set_cons_zero, List.set_cons_succ, i64_w, i32_w]
          rfl
        refine two_ (i := 10) (j := 11) (Ni := some 75) (Nj := some 9) #[true, true, true, true, true, true, true, true, true, true, true, false, true, false, false] #[true, true, true, true, true, true, true, true, true, true, false, true, true, false, false] rfl rfl rfl rfl (by kernel_rfl) (by decide) (by decide) (fun K hK => ?_) (fun K hK => ?_)
        · refine goes_ Try.func10 (by kernel_rfl) rfl #[.agg #[.slice AG GS.length cG, .slice (some A) F.length cF], .slice AI inp.length cI, .int .i64 (wrap64 ((Ga.st : Int) - 1))] (by rfl) rfl rfl (by first | rfl | (simp only [List.map_toArray, List.map_cons, List.map_nil]; done) | (simp only [List.map_toArray, List.map_cons, List.map_nil]; rfl)) ?_
          refine (trace_at (HLW10.out.keep hHeld.2.2.2.out) HO.out inp AI cI (wrap64 ((Ga.st : Int) - 1)) HGG.out HF.out HIT.out HCF.out HCG.out HCI.out HWI.out HL3.out HS2.out).mono ?_
          rintro e_ w12 ⟨ed, vd_, Gd_, A12, c12, hd, rfl, hl12, hC12, hB_⟩
          rw [HW1.out, HS4.out] at hd
          injection hd with hd1 hd2 hd3
          subst hd1 hd2 hd3
          have HC1 := Aside0.mk (HC1.out.step hB_ (Y := (fun k => k = g10)) (fun k hk => Or.inl hk))
          have HB10 := Aside0.mk (blk_below HB10.out hB_)
          clear hC12 hl12
          refine ⟨_, rfl, ?_⟩
          refine hK.out _ _ ⟨pw_cell_below hB_ hHeld.1, pw_cell_below hB_ hHeld.2.1, pw_cell_below hB_ hHeld.2.2.1, ⟨below_then hHeld.2.2.2.out hHeld.2.2.2.out.size hB_⟩⟩ (fun hHeld => ?_)
          clear hK K
          refine norm_ (a' := ?_) ?_ ?_
          rotate_left
          · show Act.put _ (some 75) _ = _
            simp only [Act.put, List.setIfInBounds_toArray, List.set_cons_zero, List.set_cons_succ, i64_w, i32_w]
            rfl
          refine one_ (i := 11) (N := some 9) #[true, true, true, true, true, true, true, true, true, true, true, true, true, false, false] rfl rfl (by kernel_rfl) (by decide) (fun K hK => ?_)
          refine box_step (by rfl) (N := 9) rfl (cs := #[.int .i64 0, .int .i32 0, .slice none 0 0, .int .i64 0, .int .i64 0]) (t := 32) (by first | (go_simp; done) | (go_simp; rfl)) ?_
          intro g9 hg_ w13 hb_ hB_
          have HC1 := Aside0.mk (HC1.out.step hB_ (Y := fun k => k = g9 ∨ k = g10) (fun k hk => hk.elim (fun h => .inr (Nat.le_of_eq (h.trans hg_).symm)) (fun h => .inl h)))
          have HNE : Aside0 (g9 ≠ g10) := ⟨fun e_ => by have h1_ := blk_lt HB10.out; omega⟩
          have HB10 := Aside0.mk (blk_below HB10.out hB_)
          have HB9 := Aside0.mk hb_
          have HG9 : Aside0 (w10.heap.size ≤ g9) := ⟨Nat.le_trans hHeld.2.2.2.out.size (Nat.le_of_eq hg_.symm)⟩
          clear hb_ hg_
          refine hK.out _ _ ⟨pw_cell_below hB_ hHeld.1, pw_cell_below hB_ hHeld.2.1, pw_cell_below hB_ hHeld.2.2.1, ⟨below_then hHeld.2.2.2.out hHeld.2.2.2.out.size hB_⟩⟩ (fun hHeld => ?_)
          clear hK K
          refine norm_ (a' := ?_) ?_ ?_
          rotate_left
          · show Act.put _ (some 9) _ = _
            simp only [Act.put, List.setIfInBounds_toArray, List.set_cons_zero, List.set_cons_succ, i64_w, i32_w]
            rfl
          refine norm_ (by kernel_rfl) (hfin ⟨A11, c11, vd, Gd, A12, c12, g9, g10⟩ _ ⟨hHeld.2.2.2, HC1, HL11, HB9, HB10, ⟨⟨HNE.out, HG9.out, HG10.out⟩⟩⟩)
        · refine box_step (by rfl) (N := 9) rfl (cs := #[.int .i64 0, .int .i32 0, .slice none 0 0, .int .i64 0, .int .i64 0]) (t := 32) (by first | (go_simp; done) | (go_simp; rfl)) ?_
          intro g9 hg_ w13 hb_ hB_
          have HC1 := Aside0.mk (HC1.out.step hB_ (Y := fun k => k = g9 ∨ k = g10) (fun k hk => hk.elim (fun h => .inr (Nat.le_of_eq (h.trans hg_).symm)) (fun h => .inl h)))
          have HNE : Aside0 (g9 ≠ g10) := ⟨fun e_ => by have h1_ := blk_lt HB10.out; omega⟩
          have HB10 := Aside0.mk (blk_below HB10.out hB_)
          have HB9 := Aside0.mk hb_
          have HG9 : Aside0 (w10.heap.size ≤ g9) := ⟨Nat.le_trans hHeld.2.2.2.out.size (Nat.le_of_eq hg_.symm)⟩
          clear hb_ hg_
          refine hK.out _ _ ⟨pw_cell_below hB_ hHeld.1, pw_cell_below hB_ hHeld.2.1, pw_cell_below hB_ hHeld.2.2.1, ⟨below_then hHeld.2.2.2.out hHeld.2.2.2.out.size hB_⟩⟩ (fun hHeld => ?_)
          clear hK K
          refine norm_ (a' := ?_) ?_ ?_
          rotate_left
          · show Act.put _ (some 9) _ = _
            simp only [Act.put, List.setIfInBounds_toArray, List.set_cons_zero, List.set_cons_succ, i64_w, i32_w]
            rfl
          refine one_ (i := 10) (N := some 75) #[true, true, true, true, true, true, true, true, true, true, true, true, true, false, false] rfl rfl (by kernel_rfl) (by decide) (fun K hK => ?_)
          refine goes_ Try.func10 (by kernel_rfl) rfl #[.agg #[.slice AG GS.length cG, .slice (some A) F.length cF], .slice AI inp.length cI, .int .i64 (wrap64 ((Ga.st : Int) - 1))] (by rfl) rfl rfl (by first | rfl | (simp only [List.map_toArray, List.map_cons, List.map_nil]; done) | (simp only [List.map_toArray, List.map_cons, List.map_nil]; rfl)) ?_
          refine (trace_at (HLW10.out.keep hHeld.2.2.2.out) HO.out inp AI cI (wrap64 ((Ga.st : Int) - 1)) HGG.out HF.out HIT.out HCF.out HCG.out HCI.out HWI.out HL3.out HS2.out).mono ?_
          rintro e_ w12 ⟨ed, vd_, Gd_, A12, c12, hd, rfl, hl12, hC12, hB_⟩
          rw [HW1.out, HS4.out] at hd
          injection hd with hd1 hd2 hd3
          subst hd1 hd2 hd3
          have HC1 := Aside0.mk (HC1.out.step hB_ (Y := (fun k => k = g9 ∨ k = g10)) (fun k hk => Or.inl hk))
          have HB9 := Aside0.mk (blk_below HB9.out hB_)
          have HB10 := Aside0.mk (blk_below HB10.out hB_)
          clear hC12 hl12
          refine ⟨_, rfl, ?_⟩
          refine hK.out _ _ ⟨pw_cell_below hB_ hHeld.1, pw_cell_below hB_ hHeld.2.1, pw_cell_below hB_ hHeld.2.2.1, ⟨below_then hHeld.2.2.2.out hHeld.2.2.2.out.size hB_⟩⟩ (fun hHeld => ?_)
          clear hK K
          refine norm_ (a' := ?_) ?_ ?_
          rotate_left
          · show Act.put _ (some 75) _ = _
            simp only [Act.put, List.setIfInBounds_toArray, List.set_cons_zero, List.set_cons_succ, i64_w, i32_w]
            rfl
          refine norm_ (by kernel_rfl) (hfin ⟨A11, c11, vd, Gd, A12, c12, g9, g10⟩ _ ⟨hHeld.2.2.2, HC1, HL11, HB9, HB10, ⟨⟨HNE.out, HG9.out, HG10.out⟩⟩⟩)
    · refine box_step (by rfl) (N := 9) rfl (cs := #[.int .i64 0, .int .i32 0, .slice none 0 0, .int .i64 0, .int .i64 0]) (t := 32) (by first | (go_simp; done) | (go_simp; rfl)) ?_
      intro g9 hg_ w13 hb_ hB_
      have HB9 := Aside0.mk hb_
      have HG9 : Aside0 (w10.heap.size ≤ g9) := ⟨Nat.le_trans hHeld.2.2.2.out.size (Nat.le_of_eq hg_.symm)⟩
      clear hb_ hg_
      refine hK.out _ _ ⟨pw_cell_below hB_ hHeld.1, pw_cell_below hB_ hHeld.2.1, pw_cell_below hB_ hHeld.2.2.1, ⟨below_then hHeld.2.2.2.out hHeld.2.2.2.out.size hB_⟩⟩ (fun hHeld => ?_)
      clear hK K
      refine norm_ (a' := ?_) ?_ ?_
      rotate_left
      · show Act.put _ (some 9) _ = _
        simp only [Act.put, List.setIfInBounds_toArray, List.set_cons_zero, List.set_cons_succ, i64_w, i32_w]
        rfl
      refine two_ (i := 4) (j := 12) (Ni := some 69) (Nj := some 10) #[true, true, true, true, true, true, true, true, true, true, false, true, false, false, false] #[true, true, true, true, false, true, true, true, true, true, false, true, true, false, false] rfl rfl rfl rfl (by kernel_rfl) (by decide) (by decide) (fun K hK => ?_) (fun K hK => ?_)
      · refine goes_ Try.func10 (by kernel_rfl) rfl #[.agg #[.slice AG GS.length cG, .slice (some A) F.length cF], .slice AI inp.length cI, .int .i64 (Ga.st : Int)] (by rfl) rfl rfl (by first | rfl | (simp only [List.map_toArray, List.map_cons, List.map_nil]; done) | (simp only [List.map_toArray, List.map_cons, List.map_nil]; rfl)) ?_
        refine (trace_at (HLW10.out.keep hHeld.2.2.2.out) HO.out inp AI cI (Ga.st : Int) HGG.out HF.out HIT.out HCF.out HCG.out HCI.out HWI.out HL3.out HS1.out).mono ?_
        rintro e_ w11 ⟨ec, vc, Gc, A11, c11, hc, rfl, hl11, hC11, hB_⟩
        rw [HS3.out] at hc
        injection hc with hc1 hc2 hc3
        subst hc1 hc2 hc3
        have HC1 := Aside0.mk (hC11.mono (Y := (fun k => k = g9)) (fun k hk => hk ▸ blk_lt HB9.out))
        have HL11 := Aside0.mk hl11
        have HB9 := Aside0.mk (blk_below HB9.out hB_)
        clear hC11 hl11
        refine ⟨_, rfl, ?_⟩
        refine hK.out _ _ ⟨pw_cell_below hB_ hHeld.1, pw_cell_below hB_ hHeld.2.1, pw_cell_below hB_ hHeld.2.2.1, ⟨below_then hHeld.2.2.2.out hHeld.2.2.2.out.size hB_⟩⟩ (fun hHeld => ?_)
        clear hK K
        refine norm_ (a' := ?_) ?_ ?_
        rotate_left
        · show Act.put _ (some 69) _ = _
          simp only [Act.put, List.setIfInBounds_toArray, List.set_cons_zero, List.set_cons_succ, i64_w, i32_w]
          rfl
        refine two_ (i := 10) (j := 12) (Ni := some 75) (Nj := some 10) #[true, true, true, true, true, true, true, true, true, true, true, true, false, false, false] #[true, true, true, true, true, true, true, true, true, true, false, true, true, false, false] rfl rfl rfl rfl (by kernel_rfl) (by decide) (by decide) (fun K hK => ?_) (fun K hK => ?_)
        · refine goes_ Try.func10 (by kernel_rfl) rfl #[.agg #[.slice AG GS.length cG, .slice (some A) F.length cF], .slice AI inp.length cI, .int .i64 (wrap64 ((Ga.st : Int) - 1))] (by rfl) rfl rfl (by first | rfl | (simp only [List.map_toArray, List.map_cons, List.map_nil]; done) | (simp only [List.map_toArray, List.map_cons, List.map_nil]; rfl)) ?_
          refine (trace_at (HLW10.out.keep hHeld.2.2.2.out) HO.out inp AI cI (wrap64 ((Ga.st : Int) - 1)) HGG.out HF.out HIT.out HCF.out HCG.out HCI.out HWI.out HL3.out HS2.out).mono ?_
          rintro e_ w12 ⟨ed, vd_, Gd_, A12, c12, hd, rfl, hl12, hC12, hB_⟩
          rw [HW1.out, HS4.out] at hd
          injection hd with hd1 hd2 hd3
          subst hd1 hd2 hd3
          have HC1 := Aside0.mk (HC1.out.step hB_ (Y := (fun k => k = g9)) (fun k hk => Or.inl hk))
          have HB9 := Aside0.mk (blk_below HB9.out hB_)
          clear hC12 hl12
          refine ⟨_, rfl, ?_⟩
          refine hK.out _ _ ⟨pw_cell_below hB_ hHeld.1, pw_cell_below hB_ hHeld.2.1, pw_cell_below hB_ hHeld.2.2.1, ⟨below_then hHeld.2.2.2.out hHeld.2.2.2.out.size hB_⟩⟩ (fun hHeld => ?_)
          clear hK K
          refine norm_ (a' := ?_) ?_ ?_
          rotate_left
          · show Act.put _ (some 75) _ = _
            simp only [Act.put, List.setIfInBounds_toArray, List.set_cons_zero, List.set_cons_succ, i64_w, i32_w]
            rfl
          refine one_ (i := 12) (N := some 10) #[true, true, true, true, true, true, true, true, true, true, true, true, true, false, false] rfl rfl (by kernel_rfl) (by decide) (fun K hK => ?_)
          refine box_step (by rfl) (N := 10) rfl (cs := #[.int .i64 0, .int .i32 0, .slice none 0 0, .int .i64 0, .int .i64 0]) (t := 32) (by first | (go_simp; done) | (go_simp; rfl)) ?_
          intro g10 hg_ w13 hb_ hB_
          have HC1 := Aside0.mk (HC1.out.step hB_ (Y := fun k => k = g9 ∨ k = g10) (fun k hk => hk.elim (fun h => .inl h) (fun h => .inr (Nat.le_of_eq (h.trans hg_).symm))))
          have HNE : Aside0 (g9 ≠ g10) := ⟨fun e_ => by have h1_ := blk_lt HB9.out; omega⟩
          have HB9 := Aside0.mk (blk_below HB9.out hB_)
          have HB10 := Aside0.mk hb_
          have HG10 : Aside0 (w10.heap.size ≤ g10) := ⟨Nat.le_trans hHeld.2.2.2.out.size (Nat.le_of_eq hg_.symm)⟩
          clear hb_ hg_
          refine hK.out _ _ ⟨pw_cell_below hB_ hHeld.1, pw_cell_below hB_ hHeld.2.1, pw_cell_below hB_ hHeld.2.2.1, ⟨below_then hHeld.2.2.2.out hHeld.2.2.2.out.size hB_⟩⟩ (fun hHeld => ?_)
          clear hK K
          refine norm_ (a' := ?_) ?_ ?_
          rotate_left
          · show Act.put _ (some 10) _ = _
            simp only [Act.put, List.setIfInBounds_toArray, List.set_cons_zero, List.set_cons_succ, i64_w, i32_w]
            rfl
          refine norm_ (by kernel_rfl) (hfin ⟨A11, c11, vd, Gd, A12, c12, g9, g10⟩ _ ⟨hHeld.2.2.2, HC1, HL11, HB9, HB10, ⟨⟨HNE.out, HG9.out, HG10.out⟩⟩⟩)
        · refine box_step (by rfl) (N := 10) rfl (cs := #[.int .i64 0, .int .i32 0, .slice none 0 0, .int .i64 0, .int .i64 0]) (t := 32) (by first | (go_simp; done) | (go_simp; rfl)) ?_
          intro g10 hg_ w13 hb_ hB_
          have HC1 := Aside0.mk (HC1.out.step hB_ (Y := fun k => k = g9 ∨ k = g10) (fun k hk => hk.elim (fun h => .inl h) (fun h => .inr (Nat.le_of_eq (h.trans hg_).symm))))
          have HNE : Aside0 (g9 ≠ g10) := ⟨fun e_ => by have h1_ := blk_lt HB9.out; omega⟩
          have HB9 := Aside0.mk (blk_below HB9.out hB_)
          have HB10 := Aside0.mk hb_
          have HG10 : Aside0 (w10.heap.size ≤ g10) := ⟨Nat.le_trans hHeld.2.2.2.out.size (Nat.le_of_eq hg_.symm)⟩
          clear hb_ hg_
          refine hK.out _ _ ⟨pw_cell_below hB_ hHeld.1, pw_cell_below hB_ hHeld.2.1, pw_cell_below hB_ hHeld.2.2.1, ⟨below_then hHeld.2.2.2.out hHeld.2.2.2.out.size hB_⟩⟩ (fun hHeld => ?_)
          clear hK K
          refine norm_ (a' := ?_) ?_ ?_
          rotate_left
          · show Act.put _ (some 10) _ = _
            simp only [Act.put, List.setIfInBounds_toArray, List.set_cons_zero, List.set_cons_succ, i64_w, i32_w]
            rfl
          refine one_ (i := 10) (N := some 75) #[true, true, true, true, true, true, true, true, true, true, true, true, true, false, false] rfl rfl (by kernel_rfl) (by decide) (fun K hK => ?_)
          refine goes_ Try.func10 (by kernel_rfl) rfl #[.agg #[.slice AG GS.length cG, .slice (some A) F.length cF], .slice AI inp.length cI, .int .i64 (wrap64 ((Ga.st : Int) - 1))] (by rfl) rfl rfl (by first | rfl | (simp only [List.map_toArray, List.map_cons, List.map_nil]; done) | (simp only [List.map_toArray, List.map_cons, List.map_nil]; rfl)) ?_
          refine (trace_at (HLW10.out.keep hHeld.2.2.2.out) HO.out inp AI cI (wrap64 ((Ga.st : Int) - 1)) HGG.out HF.out HIT.out HCF.out HCG.out HCI.out HWI.out HL3.out HS2.out).mono ?_
          rintro e_ w12 ⟨ed, vd_, Gd_, A12, c12, hd, rfl, hl12, hC12, hB_⟩
          rw [HW1.out, HS4.out] at hd
          injection hd with hd1 hd2 hd3
          subst hd1 hd2 hd3
          have HC1 := Aside0.mk (HC1.out.step hB_ (Y := (fun k => k = g9 ∨ k = g10)) (fun k hk => Or.inl hk))
          have HB9 := Aside0.mk (blk_below HB9.out hB_)
          have HB10 := Aside0.mk (blk_below HB10.out hB_)
          clear hC12 hl12
          refine ⟨_, rfl, ?_⟩
          refine hK.out _ _ ⟨pw_cell_below hB_ hHeld.1, pw_cell_below hB_ hHeld.2.1, pw_cell_below hB_ hHeld.2.2.1, ⟨below_then hHeld.2.2.2.out hHeld.2.2.2.out.size hB_⟩⟩ (fun hHeld => ?_)
          clear hK K
          refine norm_ (a' := ?_) ?_ ?_
          rotate_left
          · show Act.put _ (some 75) _ = _
            simp only [Act.put, List.setIfInBounds_toArray, List.set_cons_zero, List.set_cons_succ, i64_w, i32_w]
            rfl
          refine norm_ (by kernel_rfl) (hfin ⟨A11, c11, vd, Gd, A12, c12, g9, g10⟩ _ ⟨hHeld.2.2.2, HC1, HL11, HB9, HB10, ⟨⟨HNE.out, HG9.out, HG10.out⟩⟩⟩)
      · refine box_step (by rfl) (N := 10) rfl (cs := #[.int .i64 0, .int .i32 0, .slice none 0 0, .int .i64 0, .int .i64 0]) (t := 32) (by first | (go_simp; done) | (go_simp; rfl)) ?_
        intro g10 hg_ w13 hb_ hB_
        have HNE : Aside0 (g9 ≠ g10) := ⟨fun e_ => by have h1_ := blk_lt HB9.out; omega⟩
        have HB9 := Aside0.mk (blk_below HB9.out hB_)
        have HB10 := Aside0.mk hb_
        have HG10 : Aside0 (w10.heap.size ≤ g10) := ⟨Nat.le_trans hHeld.2.2.2.out.size (Nat.le_of_eq hg_.symm)⟩
        clear hb_ hg_
        refine hK.out _ _ ⟨pw_cell_below hB_ hHeld.1, pw_cell_below hB_ hHeld.2.1, pw_cell_below hB_ hHeld.2.2.1, ⟨below_then hHeld.2.2.2.out hHeld.2.2.2.out.size hB_⟩⟩ (fun hHeld => ?_)
        clear hK K
        refine norm_ (a' := ?_) ?_ ?_
        rotate_left
        · show Act.put _ (some 10) _ = _
          simp only [Act.put, List.setIfInBounds_toArray, List.set_cons_zero, List.set_cons_succ, i64_w, i32_w]
          rfl
        refine one_ (i := 4) (N := some 69) #[true, true, true, true, true, true, true, true, true, true, false, true, true, false, false] rfl rfl (by kernel_rfl) (by decide) (fun K hK => ?_)
        refine goes_ Try.func10 (by kernel_rfl) rfl #[.agg #[.slice AG GS.length cG, .slice (some A) F.length cF], .slice AI inp.length cI, .int .i64 (Ga.st : Int)] (by rfl) rfl rfl (by first | rfl | (simp only [List.map_toArray, List.map_cons, List.map_nil]; done) | (simp only [List.map_toArray, List.map_cons, List.map_nil]; rfl)) ?_
        refine (trace_at (HLW10.out.keep hHeld.2.2.2.out) HO.out inp AI cI (Ga.st : Int) HGG.out HF.out HIT.out HCF.out HCG.out HCI.out HWI.out HL3.out HS1.out).mono ?_
        rintro e_ w11 ⟨ec, vc, Gc, A11, c11, hc, rfl, hl11, hC11, hB_⟩
        rw [HS3.out] at hc
        injection hc with hc1 hc2 hc3
        subst hc1 hc2 hc3
        have HC1 := Aside0.mk (hC11.mono (Y := (fun k => k = g9 ∨ k = g10)) (fun k hk => hk.elim (fun h => h ▸ blk_lt HB9.out) (fun h => h ▸ blk_lt HB10.out)))
        have HL11 := Aside0.mk hl11
        have HB9 := Aside0.mk (blk_below HB9.out hB_)
        have HB10 := Aside0.mk (blk_below HB10.out hB_)
        clear hC11 hl11
        refine ⟨_, rfl, ?_⟩
        refine hK.out _ _ ⟨pw_cell_below hB_ hHeld.1, pw_cell_below hB_ hHeld.2.1, pw_cell_below hB_ hHeld.2.2.1, ⟨below_then hHeld.2.2.2.out hHeld.2.2.2.out.size hB_⟩⟩ (fun hHeld => ?_)
        clear hK K
        refine norm_ (a' := ?_) ?_ ?_
        rotate_left
        · show Act.put _ (some 69) _ = _
          simp only [Act.put, List.setIfInBounds_toArray, List.set_cons_zero, List.set_cons_succ, i64_w, i32_w]
          rfl
        refine one_ (i := 10) (N := some 75) #[true, true, true, true, true, true, true, true, true, true, true, true, true, false, false] rfl rfl (by kernel_rfl) (by decide) (fun K hK => ?_)
        refine goes_ Try.func10 (by kernel_rfl) rfl #[.agg #[.slice AG GS.length cG, .slice (some A) F.length cF], .slice AI inp.length cI, .int .i64 (wrap64 ((Ga.st : Int) - 1))] (by rfl) rfl rfl (by first | rfl | (simp only [List.map_toArray, List.map_cons, List.map_nil]; done) | (simp only [List.map_toArray, List.map_cons, List.map_nil]; rfl)) ?_
        refine (trace_at (HLW10.out.keep hHeld.2.2.2.out) HO.out inp AI cI (wrap64 ((Ga.st : Int) - 1)) HGG.out HF.out HIT.out HCF.out HCG.out HCI.out HWI.out HL3.out HS2.out).mono ?_
        rintro e_ w12 ⟨ed, vd_, Gd_, A12, c12, hd, rfl, hl12, hC12, hB_⟩
        rw [HW1.out, HS4.out] at hd
        injection hd with hd1 hd2 hd3
        subst hd1 hd2 hd3
        have HC1 := Aside0.mk (HC1.out.step hB_ (Y := (fun k => k = g9 ∨ k = g10)) (fun k hk => Or.inl hk))
        have HB9 := Aside0.mk (blk_below HB9.out hB_)
        have HB10 := Aside0.mk (blk_below HB10.out hB_)
        clear hC12 hl12
        refine ⟨_, rfl, ?_⟩
        refine hK.out _ _ ⟨pw_cell_below hB_ hHeld.1, pw_cell_below hB_ hHeld.2.1, pw_cell_below hB_ hHeld.2.2.1, ⟨below_then hHeld.2.2.2.out hHeld.2.2.2.out.size hB_⟩⟩ (fun hHeld => ?_)
        clear hK K
        refine norm_ (a' := ?_) ?_ ?_
        rotate_left
        · show Act.put _ (some 75) _ = _
          simp only [Act.put, List.setIfInBounds_toArray, List.set_cons_zero, List.set_cons_succ, i64_w, i32_w]
          rfl
        refine norm_ (by kernel_rfl) (hfin ⟨A11, c11, vd, Gd, A12, c12, g9, g10⟩ _ ⟨hHeld.2.2.2, HC1, HL11, HB9, HB10, ⟨⟨HNE.out, HG9.out, HG10.out⟩⟩⟩)
    · refine box_step (by rfl) (N := 10) rfl (cs := #[.int .i64 0, .int .i32 0, .slice none 0 0, .int .i64 0, .int .i64 0]) (t := 32) (by first | (go_simp; done) | (go_simp; rfl)) ?_
      intro g10 hg_ w13 hb_ hB_
      have HB10 := Aside0.mk hb_
      have HG10 : Aside0 (w10.heap.size ≤ g10) := ⟨Nat.le_trans hHeld.2.2.2.out.size (Nat.le_of_eq hg_.symm)⟩
      clear hb_ hg_
      refine hK.out _ _ ⟨pw_cell_below hB_ hHeld.1, pw_cell_below hB_ hHeld.2.1, pw_cell_below hB_ hHeld.2.2.1, ⟨below_then hHeld.2.2.2.out hHeld.2.2.2.out.size hB_⟩⟩ (fun hHeld => ?_)
      clear hK K
      refine norm_ (a' := ?_) ?_ ?_
      rotate_left
      · show Act.put _ (some 10) _ = _
        simp only [Act.put, List.setIfInBounds_toArray, List.set_cons_zero, List.set_cons_succ, i64_w, i32_w]
        rfl
      refine two_ (i := 4) (j := 11) (Ni := some 69) (Nj := some 9) #[true, true, true, true, true, true, true, true, true, true, false, false, true, false, false] #[true, true, true, true, false, true, true, true, true, true, false, true, true, false, false] rfl rfl rfl rfl (by kernel_rfl) (by decide) (by decide) (fun K hK => ?_) (fun K hK => ?_)
      · refine goes_ Try.func10 (by kernel_rfl) rfl #[.agg #[.slice AG GS.length cG, .slice (some A) F.length cF], .slice AI inp.length cI, .int .i64 (Ga.st : Int)] (by rfl) rfl rfl (by first | rfl | (simp only [List.map_toArray, List.map_cons, List.map_nil]; done) | (simp only [List.map_toArray, List.map_cons, List.map_nil]; rfl)) ?_
        refine (trace_at (HLW10.out.keep hHeld.2.2.2.out) HO.out inp AI cI (Ga.st : Int) HGG.out HF.out HIT.out HCF.out HCG.out HCI.out HWI.out HL3.out HS1.out).mono ?_
        rintro e_ w11 ⟨ec, vc, Gc, A11, c11, hc, rfl, hl11, hC11, hB_⟩
        rw [HS3.out] at hc
        injection hc with hc1 hc2 hc3
        subst hc1 hc2 hc3
        have HC1 := Aside0.mk (hC11.mono (Y := (fun k => k = g10)) (fun k hk => hk ▸ blk_lt HB10.out))
        have HL11 := Aside0.mk hl11
        have HB10 := Aside0.mk (blk_below HB10.out hB_)
        clear hC11 hl11
        refine ⟨_, rfl, ?_⟩
        refine hK.out _ _ ⟨pw_cell_below hB_ hHeld.1, pw_cell_below hB_ hHeld.2.1, pw_cell_below hB_ hHeld.2.2.1, ⟨below_then hHeld.2.2.2.out hHeld.2.2.2.out.size hB_⟩⟩ (fun hHeld => ?_)
        clear hK K
        refine norm_ (a' := ?_) ?_ ?_
        rotate_left
        · show Act.put _ (some 69) _ = _
          simp only [Act.put, List.setIfInBounds_toArray, List.set_cons_zero, List.set_cons_succ, i64_w, i32_w]
          rfl
        refine two_ (i := 10) (j := 11) (Ni := some 75) (Nj := some 9) #[true, true, true, true, true, true, true, true, true, true, true, false, true, false, false] #[true, true, true, true, true, true, true, true, true, true, false, true, true, false, false] rfl rfl rfl rfl (by kernel_rfl) (by decide) (by decide) (fun K hK => ?_) (fun K hK => ?_)
        · refine goes_ Try.func10 (by kernel_rfl) rfl #[.agg #[.slice AG GS.length cG, .slice (some A) F.length cF], .slice AI inp.length cI, .int .i64 (wrap64 ((Ga.st : Int) - 1))] (by rfl) rfl rfl (by first | rfl | (simp only [List.map_toArray, List.map_cons, List.map_nil]; done) | (simp only [List.map_toArray, List.map_cons, List.map_nil]; rfl)) ?_
          refine (trace_at (HLW10.out.keep hHeld.2.2.2.out) HO.out inp AI cI (wrap64 ((Ga.st : Int) - 1)) HGG.out HF.out HIT.out HCF.out HCG.out HCI.out HWI.out HL3.out HS2.out).mono ?_
          rintro e_ w12 ⟨ed, vd_, Gd_, A12, c12, hd, rfl, hl12, hC12, hB_⟩
          rw [HW1.out, HS4.out] at hd
          injection hd with hd1 hd2 hd3
          subst hd1 hd2 hd3
          have HC1 := Aside0.mk (HC1.out.step hB_ (Y := (fun k => k = g10)) (fun k hk => Or.inl hk))
          have HB10 := Aside0.mk (blk_below HB10.out hB_)
          clear hC12 hl12
          refine ⟨_, rfl, ?_⟩
          refine hK.out _ _ ⟨pw_cell_below hB_ hHeld.1, pw_cell_below hB_ hHeld.2.1, pw_cell_below hB_ hHeld.2.2.1, ⟨below_then hHeld.2.2.2.out hHeld.2.2.2.out.size hB_⟩⟩ (fun hHeld => ?_)
          clear hK K
          refine norm_ (a' := ?_) ?_ ?_
          rotate_left
          · show Act.put _ (some 75) _ = _
            simp only [Act.put, List.setIfInBounds_toArray, List.set_cons_zero, List.set_cons_succ, i64_w, i32_w]
            rfl
          refine one_ (i := 11) (N := some 9) #[true, true, true, true, true, true, true, true, true, true, true, true, true, false, false] rfl rfl (by kernel_rfl) (by decide) (fun K hK => ?_)
          refine box_step (by rfl) (N := 9) rfl (cs := #[.int .i64 0, .int .i32 0, .slice none 0 0, .int .i64 0, .int .i64 0]) (t := 32) (by first | (go_simp; done) | (go_simp; rfl)) ?_
          intro g9 hg_ w13 hb_ hB_
          have HC1 := Aside0.mk (HC1.out.step hB_ (Y := fun k => k = g9 ∨ k = g10) (fun k hk => hk.elim (fun h => .inr (Nat.le_of_eq (h.trans hg_).symm)) (fun h => .inl h)))
          have HNE : Aside0 (g9 ≠ g10) := ⟨fun e_ => by have h1_ := blk_lt HB10.out; omega⟩
          have HB10 := Aside0.mk (blk_below HB10.out hB_)
          have HB9 := Aside0.mk hb_
          have HG9 : Aside0 (w10.heap.size ≤ g9) := ⟨Nat.le_trans hHeld.2.2.2.out.size (Nat.le_of_eq hg_.symm)⟩
          clear hb_ hg_
          refine hK.out _ _ ⟨pw_cell_below hB_ hHeld.1, pw_cell_below hB_ hHeld.2.1, pw_cell_below hB_ hHeld.2.2.1, ⟨below_then hHeld.2.2.2.out hHeld.2.2.2.out.size hB_⟩⟩ (fun hHeld => ?_)
          clear hK K
          refine norm_ (a' := ?_) ?_ ?_
          rotate_left
          · show Act.put _ (some 9) _ = _
            simp only [Act.put, List.setIfInBounds_toArray, List.set_cons_zero, List.set_cons_succ, i64_w, i32_w]
            rfl
          refine norm_ (by kernel_rfl) (hfin ⟨A11, c11, vd, Gd, A12, c12, g9, g10⟩ _ ⟨hHeld.2.2.2, HC1, HL11, HB9, HB10, ⟨⟨HNE.out, HG9.out, HG10.out⟩⟩⟩)
        · refine box_step (by rfl) (N := 9) rfl (cs := #[.int .i64 0, .int .i32 0, .slice none 0 0, .int .i64 0, .int .i64 0]) (t := 32) (by first | (go_simp; done) | (go_simp; rfl)) ?_
          intro g9 hg_ w13 hb_ hB_
          have HC1 := Aside0.mk (HC1.out.step hB_ (Y := fun k => k = g9 ∨ k = g10) (fun k hk => hk.elim (fun h => .inr (Nat.le_of_eq (h.trans hg_).symm)) (fun h => .inl h)))
          have HNE : Aside0 (g9 ≠ g10) := ⟨fun e_ => by have h1_ := blk_lt HB10.out; omega⟩
          have HB10 := Aside0.mk (blk_below HB10.out hB_)
          have HB9 := Aside0.mk hb_
          have HG9 : Aside0 (w10.heap.size ≤ g9) := ⟨Nat.le_trans hHeld.2.2.2.out.size (Nat.le_of_eq hg_.symm)⟩
          clear hb_ hg_
          refine hK.out _ _ ⟨pw_cell_below hB_ hHeld.1, pw_cell_below hB_ hHeld.2.1, pw_cell_below hB_ hHeld.2.2.1, ⟨below_then hHeld.2.2.2.out hHeld.2.2.2.out.size hB_⟩⟩ (fun hHeld => ?_)
          clear hK K
          refine norm_ (a' := ?_) ?_ ?_
          rotate_left
          · show Act.put _ (some 9) _ = _
            simp only [Act.put, List.setIfInBounds_toArray, List.set_cons_zero, List.set_cons_succ, i64_w, i32_w]
            rfl
          refine one_ (i := 10) (N := some 75) #[true, true, true, true, true, true, true, true, true, true, true, true, true, false, false] rfl rfl (by kernel_rfl) (by decide) (fun K hK => ?_)
          refine goes_ Try.func10 (by kernel_rfl) rfl #[.agg #[.slice AG GS.length cG, .slice (some A) F.length cF], .slice AI inp.length cI, .int .i64 (wrap64 ((Ga.st : Int) - 1))] (by rfl) rfl rfl (by first | rfl | (simp only [List.map_toArray, List.map_cons, List.map_nil]; done) | (simp only [List.map_toArray, List.map_cons, List.map_nil]; rfl)) ?_
          refine (trace_at (HLW10.out.keep hHeld.2.2.2.out) HO.out inp AI cI (wrap64 ((Ga.st : Int) - 1)) HGG.out HF.out HIT.out HCF.out HCG.out HCI.out HWI.out HL3.out HS2.out).mono ?_
          rintro e_ w12 ⟨ed, vd_, Gd_, A12, c12, hd, rfl, hl12, hC12, hB_⟩
          rw [HW1.out, HS4.out] at hd
          injection hd with hd1 hd2 hd3
          subst hd1 hd2 hd3
          have HC1 := Aside0.mk (HC1.out.step hB_ (Y := (fun k => k = g9 ∨ k = g10)) (fun k hk => Or.inl hk))
          have HB9 := Aside0.mk (blk_below HB9.out hB_)
          have HB10 := Aside0.mk (blk_below HB10.out hB_)
          clear hC12 hl12
          refine ⟨_, rfl, ?_⟩
          refine hK.out _ _ ⟨pw_cell_below hB_ hHeld.1, pw_cell_below hB_ hHeld.2.1, pw_cell_below hB_ hHeld.2.2.1, ⟨below_then hHeld.2.2.2.out hHeld.2.2.2.out.size hB_⟩⟩ (fun hHeld => ?_)
          clear hK K
          refine norm_ (a' := ?_) ?_ ?_
          rotate_left
          · show Act.put _ (some 75) _ = _
            simp only [Act.put, List.setIfInBounds_toArray, List.set_cons_zero, List.set_cons_succ, i64_w, i32_w]
            rfl
          refine norm_ (by kernel_rfl) (hfin ⟨A11, c11, vd, Gd, A12, c12, g9, g10⟩ _ ⟨hHeld.2.2.2, HC1, HL11, HB9, HB10, ⟨⟨HNE.out, HG9.out, HG10.out⟩⟩⟩)
      · refine box_step (by rfl) (N := 9) rfl (cs := #[.int .i64 0, .int .i32 0, .slice none 0 0, .int .i64 0, .int .i64 0]) (t := 32) (by first | (go_simp; done) | (go_simp; rfl)) ?_
        intro g9 hg_ w13 hb_ hB_
        have HNE : Aside0 (g9 ≠ g10) := ⟨fun e_ => by have h1_ := blk_lt HB10.out; omega⟩
        have HB10 := Aside0.mk (blk_below HB10.out hB_)
        have HB9 := Aside0.mk hb_
        have HG9 : Aside0 (w10.heap.size ≤ g9) := ⟨Nat.le_trans hHeld.2.2.2.out.size (Nat.le_of_eq hg_.symm)⟩
        clear hb_ hg_
        refine hK.out _ _ ⟨pw_cell_below hB_ hHeld.1, pw_cell_below hB_ hHeld.2.1, pw_cell_below hB_ hHeld.2.2.1, ⟨below_then hHeld.2.2.2.out hHeld.2.2.2.out.size hB_⟩⟩ (fun hHeld => ?_)
        clear hK K
        refine norm_ (a' := ?_) ?_ ?_
        rotate_left
        · show Act.put _ (some 9) _ = _
          simp only [Act.put, List.setIfInBounds_toArray, List.set_cons_zero, List.set_cons_succ, i64_w, i32_w]
          rfl
        refine one_ (i := 4) (N := some 69) #[true, true, true, true, true, true, true, true, true, true, false, true, true, false, false] rfl rfl (by kernel_rfl) (by decide) (fun K hK => ?_)
        refine goes_ Try.func10 (by kernel_rfl) rfl #[.agg #[.slice AG GS.length cG, .slice (some A) F.length cF], .slice AI inp.length cI, .int .i64 (Ga.st : Int)] (by rfl) rfl rfl (by first | rfl | (simp only [List.map_toArray, List.map_cons, List.map_nil]; done) | (simp only [List.map_toArray, List.map_cons, List.map_nil]; rfl)) ?_
        refine (trace_at (HLW10.out.keep hHeld.2.2.2.out) HO.out inp AI cI (Ga.st : Int) HGG.out HF.out HIT.out HCF.out HCG.out HCI.out HWI.out HL3.out HS1.out).mono ?_
        rintro e_ w11 ⟨ec, vc, Gc, A11, c11, hc, rfl, hl11, hC11, hB_⟩
        rw [HS3.out] at hc
        injection hc with hc1 hc2 hc3
        subst hc1 hc2 hc3
        have HC1 := Aside0.mk (hC11.mono (Y := (fun k => k = g9 ∨ k = g10)) (fun k hk => hk.elim (fun h => h ▸ blk_lt HB9.out) (fun h => h ▸ blk_lt HB10.out)))
        have HL11 := Aside0.mk hl11
        have HB9 := Aside0.mk (blk_below HB9.out hB_)
        have HB10 := Aside0.mk (blk_below HB10.out hB_)
        clear hC11 hl11
        refine ⟨_, rfl, ?_⟩
        refine hK.out _ _ ⟨pw_cell_below hB_ hHeld.1, pw_cell_below hB_ hHeld.2.1, pw_cell_below hB_ hHeld.2.2.1, ⟨below_then hHeld.2.2.2.out hHeld.2.2.2.out.size hB_⟩⟩ (fun hHeld => ?_)
        clear hK K
        refine norm_ (a' := ?_) ?_ ?_
        rotate_left
        · show Act.put _ (some 69) _ = _
          simp only [Act.put, List.setIfInBounds_toArray, List.set_cons_zero, List.set_cons_succ, i64_w, i32_w]
          rfl
        refine one_ (i := 10) (N := some 75) #[true, true, true, true, true, true, true, true, true, true, true, true, true, false, false] rfl rfl (by kernel_rfl) (by decide) (fun K hK => ?_)
        refine goes_ Try.func10 (by kernel_rfl) rfl #[.agg #[.slice AG GS.length cG, .slice (some A) F.length cF], .slice AI inp.length cI, .int .i64 (wrap64 ((Ga.st : Int) - 1))] (by rfl) rfl rfl (by first | rfl | (simp only [List.map_toArray, List.map_cons, List.map_nil]; done) | (simp only [List.map_toArray, List.map_cons, List.map_nil]; rfl)) ?_
        refine (trace_at (HLW10.out.keep hHeld.2.2.2.out) HO.out inp AI cI (wrap64 ((Ga.st : Int) - 1)) HGG.out HF.out HIT.out HCF.out HCG.out HCI.out HWI.out HL3.out HS2.out).mono ?_
        rintro e_ w12 ⟨ed, vd_, Gd_, A12, c12, hd, rfl, hl12, hC12, hB_⟩
        rw [HW1.out, HS4.out] at hd
        injection hd with hd1 hd2 hd3
        subst hd1 hd2 hd3
        have HC1 := Aside0.mk (HC1.out.step hB_ (Y := (fun k => k = g9 ∨ k = g10)) (fun k hk => Or.inl hk))
        have HB9 := Aside0.mk (blk_below HB9.out hB_)
        have HB10 := Aside0.mk (blk_below HB10.out hB_)
        clear hC12 hl12
        refine ⟨_, rfl, ?_⟩
        refine hK.out _ _ ⟨pw_cell_below hB_ hHeld.1, pw_cell_below hB_ hHeld.2.1, pw_cell_below hB_ hHeld.2.2.1, ⟨below_then hHeld.2.2.2.out hHeld.2.2.2.out.size hB_⟩⟩ (fun hHeld => ?_)
        clear hK K
        refine norm_ (a' := ?_) ?_ ?_
        rotate_left
        · show Act.put _ (some 75) _ = _
          simp only [Act.put, List.setIfInBounds_toArray, List.set_cons_zero, List.set_cons_succ, i64_w, i32_w]
          rfl
        refine norm_ (by kernel_rfl) (hfin ⟨A11, c11, vd, Gd, A12, c12, g9, g10⟩ _ ⟨hHeld.2.2.2, HC1, HL11, HB9, HB10, ⟨⟨HNE.out, HG9.out, HG10.out⟩⟩⟩)
    intro s w14 ⟨HZ14, HC1, HL11, HB9, HB10, HNE⟩
    refine norm_ (a' := ?_) ?_ ?_
    rotate_left
    · simp only [putAll, List.foldl, Act.put, List.setIfInBounds_toArray, List.set_cons_zero, List.set_cons_succ, i64_w, i32_w]
      rfl
    refine last_ (i := 13) (N := none) #[true, true, true, true, true, true, true, true, true, true, true, true, true, true, false] rfl rfl (by kernel_rfl) (by decide) (fun K hK => ?_)
    rw [if_pos (by rfl)]
    refine put_step_ 32 (.tmp 9) (.tmp 69) rfl s.g1 (by rfl) 32 #[.int .i64 0, .int .i32 0, .slice none 0 0, .int .i64 0, .int .i64 0] #[.int .i64 ea, .int .i32 va, .slice s.A1 Ga.tr.length s.c1, .int .i64 (Ga.st : Int), .int .i64 (Ga.rd : Int)] (by rfl) HB9.out I32.out (by rfl) (by simp [Value.oneCell']) ?_
    intro w15 hr_ hB_ ho_
    have HR9 := Aside0.mk hr_
    have HR10 := Aside0.mk ((ho_ s.g2 (Ne.symm HNE.out.1)).trans HB10.out)
    have HO9 := Aside0.mk ho_
    have HZ15 := Aside0.mk (HZ14.out.trans (hB_ _ HNE.out.2.1))
    clear hr_ hB_ ho_
    refine hK.out _ _ ?_
    clear hK K
    refine last_ (i := 14) (N := none) #[true, true, true, true, true, true, true, true, true, true, true, true, true, true, true] rfl rfl (by kernel_rfl) (by decide) (fun K hK => ?_)
    rw [if_pos (by rfl)]
    refine put_step_ 32 (.tmp 10) (.tmp 75) rfl s.g2 (by rfl) 32 #[.int .i64 0, .int .i32 0, .slice none 0 0, .int .i64 0, .int .i64 0] #[.int .i64 5, .int .i32 s.v2, .slice s.A2 s.G2.tr.length s.c2, .int .i64 (s.G2.st : Int), .int .i64 (s.G2.rd : Int)] (by rfl) HR10.out I32.out (by rfl) (by simp [Value.oneCell']) ?_
    intro w16 hr_ hB_ ho_
    have HR10_ := Aside0.mk hr_
    have HR9_ := Aside0.mk ((ho_ s.g1 HNE.out.1).trans HR9.out)
    have HCF := Aside0.mk (HC1.out _ (fun k _ hn => (ho_ k (fun e => hn (.inr e))).trans (HO9.out k (fun e => hn (.inl e)))))
    have HZ16 := Aside0.mk (HZ15.out.trans (hB_ _ HNE.out.2.2))
    clear hr_ hB_ ho_
    refine hK.out _ _ ?_
    clear hK K
    refine done_ (by kernel_rfl) ?_
    have HXB16 := Aside0.mk (blk_below HXB10.out HZ16.out)
    have HBL16 := Aside0.mk (below_step HLW10.out.below HZ16.out)
    have c0 : w16.cell? ⟨s.g1, 0, none⟩ = some (.int .i64 ea) := (blk_cell HR9_.out 0).trans rfl
    have c1 : w16.cell? ⟨s.g1, 1, none⟩ = some (.int .i32 va) := (blk_cell HR9_.out 1).trans rfl
    have c2 : w16.cell? ⟨s.g1, 2, none⟩ = some (.slice s.A1 Ga.tr.length s.c1) := (blk_cell HR9_.out 2).trans rfl
    have c3 : w16.cell? ⟨s.g1, 3, none⟩ = some (.int .i64 (Ga.st : Int)) := (blk_cell HR9_.out 3).trans rfl
    have c4 : w16.cell? ⟨s.g1, 4, none⟩ = some (.int .i64 (Ga.rd : Int)) := (blk_cell HR9_.out 4).trans rfl
    have d0 : w16.cell? ⟨s.g2, 0, none⟩ = some (.int .i64 5) := (blk_cell HR10_.out 0).trans rfl
    have d1 : w16.cell? ⟨s.g2, 1, none⟩ = some (.int .i32 s.v2) := (blk_cell HR10_.out 1).trans rfl
    have d2 : w16.cell? ⟨s.g2, 2, none⟩ = some (.slice s.A2 s.G2.tr.length s.c2) := (blk_cell HR10_.out 2).trans rfl
    have d3 : w16.cell? ⟨s.g2, 3, none⟩ = some (.int .i64 (s.G2.st : Int)) := (blk_cell HR10_.out 3).trans rfl
    have d4 : w16.cell? ⟨s.g2, 4, none⟩ = some (.int .i64 (s.G2.rd : Int)) := (blk_cell HR10_.out 4).trans rfl
    have y0 : w16.cell? ⟨gy, 0, none⟩ = some (.int .i64 ea) := (blk_cell HXB16.out 0).trans rfl
    have y1 : w16.cell? ⟨gy, 1, none⟩ = some (.int .i32 va) := (blk_cell HXB16.out 1).trans rfl
    have y2 : w16.cell? ⟨gy, 2, none⟩ = some (.slice A8 Ga.tr.length c8) := (blk_cell HXB16.out 2).trans rfl
    have y3 : w16.cell? ⟨gy, 3, none⟩ = some (.int .i64 (Ga.st : Int)) := (blk_cell HXB16.out 3).trans rfl
    have y4 : w16.cell? ⟨gy, 4, none⟩ = some (.int .i64 (Ga.rd : Int)) := (blk_cell HXB16.out 4).trans rfl
    go_wp2_with (first
      | (go_at_call 12; (with_reducible refine (same_calls ea va s.A1 s.c1 Ga.tr (Ga.st : Int) (Ga.rd : Int) ea va A8 c8 Ga.tr (Ga.st : Int) (Ga.rd : Int) w16 HCF.out HL11.out (Kd.C_below HCB10.out HZ16.out) HLB.out HTR.out).mono ?_)
         rw [decide_eq_true (show ea = ea ∧ va = va ∧ (Ga.rd : Int) = (Ga.rd : Int) ∧ Ga.tr = Ga.tr from ⟨rfl, rfl, rfl, rfl⟩)]
         rintro e w17 ⟨rfl, hB17⟩
         have HBL17 := Aside0.mk (below_step HBL16.out hB17)
         have HR17 := Aside0.mk (blk_below HR10_.out hB17)
         have d0 : w17.cell? ⟨s.g2, 0, none⟩ = some (.int .i64 5) := (blk_cell HR17.out 0).trans rfl
         have d1 : w17.cell? ⟨s.g2, 1, none⟩ = some (.int .i32 s.v2) := (blk_cell HR17.out 1).trans rfl
         have d2 : w17.cell? ⟨s.g2, 2, none⟩ = some (.slice s.A2 s.G2.tr.length s.c2) := (blk_cell HR17.out 2).trans rfl
         have d3 : w17.cell? ⟨s.g2, 3, none⟩ = some (.int .i64 (s.G2.st : Int)) := (blk_cell HR17.out 3).trans rfl
         have d4 : w17.cell? ⟨s.g2, 4, none⟩ = some (.int .i64 (s.G2.rd : Int)) := (blk_cell HR17.out 4).trans rfl
         clear hB17)
      | (go_at_call 8; (with_reducible refine (lives_calls _).mono ?_)
         rintro e w18 ⟨rfl, hB18⟩
         have HBL18 := Aside0.mk (below_step HBL17.out hB18)
         clear hB18)
      | fail)
    go_ret
    exact ⟨rfl, HBL18.out⟩
end Go.Proofs.Ytabkinlpbefjgaa.L

