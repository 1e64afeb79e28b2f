/- Texts of this seat that a claim bears, put together by this session's own program shake.py: TrZk, TrZl. -/
import Derived.Test.YtabkinlpbefjgaaProg
import Derived.Below
import Derived.Deep.Draws
import Derived.Deep.AppendLies
import Derived.Maps.AppendAt
import Derived.OwnWalk
import Derived.Laws.BytesArg
import Derived.Laws.MakeOwn
import Derived.Laws.OwnMore
import Derived.Deep.OwnRows
import Derived.Tactics
import Derived.Lib.ConvBytes
import Derived.Laws.Slices
import Derived.WalkKit
import Derived.KernelRfl
import Derived.RowKit3
import Derived.Deep.LoopGhost
import Derived.Deep.QuietTactic
import Derived.BigQuiet
import Derived.WideLaws
import Derived.Deep.DeepCutAuto
import Derived.Deep.CutBlock
import Derived.Deep.RegionHeld3
import Derived.Laws.Rows
import Derived.Lib.AppendStr
import Derived.ArgAppend
import Derived.Laws.IdiomCopy
import Derived.OrdersHeld
import Derived.Laws.BitsLemmas
import Derived.RowKit
import Derived.Test.YtabkinlpbefjgaaKb0
import Derived.Test.YtabkinlpbefjgaaKb1
import Derived.Test.YtabkinlpbefjgaaKb5
import Derived.Test.YtabkinlpbefjgaaKb7
import Derived.Maps.Own
import Derived.Recover
import Derived.WalkSmall
import Derived.StillTailTactics
import Derived.Laws.Pointers
import Derived.Test.YtabkinlpbefjgaaKb18
import Derived.DataShut
import Derived.Deep.RegionLawGrows
import Derived.Deep.Upon
import Derived.Deep.MidRow
import Derived.Test.YtabkinlpbefjgaaKb6
import Derived.Test.YtabkinlpbefjgaaKb14
namespace Go.Proofs.Ytabkinlpbefjgaa.L
open Go.RowKit Go.Proofs.Ytabkinlpbefjgaa.X Go.Proofs.YtabkinlpbefjgaaW.PrintWords Go.Proofs.YtabkinlpbefjgaaW.PrintLast Go.Proofs.YtabkinlpbefjgaaW.PrintMore
attribute [local go_sem] max2_int min2_int max_two min_two max_three min_three max_four min_four   -- for this text's walks alone
set_option linter.unusedVariables false
set_option linter.unusedSimpArgs false
open Go.Proofs.Ytabkinlpbefjgaa.Pure
structure YesN (F : List S47) (k : Nat) : Prop where
  fn : ∀ (A3 : Option Addr) (c3 : Nat) (w : World), Kd.C k41 w A3 (fnOf F k).f3.length (fnOf F k).f3 → (fnOf F k).f3.length ≤ c3 →
    Calls Try.prog 22 #[.agg #[.string (fnOf F k).f0, .int .i64 (fnOf F k).f1, .int .i64 (fnOf F k).f2, .slice A3 (fnOf F k).f3.length c3]] w fun e w' => e = .returned (.bool true) ∧ Below w.heap.size w w'
  first : fnAt F (fnOf F k).f0 = k
  ins : ∀ b ∈ (fnOf F k).f3, ∀ x ∈ b.f0, x.f0 ≠ 5 ∧ x.f0 ≠ 6 ∧ (x.f0 = 7 → fnAt F x.f6 < F.length ∧ (fnOf F (fnAt F x.f6)).f1 = (x.f7.length : Int))
theorem fnat0 (AF : Option Addr) (cF : Nat) (F : List S47) (n : ByteArray) (w : World) (hF : Kd.C k47 w AF F.length F) (hcF : F.length ≤ cF) (hl : F.length ≤ 1000000) :
    Calls Try.prog 21 #[.agg #[.slice none 0 0, .slice AF F.length cF], .string n] w fun e w' => e = .returned (.int .i64 (posOf (fnAt F n) F.length)) ∧ Below w.heap.size w w' := fnat_calls none 0 [] AF cF F n w (Kd.C_nil k57 w) (Nat.le_refl 0) hF hcF hl
theorem glat0 (AF : Option Addr) (cF : Nat) (F : List S47) (n : ByteArray) (w : World) (hF : Kd.C k47 w AF F.length F) (hcF : F.length ≤ cF) :
    Calls Try.prog 20 #[.agg #[.slice none 0 0, .slice AF F.length cF], .string n] w fun e w' => e = .returned (.int .i64 (posOf (glAt [] n) ([] : List S57).length)) ∧ Below w.heap.size w w' := glat_calls none 0 [] AF cF F n w (Kd.C_nil k57 w) (Nat.le_refl 0) hF hcF (by decide)
theorem mem_getD {α : Type} {xs : List α} {k : Nat} {z x : α} (h : k < xs.length) (e : xs.getD k z = x) : x ∈ xs := by
  rw [List.getD_eq_getElem?_getD, List.getElem?_eq_getElem h] at e
  exact (show xs[k] = x from e) ▸ List.getElem_mem h
set_option maxHeartbeats 8000000 in
set_option maxRecDepth 100000 in
theorem may_yes (F : List S47) (AF : Option Addr) (cF : Nat) (w : World) (hF : Kd.C k47 w AF F.length F) (hcF : F.length ≤ cF) (hFl : F.length ≤ 1000000) (hmain : fnAt F mainB < F.length) (hm0 : (fnOf F (fnAt F mainB)).f1 = 0) (hk : ∀ k, k < F.length → YesN F k) :
    Calls Try.prog 15 #[.agg #[.slice none 0 0, .slice AF F.length cF]] w fun e w' => e = .returned (.bool true) ∧ Below w.heap.size w w' := by
  have HK_ := Aside0.mk hk
  have HM0 := Aside0.mk hm0
  have HMN := Aside0.mk hmain
  clear hk hm0 hmain
  have HF := Aside0.mk hF
  have HCF := Aside0.mk hcF
  have HFL := Aside0.mk hFl
  clear hF hcF hFl
  go_enter Try.func15, Try.ntmps15
  go_wp2
  have hb1 : Below w.heap.size w (w.alloc (.cells #[.slice none 0 0, .slice AF F.length cF] 25)) := Below.alloc (Below.refl _ _) (Nat.le_refl _) _
  have hx1 := blk_new w (.cells #[.slice none 0 0, .slice AF F.length cF] 25)
  generalize w.alloc (.cells #[.slice none 0 0, .slice AF F.length cF] 25) = w1 at hb1 hx1 ⊢
  have HB1 := Aside0.mk hb1
  have HM1 := Aside0.mk hx1
  clear hb1 hx1
  go_loopg [22] (0) (fun kq v wr => v = .int .i64 0 ∧ Aside0 (Below w.heap.size w wr) ∧ Aside0 (wr.heap[w.heap.size]? = some (.cells #[.slice none 0 0, .slice AF F.length cF] 25 (0, 0))))
  case atStart => exact ⟨rfl, HB1, HM1⟩
  case round =>
      obtain ⟨rfl, HBL, HML⟩ := hrel
      have m0 := (blk_cell HML.out 0).trans rfl
      have m1 := (blk_cell HML.out 1).trans rfl
      go_wp2_with (first
    | (go_at_call 21; (with_reducible refine (fnat0 AF cF F (⟨#[109, 97, 105, 110]⟩ : ByteArray) _ (Kd.C_below HF.out HBL.out) HCF.out HFL.out).mono ?_)
       intro e w7 hc7
       have hm : fnAt F mainB < F.length := HMN.out
       have hc8 : e = .returned (.int .i64 ((fnAt F mainB : Nat) : Int)) ∧ Below wr.heap.size wr w7 := by rw [← posOf_lt hm]; exact hc7
       obtain ⟨rfl, hB_⟩ := hc8
       clear hc7
       have HB7 := Aside0.mk (below_step HBL.out hB_)
       have hm_ := blk_below HML.out hB_
       have HM7 := Aside0.mk hm_
       have m0 := (blk_cell hm_ 0).trans rfl
       have m1 := (blk_cell hm_ 1).trans rfl
       obtain ⟨ad, A3, c3, hA, q0, q1, q2, q3, ql, qi⟩ := at_T47 HF.out (fnAt F mainB : Int) (by omega) (by omega)
       rw [Int.toNat_natCast, rd47] at q1
       replace q1 := carry HB7.out q1
       rw [HM0.out] at q1
       have HMN := Aside0.mk hm
       subst hA
       clear q0 q2 q3 ql qi
       clear hm_ hB_)
    | fail)
      clear q1 hm
      go_loopg [75] (F.length) (fun kq v wr => ∃ k : Nat, Aside0 (k + kq = F.length) ∧ v = .int .i64 (k : Int) ∧ Aside0 (Below w.heap.size w wr) ∧ Aside0 (wr.heap[w.heap.size]? = some (.cells #[.slice none 0 0, .slice (some ad) F.length cF] 25 (0, 0))))
      case atStart => exact ⟨0, ⟨by omega⟩, rfl, HB7, HM7⟩
      case round =>
        obtain ⟨k, HKF, rfl, HBF, HMF⟩ := hrel
        by_cases hlf : k < F.length
        · cases gk with
          | zero => exact absurd HKF.out (by omega)
          | succ q3 =>
            obtain ⟨ad2, A3, c3, hA, z0, z1, z2, z3, hl3, hi3⟩ := at_T47 HF.out (k : Int) (by omega) (by omega)
            rw [rd47] at z0 z1 z2 z3 hl3 hi3
            rw [Int.toNat_natCast] at z0 z1 z2 z3
            obtain ⟨f, hz⟩ : ∃ f, fnOf F k = f := ⟨_, rfl⟩
            rw [hz] at z0 z1 z2 z3 hl3 hi3
            obtain rfl : ad = ad2 := by injection hA
            replace z0 := carry HBF.out z0
            replace z1 := carry HBF.out z1
            replace z2 := carry HBF.out z2
            replace z3 := carry HBF.out z3
            have hyn := HK_.out k hlf
            have hfn := hyn.fn
            have hfi := hyn.first
            have hin := hyn.ins
            simp only [hz] at hfn hfi hin
            have HFN := Aside0.mk hfn
            have HIN := Aside0.mk hin
            have HP1 := Aside0.mk (show posOf (fnAt F f.f0) F.length = (k : Int) by rw [hfi]; exact posOf_lt hlf)
            have HP2 := Aside0.mk (show posOf (glAt [] f.f0) ([] : List S57).length = -1 from posOf_ge (Nat.zero_le _))
            clear hyn hfn hfi hin
            have HL3 := Aside0.mk hl3
            have HI3 := Aside0.mk hi3
            have HM3 := Aside0.mk (Kd.C_max hi3)
            clear hz hl3 hi3 hA
            go_wp2_with (first
    | ((with_reducible refine gate_dst (N := 8) rfl ?_)
       refine box_event rfl (N := 8) rfl (cs := #[.string (⟨#[]⟩ : ByteArray), .int .i64 0, .int .i64 0, .slice none 0 0]) (t := 47) ?hr ?_
       case hr => first | (go_simp; done) | (go_simp; rfl)
       intro gx hg w1x hbox hb; have hz0 : w1x.cell? ⟨gx, 0, none⟩ = some (.string (⟨#[]⟩ : ByteArray)) := (blk_cell hbox 0).trans rfl; have hf0 := blk_frozen hbox 0; have hz1 : w1x.cell? ⟨gx, 1, none⟩ = some (.int .i64 0) := (blk_cell hbox 1).trans rfl; have hf1 := blk_frozen hbox 1; have hz2 : w1x.cell? ⟨gx, 2, none⟩ = some (.int .i64 0) := (blk_cell hbox 2).trans rfl; have hf2 := blk_frozen hbox 2; have hz3 : w1x.cell? ⟨gx, 3, none⟩ = some (.slice none 0 0) := (blk_cell hbox 3).trans rfl; have hf3 := blk_frozen hbox 3
       have HG := Aside0.mk (Nat.le_of_eq hg.symm)
       clear hg)
    | ((with_reducible refine gate_store (t := 47) (p := 8) rfl ?_)
       refine store_event (w1 := ((((w1x.setCell ⟨gx, 0, none⟩ (.string f.f0)).setCell ⟨gx, 1, none⟩ (.int .i64 f.f1)).setCell ⟨gx, 2, none⟩ (.int .i64 f.f2)).setCell ⟨gx, 3, none⟩ (.slice A3 f.f3.length c3))) rfl (t := 47) (p := 8) rfl rfl ?hr ?_
       case hr => first | (go_simp; done) | (go_simp; rfl)
       intro wx hw
       have hcb := hw ▸ fill4 (g := gx) hbox
       have hbl := hw ▸ fillB4 (g := gx) hb HG.out
       have HBX := Aside0.mk (below_step HBF.out hbl)
       have hmx := blk_below (g := w.heap.size) HMF.out hbl
       have HMX := Aside0.mk hmx
       have HOX := Aside0.mk hcb
       have m0 := (blk_cell hmx 0).trans rfl
       have m1 := (blk_cell hmx 1).trans rfl
       have y0 := (blk_cell hcb 0).trans rfl
       have y1 := (blk_cell hcb 1).trans rfl
       have y2 := (blk_cell hcb 2).trans rfl
       have y3 := (blk_cell hcb 3).trans rfl
       clear hmx hcb hbl hw hbox hb hz0 hf0 hz1 hf1 hz2 hf2 hz3 hf3)
    | (go_at_call 22; (with_reducible refine (HFN.out A3 c3 _ (Kd.C_below HI3.out HBX.out) HL3.out).mono ?_)
       intro e w5 hc7
       obtain ⟨rfl, hB_⟩ := hc7
       have HB5 := Aside0.mk (below_step HBX.out hB_)
       have hm_ := blk_below HMX.out hB_
       have HM5 := Aside0.mk hm_
       have m0 := (blk_cell hm_ 0).trans rfl
       have m1 := (blk_cell hm_ 1).trans rfl
       have ho_ := blk_below HOX.out hB_
       have HO5 := Aside0.mk ho_
       have y0 := (blk_cell ho_ 0).trans rfl
       have y3 := (blk_cell ho_ 3).trans rfl
       clear ho_
       clear hm_ hB_
       skip)
    | (go_at_call 21; (with_reducible refine (fnat0 (some ad) cF F f.f0 _ (Kd.C_below HF.out HB5.out) HCF.out HFL.out).mono ?_)
       intro e w6 hc7
       rw [HP1.out] at hc7
       obtain ⟨rfl, hB_⟩ := hc7
       have HB6 := Aside0.mk (below_step HB5.out hB_)
       have hm_ := blk_below HM5.out hB_
       have HM6 := Aside0.mk hm_
       have m0 := (blk_cell hm_ 0).trans rfl
       have m1 := (blk_cell hm_ 1).trans rfl
       have ho_ := blk_below HO5.out hB_
       have HO6 := Aside0.mk ho_
       have y0 := (blk_cell ho_ 0).trans rfl
       have y3 := (blk_cell ho_ 3).trans rfl
       clear ho_
       clear hm_ hB_
       skip)
    | (go_at_call 20; (with_reducible refine (glat0 (some ad) cF F f.f0 _ (Kd.C_below HF.out HB6.out) HCF.out).mono ?_)
       intro e w8 hc7
       rw [HP2.out] at hc7
       obtain ⟨rfl, hB_⟩ := hc7
       have HB8 := Aside0.mk (below_step HB6.out hB_)
       have hm_ := blk_below HM6.out hB_
       have HM8 := Aside0.mk hm_
       have m0 := (blk_cell hm_ 0).trans rfl
       have m1 := (blk_cell hm_ 1).trans rfl
       have ho_ := blk_below HO6.out hB_
       have HO8 := Aside0.mk ho_
       have y0 := (blk_cell ho_ 0).trans rfl
       have y3 := (blk_cell ho_ 3).trans rfl
       clear ho_
       clear hm_ hB_
       skip)
    | fail)
            go_loopg [101] (f.f3.length) (fun kq v wb => ∃ j : Nat, Aside0 (j + kq = f.f3.length) ∧ v = .int .i64 (j : Int) ∧ Aside0 (Below w.heap.size w wb) ∧ Aside0 (wb.heap[w.heap.size]? = some (.cells #[.slice none 0 0, .slice (some ad) F.length cF] 25 (0, 0))))
            case atStart => exact ⟨0, ⟨by omega⟩, rfl, HB8, HM8⟩
            case round =>
              obtain ⟨j, HJ, rfl, HBB, HMB⟩ := hrel
              by_cases hlj : j < f.f3.length
              · cases gk with
                | zero => exact absurd HJ.out (by omega)
                | succ q4 =>
                  obtain ⟨adb, A0, c0, hA, z0, z1, z2, z3, z4, hl0, hi0⟩ := at_T41 HI3.out (j : Int) (by omega) (by omega)
                  rw [Int.toNat_natCast] at z0 z1 z2 z3 z4
                  obtain ⟨b, hz⟩ : ∃ b, rd_T41 f.f3 (j : Int) = b := ⟨_, rfl⟩
                  rw [hz] at z0 z1 z2 z3 z4 hl0 hi0
                  have hge : f.f3.getD j z41 = b := by rw [← hz]; unfold rd_T41; rw [Int.toNat_natCast]
                  replace z0 := carry HBB.out z0
                  replace z1 := carry HBB.out z1
                  replace z2 := carry HBB.out z2
                  replace z3 := carry HBB.out z3
                  replace z4 := carry HBB.out z4
                  have HBE := Aside0.mk hge
                  have HL0 := Aside0.mk hl0
                  have HI0 := Aside0.mk hi0
                  have HMC := Aside0.mk (Kd.C_max hi0)
                  subst hA
                  clear hz hge hl0 hi0
                  go_wp2_with (first
    | ((with_reducible refine gate_dst (N := 10) rfl ?_)
       refine box_event rfl (N := 10) rfl (cs := #[.slice none 0 0, .int .i64 0, .int .i64 0, .int .i64 0, .int .i64 0]) (t := 41) ?hr ?_
       case hr => first | (go_simp; done) | (go_simp; rfl)
       intro gx hg w1x hbox hb; have hz0 : w1x.cell? ⟨gx, 0, none⟩ = some (.slice none 0 0) := (blk_cell hbox 0).trans rfl; have hf0 := blk_frozen hbox 0; have hz1 : w1x.cell? ⟨gx, 1, none⟩ = some (.int .i64 0) := (blk_cell hbox 1).trans rfl; have hf1 := blk_frozen hbox 1; have hz2 : w1x.cell? ⟨gx, 2, none⟩ = some (.int .i64 0) := (blk_cell hbox 2).trans rfl; have hf2 := blk_frozen hbox 2; have hz3 : w1x.cell? ⟨gx, 3, none⟩ = some (.int .i64 0) := (blk_cell hbox 3).trans rfl; have hf3 := blk_frozen hbox 3; have hz4 : w1x.cell? ⟨gx, 4, none⟩ = some (.int .i64 0) := (blk_cell hbox 4).trans rfl; have hf4 := blk_frozen hbox 4
       have HG := Aside0.mk (Nat.le_of_eq hg.symm)
       clear hg)
    | ((with_reducible refine gate_store (t := 41) (p := 10) rfl ?_)
       refine store_event (w1 := (((((w1x.setCell ⟨gx, 0, none⟩ (.slice A0 b.f0.length c0)).setCell ⟨gx, 1, none⟩ (.int .i64 b.f1)).setCell ⟨gx, 2, none⟩ (.int .i64 b.f2)).setCell ⟨gx, 3, none⟩ (.int .i64 b.f3)).setCell ⟨gx, 4, none⟩ (.int .i64 b.f4))) rfl (t := 41) (p := 10) rfl rfl ?hr ?_
       case hr => first | (go_simp; done) | (go_simp; rfl)
       intro wx hw
       have hcb := hw ▸ fill5 (g := gx) hbox
       have hbl := hw ▸ fillB5 (g := gx) hb HG.out
       have HBX := Aside0.mk (below_step HBB.out hbl)
       have hmx := blk_below (g := w.heap.size) HMB.out hbl
       have HMX := Aside0.mk hmx
       have HOX := Aside0.mk hcb
       have m0 := (blk_cell hmx 0).trans rfl
       have m1 := (blk_cell hmx 1).trans rfl
       have y0 := (blk_cell hcb 0).trans rfl
       have y1 := (blk_cell hcb 1).trans rfl
       have y2 := (blk_cell hcb 2).trans rfl
       have y3 := (blk_cell hcb 3).trans rfl
       have y4 := (blk_cell hcb 4).trans rfl
       clear hmx hcb hbl hw hbox hb hz0 hf0 hz1 hf1 hz2 hf2 hz3 hf3 hz4 hf4)
    | fail)
                  go_loopg [108] (b.f0.length) (fun kq v wi => ∃ i : Nat, Aside0 (i + kq = b.f0.length) ∧ v = .int .i64 (i : Int) ∧ Aside0 (Below w.heap.size w wi) ∧ Aside0 (wi.heap[w.heap.size]? = some (.cells #[.slice none 0 0, .slice (some ad) F.length cF] 25 (0, 0))))
                  case atStart => exact ⟨0, ⟨by omega⟩, rfl, HBX, HMX⟩
                  case round =>
                    obtain ⟨i, HI, rfl, HBI, HMI⟩ := hrel
                    by_cases hli : i < b.f0.length
                    · cases gk with
                      | zero => exact absurd HI.out (by omega)
                      | succ q5 =>
                        obtain ⟨adx, A7, c7, hA, x0, x1, x2, x3, x4, x5, x6, x7, hl7, hi7⟩ := at_T44 HI0.out (i : Int) (by omega) (by omega)
                        rw [Int.toNat_natCast] at x0 x1 x2 x3 x4 x5 x6 x7
                        obtain ⟨x, hz⟩ : ∃ x, rd_T44 b.f0 (i : Int) = x := ⟨_, rfl⟩
                        rw [hz] at x0 x1 x2 x3 x4 x5 x6 x7 hl7 hi7
                        have hge : b.f0.getD i z44 = x := by rw [← hz]; unfold rd_T44; rw [Int.toNat_natCast]
                        replace x0 := carry HBI.out x0
                        replace x1 := carry HBI.out x1
                        replace x2 := carry HBI.out x2
                        replace x3 := carry HBI.out x3
                        replace x4 := carry HBI.out x4
                        replace x5 := carry HBI.out x5
                        replace x6 := carry HBI.out x6
                        replace x7 := carry HBI.out x7
                        have HXE := Aside0.mk hge
                        have HL7 := Aside0.mk hl7
                        subst hA
                        clear hz hge hl7 hi7
                        have hx := HIN.out b (mem_getD hlj HBE.out) x (mem_getD hli HXE.out)
                        by_cases hk : x.f0 = 7
                        · have HX7 := Aside0.mk (hx.2.2 hk)
                          have r5_ : (x.f0 == 5) = false := by rw [beq_eq_false_iff_ne]; exact hx.1
                          have r6_ : (x.f0 == 6) = false := by rw [beq_eq_false_iff_ne]; exact hx.2.1
                          have r7_ : (x.f0 == 7) = true := by rw [hk]; rfl
                          clear hx
                          clear hk
                          go_wp2_with (first
    | ((with_reducible refine gate_dst (N := 12) rfl ?_)
       refine box_event rfl (N := 12) rfl (cs := #[.int .i64 0, .int .i64 0, .int .i64 0, .int .i64 0, .int .i64 0, .int .i32 0, .string (⟨#[]⟩ : ByteArray), .slice none 0 0]) (t := 44) ?hr ?_
       case hr => first | (go_simp; done) | (go_simp; rfl)
       intro gx hg w1x hbox hb; have hz0 : w1x.cell? ⟨gx, 0, none⟩ = some (.int .i64 0) := (blk_cell hbox 0).trans rfl; have hf0 := blk_frozen hbox 0; have hz1 : w1x.cell? ⟨gx, 1, none⟩ = some (.int .i64 0) := (blk_cell hbox 1).trans rfl; have hf1 := blk_frozen hbox 1; have hz2 : w1x.cell? ⟨gx, 2, none⟩ = some (.int .i64 0) := (blk_cell hbox 2).trans rfl; have hf2 := blk_frozen hbox 2; have hz3 : w1x.cell? ⟨gx, 3, none⟩ = some (.int .i64 0) := (blk_cell hbox 3).trans rfl; have hf3 := blk_frozen hbox 3; have hz4 : w1x.cell? ⟨gx, 4, none⟩ = some (.int .i64 0) := (blk_cell hbox 4).trans rfl; have hf4 := blk_frozen hbox 4; have hz5 : w1x.cell? ⟨gx, 5, none⟩ = some (.int .i32 0) := (blk_cell hbox 5).trans rfl; have hf5 := blk_frozen hbox 5; have hz6 : w1x.cell? ⟨gx, 6, none⟩ = some (.string (⟨#[]⟩ : ByteArray)) := (blk_cell hbox 6).trans rfl; have hf6 := blk_frozen hbox 6; have hz7 : w1x.cell? ⟨gx, 7, none⟩ = some (.slice none 0 0) := (blk_cell hbox 7).trans rfl; have hf7 := blk_frozen hbox 7
       have HG := Aside0.mk (Nat.le_of_eq hg.symm)
       clear hg)
    | ((with_reducible refine gate_store (t := 44) (p := 12) rfl ?_)
       refine store_event (w1 := ((((((((w1x.setCell ⟨gx, 0, none⟩ (.int .i64 x.f0)).setCell ⟨gx, 1, none⟩ (.int .i64 x.f1)).setCell ⟨gx, 2, none⟩ (.int .i64 x.f2)).setCell ⟨gx, 3, none⟩ (.int .i64 x.f3)).setCell ⟨gx, 4, none⟩ (.int .i64 x.f4)).setCell ⟨gx, 5, none⟩ (.int .i32 x.f5)).setCell ⟨gx, 6, none⟩ (.string x.f6)).setCell ⟨gx, 7, none⟩ (.slice A7 x.f7.length c7))) rfl (t := 44) (p := 12) rfl rfl ?hr ?_
       case hr => first | (go_simp; done) | (go_simp; rfl)
       intro wx hw
       have hcb := hw ▸ fill8 (g := gx) hbox
       have hbl := hw ▸ fillB8 (g := gx) hb HG.out
       have HBX := Aside0.mk (below_step HBI.out hbl)
       have hmx := blk_below (g := w.heap.size) HMI.out hbl
       have HMX := Aside0.mk hmx
       have HOX := Aside0.mk hcb
       have m0 := (blk_cell hmx 0).trans rfl
       have m1 := (blk_cell hmx 1).trans rfl
       have y0 := (blk_cell hcb 0).trans rfl
       have y1 := (blk_cell hcb 1).trans rfl
       have y2 := (blk_cell hcb 2).trans rfl
       have y3 := (blk_cell hcb 3).trans rfl
       have y4 := (blk_cell hcb 4).trans rfl
       have y5 := (blk_cell hcb 5).trans rfl
       have y6 := (blk_cell hcb 6).trans rfl
       have y7 := (blk_cell hcb 7).trans rfl
       clear hmx hcb hbl hw hbox hb hz0 hf0 hz1 hf1 hz2 hf2 hz3 hf3 hz4 hf4 hz5 hf5 hz6 hf6 hz7 hf7)
    | (go_at_call 21; (with_reducible refine (fnat0 (some ad) cF F x.f6 _ (Kd.C_below HF.out HBX.out) HCF.out HFL.out).mono ?_)
       intro e w9 hc7
       have hm : fnAt F x.f6 < F.length := HX7.out.1
       have hc8 : e = .returned (.int .i64 ((fnAt F x.f6 : Nat) : Int)) ∧ Below wx.heap.size wx w9 := by rw [← posOf_lt hm]; exact hc7
       obtain ⟨rfl, hB_⟩ := hc8
       clear hc7
       have HB9 := Aside0.mk (below_step HBX.out hB_)
       have hm_ := blk_below HMX.out hB_
       have HM9 := Aside0.mk hm_
       have m0 := (blk_cell hm_ 0).trans rfl
       have m1 := (blk_cell hm_ 1).trans rfl
       obtain ⟨ad3, A9, c9, hA, q0, q1, q2, q3_, ql, qi⟩ := at_T47 HF.out (fnAt F x.f6 : Int) (by omega) (by omega)
       rw [Int.toNat_natCast, rd47] at q1
       replace q1 := carry HB9.out q1
       rw [HX7.out.2] at q1
       have ho_ := blk_below HOX.out hB_
       have y7 := (blk_cell ho_ 7).trans rfl
       have HMN9 := Aside0.mk hm
       obtain rfl : ad = ad3 := by injection hA
       clear hA q0 q2 q3_ ql qi ho_
       clear hm_ hB_)
    | fail)
                          all_goals (repeat (go_quiet (fail); try go_wp2))
                          go_roundg q5
                          case measure => omega
                          case rel => exact ⟨i + 1, ⟨by have := HI.out; omega⟩, by first | exact nxt hli HMC.out | rfl, ⟨pw_below_drewN HB9.out _⟩, ⟨blk_drewN HM9.out _⟩⟩
                        · have r5_ : (x.f0 == 5) = false := by rw [beq_eq_false_iff_ne]; exact hx.1
                          have r6_ : (x.f0 == 6) = false := by rw [beq_eq_false_iff_ne]; exact hx.2.1
                          have r7_ : (x.f0 == 7) = false := by rw [beq_eq_false_iff_ne]; exact hk
                          clear hx
                          clear hk
                          go_wp2_with (first
    | ((with_reducible refine gate_dst (N := 12) rfl ?_)
       refine box_event rfl (N := 12) rfl (cs := #[.int .i64 0, .int .i64 0, .int .i64 0, .int .i64 0, .int .i64 0, .int .i32 0, .string (⟨#[]⟩ : ByteArray), .slice none 0 0]) (t := 44) ?hr ?_
       case hr => first | (go_simp; done) | (go_simp; rfl)
       intro gx hg w1x hbox hb; have hz0 : w1x.cell? ⟨gx, 0, none⟩ = some (.int .i64 0) := (blk_cell hbox 0).trans rfl; have hf0 := blk_frozen hbox 0; have hz1 : w1x.cell? ⟨gx, 1, none⟩ = some (.int .i64 0) := (blk_cell hbox 1).trans rfl; have hf1 := blk_frozen hbox 1; have hz2 : w1x.cell? ⟨gx, 2, none⟩ = some (.int .i64 0) := (blk_cell hbox 2).trans rfl; have hf2 := blk_frozen hbox 2; have hz3 : w1x.cell? ⟨gx, 3, none⟩ = some (.int .i64 0) := (blk_cell hbox 3).trans rfl; have hf3 := blk_frozen hbox 3; have hz4 : w1x.cell? ⟨gx, 4, none⟩ = some (.int .i64 0) := (blk_cell hbox 4).trans rfl; have hf4 := blk_frozen hbox 4; have hz5 : w1x.cell? ⟨gx, 5, none⟩ = some (.int .i32 0) := (blk_cell hbox 5).trans rfl; have hf5 := blk_frozen hbox 5; have hz6 : w1x.cell? ⟨gx, 6, none⟩ = some (.string (⟨#[]⟩ : ByteArray)) := (blk_cell hbox 6).trans rfl; have hf6 := blk_frozen hbox 6; have hz7 : w1x.cell? ⟨gx, 7, none⟩ = some (.slice none 0 0) := (blk_cell hbox 7).trans rfl; have hf7 := blk_frozen hbox 7
       have HG := Aside0.mk (Nat.le_of_eq hg.symm)
       clear hg)
    | ((with_reducible refine gate_store (t := 44) (p := 12) rfl ?_)
       refine store_event (w1 := ((((((((w1x.setCell ⟨gx, 0, none⟩ (.int .i64 x.f0)).setCell ⟨gx, 1, none⟩ (.int .i64 x.f1)).setCell ⟨gx, 2, none⟩ (.int .i64 x.f2)).setCell ⟨gx, 3, none⟩ (.int .i64 x.f3)).setCell ⟨gx, 4, none⟩ (.int .i64 x.f4)).setCell ⟨gx, 5, none⟩ (.int .i32 x.f5)).setCell ⟨gx, 6, none⟩ (.string x.f6)).setCell ⟨gx, 7, none⟩ (.slice A7 x.f7.length c7))) rfl (t := 44) (p := 12) rfl rfl ?hr ?_
       case hr => first | (go_simp; done) | (go_simp; rfl)
       intro wx hw
       have hcb := hw ▸ fill8 (g := gx) hbox
       have hbl := hw ▸ fillB8 (g := gx) hb HG.out
       have HBX := Aside0.mk (below_step HBI.out hbl)
       have hmx := blk_below (g := w.heap.size) HMI.out hbl
       have HMX := Aside0.mk hmx
       have HOX := Aside0.mk hcb
       have m0 := (blk_cell hmx 0).trans rfl
       have m1 := (blk_cell hmx 1).trans rfl
       have y0 := (blk_cell hcb 0).trans rfl
       have y1 := (blk_cell hcb 1).trans rfl
       have y2 := (blk_cell hcb 2).trans rfl
       have y3 := (blk_cell hcb 3).trans rfl
       have y4 := (blk_cell hcb 4).trans rfl
       have y5 := (blk_cell hcb 5).trans rfl
       have y6 := (blk_cell hcb 6).trans rfl
       have y7 := (blk_cell hcb 7).trans rfl
       clear hmx hcb hbl hw hbox hb hz0 hf0 hz1 hf1 hz2 hf2 hz3 hf3 hz4 hf4 hz5 hf5 hz6 hf6 hz7 hf7)
    | fail)
                          go_roundg q5
                          case measure => omega
                          case rel => exact ⟨i + 1, ⟨by have := HI.out; omega⟩, by first | exact nxt hli HMC.out | rfl, HBX, HMX⟩
                    · obtain rfl : i = b.f0.length := by have := HI.out; omega
                      go_wp2
                      go_roundg q4
                      case measure => omega
                      case rel => exact ⟨j + 1, ⟨by have := HJ.out; omega⟩, by first | exact nxt hlj HM3.out | rfl, HBI, HMI⟩
              · obtain rfl : j = f.f3.length := by have := HJ.out; omega
                go_wp2
                go_roundg q3
                case measure => omega
                case rel =>
                  exact ⟨k + 1, ⟨by have := HKF.out; omega⟩, by first | exact nxt hlf (by have := HFL.out; omega) | rfl, HBB, HMB⟩
        · obtain rfl : k = F.length := by have := HKF.out; omega
          go_wp2
          go_ret
          exact ⟨rfl, HBF.out⟩
end Go.Proofs.Ytabkinlpbefjgaa.L

namespace Go.Proofs.Ytabkinlpbefjgaa.L
open Go.RowKit Go.Proofs.Ytabkinlpbefjgaa.X Go.Proofs.YtabkinlpbefjgaaW.PrintWords Go.Proofs.YtabkinlpbefjgaaW.PrintLast Go.Proofs.YtabkinlpbefjgaaW.PrintMore
attribute [local go_sem] max2_int min2_int max_two min_two max_three min_three max_four min_four   -- for this text's walks alone
set_option linter.unusedVariables false
set_option linter.unusedSimpArgs false
open Go.Proofs.Ytabkinlpbefjgaa.Pure
theorem may_fL (A : Option Addr) (c : Nat) (w : World) (hF : Kd.C k47 w A [fL].length [fL]) (hc : 1 ≤ c) :
    Calls Try.prog 15 #[.agg #[.slice none 0 0, .slice A 1 c]] w fun e w' => e = .returned (.bool true) ∧ Below w.heap.size w w' := by
  refine may_yes [fL] A c w hF hc (by decide) (by rw [fnAt_fL]; decide) (by rw [fnAt_fL]; rfl) (fun k hk => ?_)
  obtain rfl : k = 0 := by simpa using hk
  refine ⟨fun A3 c3 w h3 hc3 => ?_, fnAt_fL, fun b hb x hx => ?_⟩
  · refine mayfn_yes fL A3 c3 w h3 hc3 isname_main (by decide) (by decide) (by decide) (by decide) (by decide) (fun b hb => ?_)
    obtain rfl : b = bL := by simpa [fL] using hb
    refine ⟨fun x hx => ?_, .inl ⟨rfl, rfl, rfl⟩, by decide⟩
    have hx2 : x = x8 ∨ x = x9 := by simpa [bL] using hx
    rcases hx2 with rfl | rfl
    · exact fun A7 c7 w _ _ => yes_x8 A7 c7 w
    · exact fun A7 c7 w _ _ => yes_x9 A7 c7 w
  · have hb2 : b = bL := by
      have : b ∈ [bL] := hb
      simpa using this
    subst hb2
    have hx2 : x = x8 ∨ x = x9 := by simpa [bL] using hx
    rcases hx2 with rfl | rfl
    · exact ⟨by decide, by decide, fun h => absurd h (by decide)⟩
    · exact ⟨by decide, by decide, fun h => absurd h (by decide)⟩
theorem trace_fL (A B : Addr) (w : World) (hF : Kd.C k47 w (some A) [fL].length [fL]) (hI : (Kd.int .i32).C w (some B) 1 [5]) :
    Calls Try.prog 10 #[.agg #[.slice none 0 0, .slice (some A) 1 1], .slice (some B) 1 1, .int .i64 100] w fun e w' => ∃ D c, e = .returned (.agg #[.int .i64 1, .int .i32 5, .slice D 1 c, .int .i64 3, .int .i64 1]) ∧ (Kd.int .i32).C w' D 1 [5] ∧ Below w.heap.size w w' := by
  refine (trace_calls [fL] [] [5] 100 w A 1 none 0 (some B) 1 hF (Kd.C_nil k57 w) hI (by decide) (by decide) (by decide) ok_fL ?_ ?_ ?_ (by decide) (by decide)).mono ?_
  · intro v hv
    obtain rfl : v = 5 := by simpa using hv
    constructor <;> decide
  · intro f hf
    obtain rfl : f = fL := by simpa using hf
    decide
  · intro g hg
    cases hg
  · rintro e w' ⟨en, v, G, D, c, hr, he, _, hC, hB⟩
    obtain ⟨G2, h1, h2, h3, h4⟩ := lives_run
    rw [h1] at hr
    injection hr with r1 r2 r3
    subst r1 r2 r3
    rw [h2, h3, h4] at he
    have hC := hC.now
    rw [h2] at hC
    exact ⟨D, c, he, hC, hB⟩
@[reducible] def livesW (w : World) : World := ((((w.alloc (.cells #[.int .i64 8, .int .i64 0, .int .i64 0, .int .i64 (-1), .int .i64 (-1), .int .i32 0, .string ⟨#[]⟩, .slice none 0 0, .int .i64 9, .int .i64 0, .int .i64 (-1), .int .i64 0, .int .i64 (-1), .int .i32 0, .string ⟨#[]⟩, .slice none 0 0] 44)).alloc (.cells #[.slice (some ⟨w.heap.size, 0, none⟩) 2 2, .int .i64 3, .int .i64 0, .int .i64 0, .int .i64 0] 41)).alloc (.cells #[.string ⟨#[109, 97, 105, 110]⟩, .int .i64 0, .int .i64 1, .slice (some ⟨w.heap.size + 1, 0, none⟩) 1 1] 47)).alloc (.cells #[.slice none 0 0, .slice (some ⟨w.heap.size + 1 + 1, 0, none⟩) 1 1] 25)).alloc (.cells #[.int .i32 5] 21)
theorem livesW_facts (w : World) : Below w.heap.size w (livesW w) ∧ Kd.C k47 (livesW w) (some ⟨w.heap.size + 1 + 1, 0, none⟩) [fL].length [fL] ∧ (Kd.int .i32).C (livesW w) (some ⟨w.heap.size + 1 + 1 + 1 + 1, 0, none⟩) 1 [5] ∧ (livesW w).heap[w.heap.size + 1 + 1 + 1]? = some (.cells #[.slice none 0 0, .slice (some ⟨w.heap.size + 1 + 1, 0, none⟩) 1 1] 25 (0, 0)) := by
  have h1 := blk_new w (.cells #[.int .i64 8, .int .i64 0, .int .i64 0, .int .i64 (-1), .int .i64 (-1), .int .i32 0, .string ⟨#[]⟩, .slice none 0 0, .int .i64 9, .int .i64 0, .int .i64 (-1), .int .i64 0, .int .i64 (-1), .int .i32 0, .string ⟨#[]⟩, .slice none 0 0] 44)
  have h2 : ((w.alloc (.cells #[.int .i64 8, .int .i64 0, .int .i64 0, .int .i64 (-1), .int .i64 (-1), .int .i32 0, .string ⟨#[]⟩, .slice none 0 0, .int .i64 9, .int .i64 0, .int .i64 (-1), .int .i64 0, .int .i64 (-1), .int .i32 0, .string ⟨#[]⟩, .slice none 0 0] 44)).alloc (.cells #[.slice (some ⟨w.heap.size, 0, none⟩) 2 2, .int .i64 3, .int .i64 0, .int .i64 0, .int .i64 0] 41)).heap[w.heap.size + 1]? = some (.cells #[.slice (some ⟨w.heap.size, 0, none⟩) 2 2, .int .i64 3, .int .i64 0, .int .i64 0, .int .i64 0] 41) := by have h_ := blk_new (w.alloc (.cells #[.int .i64 8, .int .i64 0, .int .i64 0, .int .i64 (-1), .int .i64 (-1), .int .i32 0, .string ⟨#[]⟩, .slice none 0 0, .int .i64 9, .int .i64 0, .int .i64 (-1), .int .i64 0, .int .i64 (-1), .int .i32 0, .string ⟨#[]⟩, .slice none 0 0] 44)) (.cells #[.slice (some ⟨w.heap.size, 0, none⟩) 2 2, .int .i64 3, .int .i64 0, .int .i64 0, .int .i64 0] 41); simpa using h_
  have h3 : (((w.alloc (.cells #[.int .i64 8, .int .i64 0, .int .i64 0, .int .i64 (-1), .int .i64 (-1), .int .i32 0, .string ⟨#[]⟩, .slice none 0 0, .int .i64 9, .int .i64 0, .int .i64 (-1), .int .i64 0, .int .i64 (-1), .int .i32 0, .string ⟨#[]⟩, .slice none 0 0] 44)).alloc (.cells #[.slice (some ⟨w.heap.size, 0, none⟩) 2 2, .int .i64 3, .int .i64 0, .int .i64 0, .int .i64 0] 41)).alloc (.cells #[.string ⟨#[109, 97, 105, 110]⟩, .int .i64 0, .int .i64 1, .slice (some ⟨w.heap.size + 1, 0, none⟩) 1 1] 47)).heap[w.heap.size + 1 + 1]? = some (.cells #[.string ⟨#[109, 97, 105, 110]⟩, .int .i64 0, .int .i64 1, .slice (some ⟨w.heap.size + 1, 0, none⟩) 1 1] 47) := by have h_ := blk_new ((w.alloc (.cells #[.int .i64 8, .int .i64 0, .int .i64 0, .int .i64 (-1), .int .i64 (-1), .int .i32 0, .string ⟨#[]⟩, .slice none 0 0, .int .i64 9, .int .i64 0, .int .i64 (-1), .int .i64 0, .int .i64 (-1), .int .i32 0, .string ⟨#[]⟩, .slice none 0 0] 44)).alloc (.cells #[.slice (some ⟨w.heap.size, 0, none⟩) 2 2, .int .i64 3, .int .i64 0, .int .i64 0, .int .i64 0] 41)) (.cells #[.string ⟨#[109, 97, 105, 110]⟩, .int .i64 0, .int .i64 1, .slice (some ⟨w.heap.size + 1, 0, none⟩) 1 1] 47); simpa using h_
  have h4 : ((((w.alloc (.cells #[.int .i64 8, .int .i64 0, .int .i64 0, .int .i64 (-1), .int .i64 (-1), .int .i32 0, .string ⟨#[]⟩, .slice none 0 0, .int .i64 9, .int .i64 0, .int .i64 (-1), .int .i64 0, .int .i64 (-1), .int .i32 0, .string ⟨#[]⟩, .slice none 0 0] 44)).alloc (.cells #[.slice (some ⟨w.heap.size, 0, none⟩) 2 2, .int .i64 3, .int .i64 0, .int .i64 0, .int .i64 0] 41)).alloc (.cells #[.string ⟨#[109, 97, 105, 110]⟩, .int .i64 0, .int .i64 1, .slice (some ⟨w.heap.size + 1, 0, none⟩) 1 1] 47)).alloc (.cells #[.slice none 0 0, .slice (some ⟨w.heap.size + 1 + 1, 0, none⟩) 1 1] 25)).heap[w.heap.size + 1 + 1 + 1]? = some (.cells #[.slice none 0 0, .slice (some ⟨w.heap.size + 1 + 1, 0, none⟩) 1 1] 25) := by have h_ := blk_new (((w.alloc (.cells #[.int .i64 8, .int .i64 0, .int .i64 0, .int .i64 (-1), .int .i64 (-1), .int .i32 0, .string ⟨#[]⟩, .slice none 0 0, .int .i64 9, .int .i64 0, .int .i64 (-1), .int .i64 0, .int .i64 (-1), .int .i32 0, .string ⟨#[]⟩, .slice none 0 0] 44)).alloc (.cells #[.slice (some ⟨w.heap.size, 0, none⟩) 2 2, .int .i64 3, .int .i64 0, .int .i64 0, .int .i64 0] 41)).alloc (.cells #[.string ⟨#[109, 97, 105, 110]⟩, .int .i64 0, .int .i64 1, .slice (some ⟨w.heap.size + 1, 0, none⟩) 1 1] 47)) (.cells #[.slice none 0 0, .slice (some ⟨w.heap.size + 1 + 1, 0, none⟩) 1 1] 25); simpa using h_
  have h5 : (livesW w).heap[w.heap.size + 1 + 1 + 1 + 1]? = some (.cells #[.int .i32 5] 21) := by have h_ := blk_new ((((w.alloc (.cells #[.int .i64 8, .int .i64 0, .int .i64 0, .int .i64 (-1), .int .i64 (-1), .int .i32 0, .string ⟨#[]⟩, .slice none 0 0, .int .i64 9, .int .i64 0, .int .i64 (-1), .int .i64 0, .int .i64 (-1), .int .i32 0, .string ⟨#[]⟩, .slice none 0 0] 44)).alloc (.cells #[.slice (some ⟨w.heap.size, 0, none⟩) 2 2, .int .i64 3, .int .i64 0, .int .i64 0, .int .i64 0] 41)).alloc (.cells #[.string ⟨#[109, 97, 105, 110]⟩, .int .i64 0, .int .i64 1, .slice (some ⟨w.heap.size + 1, 0, none⟩) 1 1] 47)).alloc (.cells #[.slice none 0 0, .slice (some ⟨w.heap.size + 1 + 1, 0, none⟩) 1 1] 25)) (.cells #[.int .i32 5] 21); unfold livesW; simpa using h_
  have b1 : (livesW w).heap[w.heap.size]? = some (.cells #[.int .i64 8, .int .i64 0, .int .i64 0, .int .i64 (-1), .int .i64 (-1), .int .i32 0, .string ⟨#[]⟩, .slice none 0 0, .int .i64 9, .int .i64 0, .int .i64 (-1), .int .i64 0, .int .i64 (-1), .int .i32 0, .string ⟨#[]⟩, .slice none 0 0] 44) := blk_alloc (blk_alloc (blk_alloc (blk_alloc h1 _) _) _) _
  have b2 : (livesW w).heap[w.heap.size + 1]? = some (.cells #[.slice (some ⟨w.heap.size, 0, none⟩) 2 2, .int .i64 3, .int .i64 0, .int .i64 0, .int .i64 0] 41) := blk_alloc (blk_alloc (blk_alloc h2 _) _) _
  have b3 : (livesW w).heap[w.heap.size + 1 + 1]? = some (.cells #[.string ⟨#[109, 97, 105, 110]⟩, .int .i64 0, .int .i64 1, .slice (some ⟨w.heap.size + 1, 0, none⟩) 1 1] 47) := blk_alloc (blk_alloc h3 _) _
  have b4 : (livesW w).heap[w.heap.size + 1 + 1 + 1]? = some (.cells #[.slice none 0 0, .slice (some ⟨w.heap.size + 1 + 1, 0, none⟩) 1 1] 25) := blk_alloc h4 _
  refine ⟨below_alloc (below_alloc (below_alloc (below_alloc (below_alloc (Below.refl _ _) _) _) _) _) _, lives_row _ _ _ _ b1 b2 b3, ?_, b4⟩
  exact C_block h5 [5] [[.int .i32 5]] (by decide) ⟨rfl, trivial⟩ rfl
set_option maxHeartbeats 4000000 in
set_option maxRecDepth 100000 in
theorem lives_calls (w : World) : Calls Try.prog 8 #[] w fun e w' => e = .returned (.bool true) ∧ Below w.heap.size w w' := by
  obtain ⟨hB, hF, hI, hm⟩ := livesW_facts w
  have HB := Aside0.mk hB
  have HF := Aside0.mk hF
  have HI := Aside0.mk hI
  have HM := Aside0.mk hm
  clear hB hF hI hm
  go_enter Try.func8, Try.ntmps8
  go_wp2_with (first
    | (go_at_call 10; (with_reducible refine (trace_fL ⟨w.heap.size + 1 + 1, 0, none⟩ ⟨w.heap.size + 1 + 1 + 1 + 1, 0, none⟩ (livesW w) HF.out HI.out).mono ?_)
       rintro e w5 ⟨D, c, rfl, hC, hB5⟩
       have HC5 := Aside0.mk hC
       have HB5 := Aside0.mk (below_step HB.out hB5)
       have HF5 := Aside0.mk (Kd.C_below HF.out hB5)
       have hm5 := blk_below HM.out hB5
       have HM5 := Aside0.mk hm5
       have m0 := (blk_cell hm5 0).trans rfl
       have m1 := (blk_cell hm5 1).trans rfl
       clear hC hB5 hm5)
    | ((with_reducible refine gate_dst (N := 2) rfl ?_)
       refine box_event rfl (N := 2) rfl (cs := #[.int .i64 0, .int .i32 0, .slice none 0 0, .int .i64 0, .int .i64 0]) (t := 32) ?hr ?_
       case hr => first | (go_simp; done) | (go_simp; rfl)
       intro gx hg w1x hbox hb; have hz0 : w1x.cell? ⟨gx, 0, none⟩ = some (.int .i64 0) := (blk_cell hbox 0).trans rfl; have hf0 := blk_frozen hbox 0; have hz1 : w1x.cell? ⟨gx, 1, none⟩ = some (.int .i32 0) := (blk_cell hbox 1).trans rfl; have hf1 := blk_frozen hbox 1; have hz2 : w1x.cell? ⟨gx, 2, none⟩ = some (.slice none 0 0) := (blk_cell hbox 2).trans rfl; have hf2 := blk_frozen hbox 2; have hz3 : w1x.cell? ⟨gx, 3, none⟩ = some (.int .i64 0) := (blk_cell hbox 3).trans rfl; have hf3 := blk_frozen hbox 3; have hz4 : w1x.cell? ⟨gx, 4, none⟩ = some (.int .i64 0) := (blk_cell hbox 4).trans rfl; have hf4 := blk_frozen hbox 4
       have HG := Aside0.mk (Nat.le_of_eq hg.symm)
       clear hg)
    | ((with_reducible refine gate_store (t := 32) (p := 2) rfl ?_)
       refine store_event (w1 := (((((w1x.setCell ⟨gx, 0, none⟩ (.int .i64 1)).setCell ⟨gx, 1, none⟩ (.int .i32 5)).setCell ⟨gx, 2, none⟩ (.slice D 1 c)).setCell ⟨gx, 3, none⟩ (.int .i64 3)).setCell ⟨gx, 4, none⟩ (.int .i64 1))) rfl (t := 32) (p := 2) rfl rfl ?hr ?_
       case hr => first | (go_simp; done) | (go_simp; rfl)
       intro wx hw
       have hcb := hw ▸ fill5 (g := gx) hbox
       have hbl := hw ▸ fillB5 (g := gx) hb HG.out
       have HBX := Aside0.mk (below_step HB5.out hbl)
       have HFX := Aside0.mk (Kd.C_below HF5.out hbl)
       have HCX := Aside0.mk (Kd.C_below HC5.out hbl)
       have hmx := blk_below HM5.out hbl
       have HOX := Aside0.mk hcb
       have m0 := (blk_cell hmx 0).trans rfl
       have m1 := (blk_cell hmx 1).trans rfl
       clear hmx hcb hbl hw hbox hb hz0 hf0 hz1 hf1 hz2 hf2 hz3 hf3 hz4 hf4)
    | (go_at_call 15; (with_reducible refine (may_fL (some ⟨w.heap.size + 1 + 1, 0, none⟩) 1 _ HFX.out (Nat.le_refl 1)).mono ?_)
       rintro e w7 ⟨rfl, hB7⟩
       have HB7 := Aside0.mk (below_step HBX.out hB7)
       have ho7 := blk_below HOX.out hB7
       have y0 := (blk_cell ho7 0).trans rfl
       have y1 := (blk_cell ho7 1).trans rfl
       have y2 := (blk_cell ho7 2).trans rfl
       have y3 := (blk_cell ho7 3).trans rfl
       have y4 := (blk_cell ho7 4).trans rfl
       obtain ⟨ad, hA, hcell⟩ := Kd.at_int (Kd.C_below HCX.out hB7) (0 : Int) (by decide) (by decide)
       rw [show rd [5] (0 : Int) = 5 from rfl, show ((0 : Int)).toNat = 0 from rfl] at hcell
       have hcell2 : w7.cell? ad = some (.int .i32 5) := hcell
       subst hA
       clear ho7 hB7)
    | fail)
  go_ret
  exact ⟨rfl, HB7.out⟩
end Go.Proofs.Ytabkinlpbefjgaa.L

