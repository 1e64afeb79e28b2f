/- Texts of this seat that a claim bears, put together by this session's own program shake.py: TrZh, TrZi, TrZj, TrZk, TrRa. -/
import Derived.Test.YtabkinlpbefjgaaKd16
namespace Go.Proofs.Ytabkinlpbefjgaa.L
open Go.RowKit Go.Proofs.Ytabkinlpbefjgaa.X Go.Proofs.YtabkinlpbefjgaaW.PrintWords Go.Proofs.YtabkinlpbefjgaaW.PrintLast Go.Proofs.YtabkinlpbefjgaaW.PrintMore
attribute [local go_sem] max2_int min2_int max_two min_two max_three min_three max_four min_four   -- for this text's walks alone
set_option linter.unusedVariables false
set_option linter.unusedSimpArgs false
open Go.Proofs.Ytabkinlpbefjgaa.Pure
theorem isword_l (a : ByteArray) (ws : List ByteArray) (hw : ws.length ≤ 1000) (hn : ∀ w ∈ ws, ¬ w.data.toList = a.data.toList) : ∀ (d i : Nat), i + d = ws.length → Ev (fun k => brazierref07_IsWord.l0 k a ws (ws.length : Int) (i : Int)) false
  | 0, i, h => by
    refine Ev.step (f := fun _ => some false) (fun k => ?_) (Ev.now _)
    simp only [brazierref07_IsWord.l0]
    rw [if_neg (by omega)]
  | d + 1, i, h => by
    refine Ev.step (f := fun k => brazierref07_IsWord.l0 k a ws (ws.length : Int) ((i + 1 : Nat) : Int)) (fun k => ?_) (isword_l a ws hw hn d (i + 1) (by omega))
    simp only [brazierref07_IsWord.l0]
    have hi : i < ws.length := by omega
    have e : rdOf ByteArray.empty ws (i : Int) = ws[i] := by
      unfold rdOf
      rw [Int.toNat_natCast, List.getD_eq_getElem?_getD, List.getElem?_eq_getElem hi]; rfl
    rw [if_pos (by omega), if_pos (by omega), if_pos (by omega), e, ByteArray.toList_eq, ByteArray.toList_eq, if_neg (hn _ (List.getElem_mem hi)), wr1 i (by omega)]
theorem isname_l (a : ByteArray) (hs : a.size ≤ 64) (hl : ∀ i : Nat, i < a.size → brazierref07_letter.f (bt a (i : Int)) = some true) : ∀ (d i : Nat), i + d = a.size → Ev (fun k => brazierref07_IsName.l0 k a (i : Int)) true
  | 0, i, h => by
    refine Ev.step (f := fun _ => some true) (fun k => ?_) (Ev.now _)
    simp only [brazierref07_IsName.l0]
    rw [if_neg (by omega)]
  | d + 1, i, h => by
    refine Ev.step (f := fun k => brazierref07_IsName.l0 k a ((i + 1 : Nat) : Int)) (fun k => ?_) (isname_l a hs hl d (i + 1) (by omega))
    simp only [brazierref07_IsName.l0]
    rw [if_pos (by omega), if_pos (by omega), hl i (by omega), Option.bind_some, if_pos rfl, wr1 i (by omega)]
def wordsL : List ByteArray := [(⟨#[105, 110, 116]⟩ : ByteArray), (⟨#[105, 102]⟩ : ByteArray), (⟨#[101, 108, 115, 101]⟩ : ByteArray), (⟨#[119, 104, 105, 108, 101]⟩ : ByteArray), (⟨#[98, 114, 101, 97, 107]⟩ : ByteArray), (⟨#[99, 111, 110, 116, 105, 110, 117, 101]⟩ : ByteArray), (⟨#[114, 101, 116, 117, 114, 110]⟩ : ByteArray), (⟨#[112, 114, 105, 110, 116]⟩ : ByteArray), (⟨#[114, 101, 97, 100]⟩ : ByteArray)]
theorem isname_yes (a : ByteArray) (h0 : 0 < a.size) (h64 : a.size ≤ 64) (hd : brazierref07_digit.f (bt a 0) = some false) (hw : ∀ w ∈ wordsL, ¬ w.data.toList = a.data.toList) (hl : ∀ i : Nat, i < a.size → brazierref07_letter.f (bt a (i : Int)) = some true) (w : World) :
    Calls Try.prog 19 #[.string a] w fun e w' => e = .returned (.bool true) ∧ Below w.heap.size w w' := by
  have hev : Ev (fun k => brazierref07_IsName.f k a) true := by
    unfold brazierref07_IsName.f brazierref07_IsWord.f brazierref07_Words.f
    simp only [if_neg (show ¬ (a.size : Int) = 0 by omega), if_neg (show ¬ (a.size : Int) > 64 by omega), if_pos (show 0 < (a.size : Int) by omega), hd, Option.bind_some, if_neg Bool.false_ne_true]
    refine Ev.bind (isword_l a wordsL (by decide) hw _ 0 (Nat.zero_add _)) ?_
    refine Ev.step (f := fun k => brazierref07_IsName.l0 k a 0) (fun k => ?_) (isname_l a h64 hl _ 0 (Nat.zero_add _))
    simp only [brazierref07_IsName.j0]
    rw [if_neg Bool.false_ne_true]
  obtain ⟨k, hk⟩ := hev.rounds
  exact brazierref07_IsName.calls k a true w hk
theorem isname_main (w : World) : Calls Try.prog 19 #[.string ⟨#[109, 97, 105, 110]⟩] w fun e w' => e = .returned (.bool true) ∧ Below w.heap.size w w' :=
  isname_yes ⟨#[109, 97, 105, 110]⟩ (by decide) (by decide) rfl (by decide) (by decide) w
end Go.Proofs.Ytabkinlpbefjgaa.L

namespace Go.Proofs.Ytabkinlpbefjgaa.L
open Go.RowKit Go.Proofs.Ytabkinlpbefjgaa.X Go.Proofs.YtabkinlpbefjgaaW.PrintWords Go.Proofs.YtabkinlpbefjgaaW.PrintLast Go.Proofs.YtabkinlpbefjgaaW.PrintMore
attribute [local go_sem] max2_int min2_int max_two min_two max_three min_three max_four min_four   -- for this text's walks alone
set_option linter.unusedVariables false
set_option linter.unusedSimpArgs false
open Go.Proofs.Ytabkinlpbefjgaa.Pure
set_option maxHeartbeats 4000000 in
set_option maxRecDepth 100000 in
theorem yes_x8 (A7 : Option Addr) (c7 : Nat) (w : World) : Calls Try.prog 33 #[.agg #[.int .i64 8, .int .i64 0, .int .i64 0, .int .i64 (-1), .int .i64 (-1), .int .i32 0, .string ⟨#[]⟩, .slice A7 0 c7], .int .i64 1] w fun e w' => e = .returned (.bool true) ∧ Below w.heap.size w w' := by
  have r0_ : regB 0 1 false = true := by decide
  have hcl : Below w.heap.size w (w.alloc (.cells #[.int .i64 8, .int .i64 0, .int .i64 0, .int .i64 (-1), .int .i64 (-1), .int .i32 0, .string ⟨#[]⟩, .slice A7 0 c7] 44)) := Below.alloc (Below.refl _ _) (Nat.le_refl _) _
  have HCL := Aside0.mk hcl
  clear hcl
  go_enter Try.func33, Try.ntmps33
  go_wp2_with (first
    | (go_at_call 34; (with_reducible refine (reg_calls _ _ _ _).mono ?_); rintro e w' ⟨rfl, rfl⟩)
    | fail)
  generalize w.alloc (.cells #[.int .i64 8, .int .i64 0, .int .i64 0, .int .i64 (-1), .int .i64 (-1), .int .i32 0, .string ⟨#[]⟩, .slice A7 0 c7] 44) = w2 at HCL ⊢
  have HBL := Aside0.mk HCL.out
  go_loopg [225] (1) (fun kq v wr => v = .int .i64 0 ∧ wr = w2)
  case atStart => exact ⟨rfl, rfl⟩
  case round =>
    obtain ⟨rfl, rfl⟩ := hrel
    go_wp2
    go_ret
    exact ⟨rfl, HBL.out⟩
set_option maxHeartbeats 4000000 in
set_option maxRecDepth 100000 in
theorem yes_x9 (A7 : Option Addr) (c7 : Nat) (w : World) : Calls Try.prog 33 #[.agg #[.int .i64 9, .int .i64 0, .int .i64 (-1), .int .i64 0, .int .i64 (-1), .int .i32 0, .string ⟨#[]⟩, .slice A7 0 c7], .int .i64 1] w fun e w' => e = .returned (.bool true) ∧ Below w.heap.size w w' := by
  have r0_ : regB 0 1 false = true := by decide
  have hcl : Below w.heap.size w (w.alloc (.cells #[.int .i64 9, .int .i64 0, .int .i64 (-1), .int .i64 0, .int .i64 (-1), .int .i32 0, .string ⟨#[]⟩, .slice A7 0 c7] 44)) := Below.alloc (Below.refl _ _) (Nat.le_refl _) _
  have HCL := Aside0.mk hcl
  clear hcl
  go_enter Try.func33, Try.ntmps33
  go_wp2_with (first
    | (go_at_call 34; (with_reducible refine (reg_calls _ _ _ _).mono ?_); rintro e w' ⟨rfl, rfl⟩)
    | fail)
  generalize w.alloc (.cells #[.int .i64 9, .int .i64 0, .int .i64 (-1), .int .i64 0, .int .i64 (-1), .int .i32 0, .string ⟨#[]⟩, .slice A7 0 c7] 44) = w2 at HCL ⊢
  have HBL := Aside0.mk HCL.out
  go_loopg [225] (1) (fun kq v wr => v = .int .i64 0 ∧ wr = w2)
  case atStart => exact ⟨rfl, rfl⟩
  case round =>
    obtain ⟨rfl, rfl⟩ := hrel
    go_wp2
    go_ret
    exact ⟨rfl, HBL.out⟩
end Go.Proofs.Ytabkinlpbefjgaa.L

namespace Go.Proofs.Ytabkinlpbefjgaa.L
open Go.RowKit Go.Proofs.Ytabkinlpbefjgaa.X Go.Proofs.YtabkinlpbefjgaaW.PrintWords Go.Proofs.YtabkinlpbefjgaaW.PrintLast Go.Proofs.YtabkinlpbefjgaaW.PrintMore
attribute [local go_sem] max2_int min2_int max_two min_two max_three min_three max_four min_four   -- for this text's walks alone
set_option linter.unusedVariables false
set_option linter.unusedSimpArgs false
open Go.Proofs.Ytabkinlpbefjgaa.Pure
@[reducible] def YesI (n : Int) (x : S44) : Prop := ∀ (A7 : Option Addr) (c7 : Nat) (w : World), (Kd.int .i64).C w A7 x.f7.length x.f7 → x.f7.length ≤ c7 →
    Calls Try.prog 33 #[.agg #[.int .i64 x.f0, .int .i64 x.f1, .int .i64 x.f2, .int .i64 x.f3, .int .i64 x.f4, .int .i32 x.f5, .string x.f6, .slice A7 x.f7.length c7], .int .i64 n] w fun e w' => e = .returned (.bool true) ∧ Below w.heap.size w w'
structure YesB (f : S47) (b : S41) : Prop where
  ins : ∀ x ∈ b.f0, YesI f.f2 x
  end_ : b.f1 = 3 ∧ b.f3 = 0 ∧ b.f4 = 0 ∨ b.f1 = 2 ∧ (0 ≤ b.f3 ∧ b.f3 < (f.f3.length : Int)) ∧ 0 ≤ b.f4 ∧ b.f4 < (f.f3.length : Int)
  reg : regB b.f2 f.f2 false = true
set_option maxHeartbeats 4000000 in
set_option maxRecDepth 100000 in
theorem mayfn_yes (f : S47) (A3 : Option Addr) (c3 : Nat) (w : World) (h3 : Kd.C k41 w A3 f.f3.length f.f3) (hc3 : f.f3.length ≤ c3)
    (hname : ∀ w, Calls Try.prog 19 #[.string f.f0] w fun e w' => e = .returned (.bool true) ∧ Below w.heap.size w w') (p0 : 0 ≤ f.f1) (p1 : f.f1 ≤ 8) (p2 : f.f1 ≤ f.f2) (p3 : f.f2 ≤ 4096) (p5 : 0 < f.f3.length) (hb : ∀ b ∈ f.f3, YesB f b) :
    Calls Try.prog 22 #[.agg #[.string f.f0, .int .i64 f.f1, .int .i64 f.f2, .slice A3 f.f3.length c3]] w fun e w' => e = .returned (.bool true) ∧ Below w.heap.size w w' := by
  have HNM := Aside0.mk hname
  have HBK := Aside0.mk hb
  have p4 : ((f.f3.length : Int) == 0) = false := by rw [beq_eq_false_iff_ne]; omega
  clear hname hb
  have H3 := Aside0.mk h3
  have HM3 := Aside0.mk (Kd.C_max h3)
  clear h3 hc3
  go_enter Try.func22, Try.ntmps22
  go_wp2_with (first
    | (go_at_call 19; (with_reducible refine (HNM.out _).mono ?_); rintro e w2 ⟨rfl, hB⟩; have HWB := Aside0.mk ((Below.alloc (Below.refl w.heap.size w) (Nat.le_refl _) _).trans (Below.mono hB (Below.alloc (Below.refl w.heap.size w) (Nat.le_refl _) _).size)); have hx := (hB.block _ (blk_lt (blk_new _ _))).trans (blk_new _ _); have HX := Aside0.mk hx; have e1 := (blk_cell hx 1).trans rfl; have e2 := (blk_cell hx 2).trans rfl; have e3 := (blk_cell hx 3).trans rfl; clear hx hB)
    | fail)
  clear p0 p1 p2 p3 p4
  have P5 := Aside0.mk p5
  clear p5
  go_loopg [51] (f.f3.length) (fun kq v wr => ∃ k : Nat, Aside0 (k + kq = f.f3.length) ∧ v = .int .i64 (k : Int) ∧ Aside0 (Below w.heap.size w wr) ∧ Aside0 (wr.heap[w.heap.size]? = some (.cells #[.string f.f0, .int .i64 f.f1, .int .i64 f.f2, .slice A3 f.f3.length c3] 47 (0, 0))))
  case atStart => exact ⟨0, ⟨by omega⟩, rfl, HWB, HX⟩
  case round =>
    obtain ⟨k, HK, rfl, HBL, HXR⟩ := hrel
    by_cases hlt : k < f.f3.length
    · cases gk with
      | zero => exact absurd HK.out (by omega)
      | succ q1 =>
        obtain ⟨ad, A0, c0, hA, z0, z1, z2, z3, z4, hl0, hi0⟩ := at_T41 (Kd.C_below H3.out HBL.out) (k : Int) (by omega) (by omega)
        rw [Int.toNat_natCast] at z0 z1 z2 z3 z4
        obtain ⟨b, hz⟩ : ∃ b, rd_T41 f.f3 (k : Int) = b := ⟨_, rfl⟩
        have hbe : b = f.f3[k] := by
          rw [← hz]; unfold rd_T41; rw [Int.toNat_natCast, List.getD_eq_getElem?_getD, List.getElem?_eq_getElem hlt]; rfl
        have hsn : f.f3.take (k + 1) = f.f3.take k ++ [b] := by rw [List.take_succ_eq_append_getElem hlt, hbe]
        rw [hz] at z0 z1 z2 z3 z4 hl0 hi0
        have HYB : Aside0 (YesB f b) := ⟨HBK.out b (by rw [hbe]; exact List.getElem_mem hlt)⟩
        have HL0 := Aside0.mk hl0
        have HI0 := Aside0.mk hi0
        have HMI := Aside0.mk (Kd.C_max hi0)
        subst hA
        clear hsn hz hbe hl0 hi0
        go_wp2_with (first
    | ((with_reducible refine gate_dst (N := 5) rfl ?_)
       refine box_event rfl (N := 5) rfl (cs := #[.slice none 0 0, .int .i64 0, .int .i64 0, .int .i64 0, .int .i64 0]) (t := 41) ?hr ?_
       case hr => first | (go_simp; done) | (go_simp; rfl)
       intro gb hg w1 hbox hb; have hz0 : w1.cell? ⟨gb, 0, none⟩ = some (.slice none 0 0) := (blk_cell hbox 0).trans rfl; have hf0 := blk_frozen hbox 0; have hz1 : w1.cell? ⟨gb, 1, none⟩ = some (.int .i64 0) := (blk_cell hbox 1).trans rfl; have hf1 := blk_frozen hbox 1; have hz2 : w1.cell? ⟨gb, 2, none⟩ = some (.int .i64 0) := (blk_cell hbox 2).trans rfl; have hf2 := blk_frozen hbox 2; have hz3 : w1.cell? ⟨gb, 3, none⟩ = some (.int .i64 0) := (blk_cell hbox 3).trans rfl; have hf3 := blk_frozen hbox 3; have hz4 : w1.cell? ⟨gb, 4, none⟩ = some (.int .i64 0) := (blk_cell hbox 4).trans rfl; have hf4 := blk_frozen hbox 4
       have HG := Aside0.mk (Nat.le_of_eq hg.symm)
       clear hg)
    | ((with_reducible refine gate_store (t := 41) (p := 5) rfl ?_)
       refine store_event (w1 := (((((w1.setCell ⟨gb, 0, none⟩ (.slice A0 b.f0.length c0)).setCell ⟨gb, 1, none⟩ (.int .i64 b.f1)).setCell ⟨gb, 2, none⟩ (.int .i64 b.f2)).setCell ⟨gb, 3, none⟩ (.int .i64 b.f3)).setCell ⟨gb, 4, none⟩ (.int .i64 b.f4))) rfl (t := 41) (p := 5) rfl rfl ?hr ?_
       case hr => first | (go_simp; done) | (go_simp; rfl)
       intro wb hw
       have hcb := hw ▸ fill5 (g := gb) hbox
       have hbl := hw ▸ fillB5 (g := gb) hb HG.out
       have HXB := Aside0.mk hcb
       have HB5 := Aside0.mk hbl
       have HX2 := Aside0.mk (blk_below (g := w.heap.size) HXR.out hbl)
       have y0 := (blk_cell hcb 0).trans rfl
       clear hcb hbl hw hbox hb hz0 hz1 hz2 hz3 hz4 hf0 hf1 hf2 hf3 hf4)
    | fail)
        go_loopg [58] (b.f0.length) (fun kq v wi => ∃ j : Nat, Aside0 (j + kq = b.f0.length) ∧ v = .int .i64 (j : Int) ∧ Aside0 (Below wr.heap.size wr wi) ∧ Aside0 (wi.heap[w.heap.size]? = some (.cells #[.string f.f0, .int .i64 f.f1, .int .i64 f.f2, .slice (some ad) f.f3.length c3] 47 (0, 0))) ∧ Aside0 (wi.heap[gb]? = some (.cells #[.slice A0 b.f0.length c0, .int .i64 b.f1, .int .i64 b.f2, .int .i64 b.f3, .int .i64 b.f4] 41 (0, 0))))
        case atStart => exact ⟨0, ⟨by omega⟩, rfl, HB5, HX2, HXB⟩
        case round =>
          obtain ⟨j, HJ, rfl, HBI, HXI, HBB⟩ := hrel
          by_cases hlj : j < b.f0.length
          · cases gk with
            | zero => exact absurd HJ.out (by omega)
            | succ q2 =>
              obtain ⟨adx, A7, c7, hAx, x0, x1, x2, x3, x4, x5, x6, x7, hl7, hi7⟩ := at_T44 (Kd.C_below HI0.out HBI.out) (j : Int) (by omega) (by omega)
              rw [Int.toNat_natCast] at x0 x1 x2 x3 x4 x5 x6 x7
              obtain ⟨x, hz⟩ : ∃ x, rd_T44 b.f0 (j : Int) = x := ⟨_, rfl⟩
              have hxe : x = b.f0[j] := by
                rw [← hz]; unfold rd_T44; rw [Int.toNat_natCast, List.getD_eq_getElem?_getD, List.getElem?_eq_getElem hlj]; rfl
              have hsx : b.f0.take (j + 1) = b.f0.take j ++ [x] := by rw [List.take_succ_eq_append_getElem hlj, hxe]
              rw [hz] at x0 x1 x2 x3 x4 x5 x6 x7 hl7 hi7
              have HYI : Aside0 (YesI f.f2 x) := ⟨HYB.out.ins x (by rw [hxe]; exact List.getElem_mem hlj)⟩
              have HL7 := Aside0.mk hl7
              have HI7 := Aside0.mk hi7
              subst hAx
              clear hsx hz hxe hl7 hi7
              go_wp2_with (first
    | ((with_reducible refine gate_dst (N := 7) rfl ?_)
       refine box_event rfl (N := 7) rfl (cs := #[.int .i64 0, .int .i64 0, .int .i64 0, .int .i64 0, .int .i64 0, .int .i32 0, .string (⟨#[]⟩ : ByteArray), .slice none 0 0]) (t := 44) ?hr ?_
       case hr => first | (go_simp; done) | (go_simp; rfl)
       intro gx hg w1x hbox hb; have hz0 : w1x.cell? ⟨gx, 0, none⟩ = some (.int .i64 0) := (blk_cell hbox 0).trans rfl; have hf0 := blk_frozen hbox 0; have hz1 : w1x.cell? ⟨gx, 1, none⟩ = some (.int .i64 0) := (blk_cell hbox 1).trans rfl; have hf1 := blk_frozen hbox 1; have hz2 : w1x.cell? ⟨gx, 2, none⟩ = some (.int .i64 0) := (blk_cell hbox 2).trans rfl; have hf2 := blk_frozen hbox 2; have hz3 : w1x.cell? ⟨gx, 3, none⟩ = some (.int .i64 0) := (blk_cell hbox 3).trans rfl; have hf3 := blk_frozen hbox 3; have hz4 : w1x.cell? ⟨gx, 4, none⟩ = some (.int .i64 0) := (blk_cell hbox 4).trans rfl; have hf4 := blk_frozen hbox 4; have hz5 : w1x.cell? ⟨gx, 5, none⟩ = some (.int .i32 0) := (blk_cell hbox 5).trans rfl; have hf5 := blk_frozen hbox 5; have hz6 : w1x.cell? ⟨gx, 6, none⟩ = some (.string (⟨#[]⟩ : ByteArray)) := (blk_cell hbox 6).trans rfl; have hf6 := blk_frozen hbox 6; have hz7 : w1x.cell? ⟨gx, 7, none⟩ = some (.slice none 0 0) := (blk_cell hbox 7).trans rfl; have hf7 := blk_frozen hbox 7
       have HG := Aside0.mk (Nat.le_of_eq hg.symm)
       clear hg)
    | ((with_reducible refine gate_store (t := 44) (p := 7) rfl ?_)
       refine store_event (w1 := ((((((((w1x.setCell ⟨gx, 0, none⟩ (.int .i64 x.f0)).setCell ⟨gx, 1, none⟩ (.int .i64 x.f1)).setCell ⟨gx, 2, none⟩ (.int .i64 x.f2)).setCell ⟨gx, 3, none⟩ (.int .i64 x.f3)).setCell ⟨gx, 4, none⟩ (.int .i64 x.f4)).setCell ⟨gx, 5, none⟩ (.int .i32 x.f5)).setCell ⟨gx, 6, none⟩ (.string x.f6)).setCell ⟨gx, 7, none⟩ (.slice A7 x.f7.length c7))) rfl (t := 44) (p := 7) rfl rfl ?hr ?_
       case hr => first | (go_simp; done) | (go_simp; rfl)
       intro wx hw
       have hcb := hw ▸ fill8 (g := gx) hbox
       have hbl := hw ▸ fillB8 (g := gx) hb HG.out
       have HBX := Aside0.mk hbl
       have hfx := blk_below (g := w.heap.size) HXI.out hbl
       have e2 := (blk_cell hfx 2).trans rfl
       have y0 := (blk_cell hcb 0).trans rfl
       have y1 := (blk_cell hcb 1).trans rfl
       have y2 := (blk_cell hcb 2).trans rfl
       have y3 := (blk_cell hcb 3).trans rfl
       have y4 := (blk_cell hcb 4).trans rfl
       have y5 := (blk_cell hcb 5).trans rfl
       have y6 := (blk_cell hcb 6).trans rfl
       have y7 := (blk_cell hcb 7).trans rfl
       clear hfx hcb hbl hw hbox hb hz0 hz1 hz2 hz3 hz4 hz5 hz6 hz7 hf0 hf1 hf2 hf3 hf4 hf5 hf6 hf7)
    | (go_at_call 33; (with_reducible refine (HYI.out A7 c7 _ (Kd.C_below HI7.out HBX.out) HL7.out).mono ?_); rintro e w5 ⟨rfl, hB5⟩
       have HB3 := Aside0.mk (below_step (below_step HBI.out HBX.out) hB5)
       have HX5 := Aside0.mk (blk_below (blk_below HXI.out HBX.out) hB5)
       have HBB5 := Aside0.mk (blk_below (blk_below HBB.out HBX.out) hB5)
       have HWW := Aside0.mk (below_step HBL.out HB3.out)
       clear hB5)
    | fail)
              go_roundg q2
              case measure => omega
              case rel => exact ⟨j + 1, ⟨by have := HJ.out; omega⟩, nxt hlj HMI.out, HB3, HX5, HBB5⟩
          · obtain rfl : j = b.f0.length := by have := HJ.out; omega
            have HWW := Aside0.mk (below_step HBL.out HBI.out)
            have e2 := (blk_cell HXI.out 2).trans rfl
            have y1 := (blk_cell HBB.out 1).trans rfl
            have y2 := (blk_cell HBB.out 2).trans rfl
            have y3 := (blk_cell HBB.out 3).trans rfl
            have y4 := (blk_cell HBB.out 4).trans rfl
            have n0 := P5.out
            have hreg := HYB.out.reg
            rcases HYB.out.end_ with ⟨hk, g3, g4⟩ | ⟨hk, ⟨g3, g3_⟩, g4, g4_⟩
            · rw [hk] at y1
              rw [g3] at y3
              rw [g4] at y4
              clear g3 g4
              clear hk
              go_wp2_with (first
                | (go_at_call 34; (with_reducible refine (reg_calls _ _ _ _).mono ?_); rintro e w' ⟨rfl, rfl⟩)
                | fail)
              go_roundg q1
              case measure => omega
              case rel => exact ⟨k + 1, ⟨by have := HK.out; omega⟩, nxt hlt HM3.out, HWW, HXI⟩
            · rw [hk] at y1
              clear hk
              go_wp2_with (first
                | (go_at_call 34; (with_reducible refine (reg_calls _ _ _ _).mono ?_); rintro e w' ⟨rfl, rfl⟩)
                | fail)
              go_roundg q1
              case measure => omega
              case rel => exact ⟨k + 1, ⟨by have := HK.out; omega⟩, nxt hlt HM3.out, HWW, HXI⟩
    · obtain rfl : k = f.f3.length := by have := HK.out; omega
      go_wp2
      go_ret
      exact ⟨rfl, HBL.out⟩
end Go.Proofs.Ytabkinlpbefjgaa.L

namespace Go.Proofs.Ytabkinlpbefjgaa.L
open Go.RowKit Go.Proofs.Ytabkinlpbefjgaa.X Go.Proofs.YtabkinlpbefjgaaW.PrintWords Go.Proofs.YtabkinlpbefjgaaW.PrintLast Go.Proofs.YtabkinlpbefjgaaW.PrintMore
attribute [local go_sem] max2_int min2_int max_two min_two max_three min_three max_four min_four   -- for this text's walks alone
set_option linter.unusedVariables false
set_option linter.unusedSimpArgs false
open Go.Proofs.Ytabkinlpbefjgaa.Pure
structure YesN (F : List S47) (k : Nat) : Prop where
  fn : ∀ (A3 : Option Addr) (c3 : Nat) (w : World), Kd.C k41 w A3 (fnOf F k).f3.length (fnOf F k).f3 → (fnOf F k).f3.length ≤ c3 →
    Calls Try.prog 22 #[.agg #[.string (fnOf F k).f0, .int .i64 (fnOf F k).f1, .int .i64 (fnOf F k).f2, .slice A3 (fnOf F k).f3.length c3]] w fun e w' => e = .returned (.bool true) ∧ Below w.heap.size w w'
  first : fnAt F (fnOf F k).f0 = k
  ins : ∀ b ∈ (fnOf F k).f3, ∀ x ∈ b.f0, x.f0 ≠ 5 ∧ x.f0 ≠ 6 ∧ (x.f0 = 7 → fnAt F x.f6 < F.length ∧ (fnOf F (fnAt F x.f6)).f1 = (x.f7.length : Int))
theorem fnat0 (AF : Option Addr) (cF : Nat) (F : List S47) (n : ByteArray) (w : World) (hF : Kd.C k47 w AF F.length F) (hcF : F.length ≤ cF) (hl : F.length ≤ 1000000) :
    Calls Try.prog 21 #[.agg #[.slice none 0 0, .slice AF F.length cF], .string n] w fun e w' => e = .returned (.int .i64 (posOf (fnAt F n) F.length)) ∧ Below w.heap.size w w' := fnat_calls none 0 [] AF cF F n w (Kd.C_nil k57 w) (Nat.le_refl 0) hF hcF hl
theorem glat0 (AF : Option Addr) (cF : Nat) (F : List S47) (n : ByteArray) (w : World) (hF : Kd.C k47 w AF F.length F) (hcF : F.length ≤ cF) :
    Calls Try.prog 20 #[.agg #[.slice none 0 0, .slice AF F.length cF], .string n] w fun e w' => e = .returned (.int .i64 (posOf (glAt [] n) ([] : List S57).length)) ∧ Below w.heap.size w w' := glat_calls none 0 [] AF cF F n w (Kd.C_nil k57 w) (Nat.le_refl 0) hF hcF (by decide)
theorem mem_getD {α : Type} {xs : List α} {k : Nat} {z x : α} (h : k < xs.length) (e : xs.getD k z = x) : x ∈ xs := by
  rw [List.getD_eq_getElem?_getD, List.getElem?_eq_getElem h] at e
  exact (show xs[k] = x from e) ▸ List.getElem_mem h
set_option maxHeartbeats 8000000 in
set_option maxRecDepth 100000 in
theorem may_yes (F : List S47) (AF : Option Addr) (cF : Nat) (w : World) (hF : Kd.C k47 w AF F.length F) (hcF : F.length ≤ cF) (hFl : F.length ≤ 1000000) (hmain : fnAt F mainB < F.length) (hm0 : (fnOf F (fnAt F mainB)).f1 = 0) (hk : ∀ k, k < F.length → YesN F k) :
    Calls Try.prog 15 #[.agg #[.slice none 0 0, .slice AF F.length cF]] w fun e w' => e = .returned (.bool true) ∧ Below w.heap.size w w' := by
  have HK_ := Aside0.mk hk
  have HM0 := Aside0.mk hm0
  have HMN := Aside0.mk hmain
  clear hk hm0 hmain
  have HF := Aside0.mk hF
  have HCF := Aside0.mk hcF
  have HFL := Aside0.mk hFl
  clear hF hcF hFl
  go_enter Try.func15, Try.ntmps15
  go_wp2
  have hb1 : Below w.heap.size w (w.alloc (.cells #[.slice none 0 0, .slice AF F.length cF] 25)) := Below.alloc (Below.refl _ _) (Nat.le_refl _) _
  have hx1 := blk_new w (.cells #[.slice none 0 0, .slice AF F.length cF] 25)
  generalize w.alloc (.cells #[.slice none 0 0, .slice AF F.length cF] 25) = w1 at hb1 hx1 ⊢
  have HB1 := Aside0.mk hb1
  have HM1 := Aside0.mk hx1
  clear hb1 hx1
  go_loopg [22] (0) (fun kq v wr => v = .int .i64 0 ∧ Aside0 (Below w.heap.size w wr) ∧ Aside0 (wr.heap[w.heap.size]? = some (.cells #[.slice none 0 0, .slice AF F.length cF] 25 (0, 0))))
  case atStart => exact ⟨rfl, HB1, HM1⟩
  case round =>
      obtain ⟨rfl, HBL, HML⟩ := hrel
      have m0 := (blk_cell HML.out 0).trans rfl
      have m1 := (blk_cell HML.out 1).trans rfl
      go_wp2_with (first
    | (go_at_call 21; (with_reducible refine (fnat0 AF cF F (⟨#[109, 97, 105, 110]⟩ : ByteArray) _ (Kd.C_below HF.out HBL.out) HCF.out HFL.out).mono ?_)
       intro e w7 hc7
       have hm : fnAt F mainB < F.length := HMN.out
       have hc8 : e = .returned (.int .i64 ((fnAt F mainB : Nat) : Int)) ∧ Below wr.heap.size wr w7 := by rw [← posOf_lt hm]; exact hc7
       obtain ⟨rfl, hB_⟩ := hc8
       clear hc7
       have HB7 := Aside0.mk (below_step HBL.out hB_)
       have hm_ := blk_below HML.out hB_
       have HM7 := Aside0.mk hm_
       have m0 := (blk_cell hm_ 0).trans rfl
       have m1 := (blk_cell hm_ 1).trans rfl
       obtain ⟨ad, A3, c3, hA, q0, q1, q2, q3, ql, qi⟩ := at_T47 HF.out (fnAt F mainB : Int) (by omega) (by omega)
       rw [Int.toNat_natCast, rd47] at q1
       replace q1 := carry HB7.out q1
       rw [HM0.out] at q1
       have HMN := Aside0.mk hm
       subst hA
       clear q0 q2 q3 ql qi
       clear hm_ hB_)
    | fail)
      clear q1 hm
      go_loopg [75] (F.length) (fun kq v wr => ∃ k : Nat, Aside0 (k + kq = F.length) ∧ v = .int .i64 (k : Int) ∧ Aside0 (Below w.heap.size w wr) ∧ Aside0 (wr.heap[w.heap.size]? = some (.cells #[.slice none 0 0, .slice (some ad) F.length cF] 25 (0, 0))))
      case atStart => exact ⟨0, ⟨by omega⟩, rfl, HB7, HM7⟩
      case round =>
        obtain ⟨k, HKF, rfl, HBF, HMF⟩ := hrel
        by_cases hlf : k < F.length
        · cases gk with
          | zero => exact absurd HKF.out (by omega)
          | succ q3 =>
            obtain ⟨ad2, A3, c3, hA, z0, z1, z2, z3, hl3, hi3⟩ := at_T47 HF.out (k : Int) (by omega) (by omega)
            rw [rd47] at z0 z1 z2 z3 hl3 hi3
            rw [Int.toNat_natCast] at z0 z1 z2 z3
            obtain ⟨f, hz⟩ : ∃ f, fnOf F k = f := ⟨_, rfl⟩
            rw [hz] at z0 z1 z2 z3 hl3 hi3
            obtain rfl : ad = ad2 := by injection hA
            replace z0 := carry HBF.out z0
            replace z1 := carry HBF.out z1
            replace z2 := carry HBF.out z2
            replace z3 := carry HBF.out z3
            have hyn := HK_.out k hlf
            have hfn := hyn.fn
            have hfi := hyn.first
            have hin := hyn.ins
            simp only [hz] at hfn hfi hin
            have HFN := Aside0.mk hfn
            have HIN := Aside0.mk hin
            have HP1 := Aside0.mk (show posOf (fnAt F f.f0) F.length = (k : Int) by rw [hfi]; exact posOf_lt hlf)
            have HP2 := Aside0.mk (show posOf (glAt [] f.f0) ([] : List S57).length = -1 from posOf_ge (Nat.zero_le _))
            clear hyn hfn hfi hin
            have HL3 := Aside0.mk hl3
            have HI3 := Aside0.mk hi3
            have HM3 := Aside0.mk (Kd.C_max hi3)
            clear hz hl3 hi3 hA
            go_wp2_with (first
    | ((with_reducible refine gate_dst (N := 8) rfl ?_)
       refine box_event rfl (N := 8) rfl (cs := #[.string (⟨#[]⟩ : ByteArray), .int .i64 0, .int .i64 0, .slice none 0 0]) (t := 47) ?hr ?_
       case hr => first | (go_simp; done) | (go_simp; rfl)
       intro gx hg w1x hbox hb; have hz0 : w1x.cell? ⟨gx, 0, none⟩ = some (.string (⟨#[]⟩ : ByteArray)) := (blk_cell hbox 0).trans rfl; have hf0 := blk_frozen hbox 0; have hz1 : w1x.cell? ⟨gx, 1, none⟩ = some (.int .i64 0) := (blk_cell hbox 1).trans rfl; have hf1 := blk_frozen hbox 1; have hz2 : w1x.cell? ⟨gx, 2, none⟩ = some (.int .i64 0) := (blk_cell hbox 2).trans rfl; have hf2 := blk_frozen hbox 2; have hz3 : w1x.cell? ⟨gx, 3, none⟩ = some (.slice none 0 0) := (blk_cell hbox 3).trans rfl; have hf3 := blk_frozen hbox 3
       have HG := Aside0.mk (Nat.le_of_eq hg.symm)
       clear hg)
    | ((with_reducible refine gate_store (t := 47) (p := 8) rfl ?_)
       refine store_event (w1 := ((((w1x.setCell ⟨gx, 0, none⟩ (.string f.f0)).setCell ⟨gx, 1, none⟩ (.int .i64 f.f1)).setCell ⟨gx, 2, none⟩ (.int .i64 f.f2)).setCell ⟨gx, 3, none⟩ (.slice A3 f.f3.length c3))) rfl (t := 47) (p := 8) rfl rfl ?hr ?_
       case hr => first | (go_simp; done) | (go_simp; rfl)
       intro wx hw
       have hcb := hw ▸ fill4 (g := gx) hbox
       have hbl := hw ▸ fillB4 (g := gx) hb HG.out
       have HBX := Aside0.mk (below_step HBF.out hbl)
       have hmx := blk_below (g := w.heap.size) HMF.out hbl
       have HMX := Aside0.mk hmx
       have HOX := Aside0.mk hcb
       have m0 := (blk_cell hmx 0).trans rfl
       have m1 := (blk_cell hmx 1).trans rfl
       have y0 := (blk_cell hcb 0).trans rfl
       have y1 := (blk_cell hcb 1).trans rfl
       have y2 := (blk_cell hcb 2).trans rfl
       have y3 := (blk_cell hcb 3).trans rfl
       clear hmx hcb hbl hw hbox hb hz0 hf0 hz1 hf1 hz2 hf2 hz3 hf3)
    | (go_at_call 22; (with_reducible refine (HFN.out A3 c3 _ (Kd.C_below HI3.out HBX.out) HL3.out).mono ?_)
       intro e w5 hc7
       obtain ⟨rfl, hB_⟩ := hc7
       have HB5 := Aside0.mk (below_step HBX.out hB_)
       have hm_ := blk_below HMX.out hB_
       have HM5 := Aside0.mk hm_
       have m0 := (blk_cell hm_ 0).trans rfl
       have m1 := (blk_cell hm_ 1).trans rfl
       have ho_ := blk_below HOX.out hB_
       have HO5 := Aside0.mk ho_
       have y0 := (blk_cell ho_ 0).trans rfl
       have y3 := (blk_cell ho_ 3).trans rfl
       clear ho_
       clear hm_ hB_
       skip)
    | (go_at_call 21; (with_reducible refine (fnat0 (some ad) cF F f.f0 _ (Kd.C_below HF.out HB5.out) HCF.out HFL.out).mono ?_)
       intro e w6 hc7
       rw [HP1.out] at hc7
       obtain ⟨rfl, hB_⟩ := hc7
       have HB6 := Aside0.mk (below_step HB5.out hB_)
       have hm_ := blk_below HM5.out hB_
       have HM6 := Aside0.mk hm_
       have m0 := (blk_cell hm_ 0).trans rfl
       have m1 := (blk_cell hm_ 1).trans rfl
       have ho_ := blk_below HO5.out hB_
       have HO6 := Aside0.mk ho_
       have y0 := (blk_cell ho_ 0).trans rfl
       have y3 := (blk_cell ho_ 3).trans rfl
       clear ho_
       clear hm_ hB_
       skip)
    | (go_at_call 20; (with_reducible refine (glat0 (some ad) cF F f.f0 _ (Kd.C_below HF.out HB6.out) HCF.out).mono ?_)
       intro e w8 hc7
       rw [HP2.out] at hc7
       obtain ⟨rfl, hB_⟩ := hc7
       have HB8 := Aside0.mk (below_step HB6.out hB_)
       have hm_ := blk_below HM6.out hB_
       have HM8 := Aside0.mk hm_
       have m0 := (blk_cell hm_ 0).trans rfl
       have m1 := (blk_cell hm_ 1).trans rfl
       have ho_ := blk_below HO6.out hB_
       have HO8 := Aside0.mk ho_
       have y0 := (blk_cell ho_ 0).trans rfl
       have y3 := (blk_cell ho_ 3).trans rfl
       clear ho_
       clear hm_ hB_
       skip)
    | fail)
            go_loopg [101] (f.f3.length) (fun kq v wb => ∃ j : Nat, Aside0 (j + kq = f.f3.length) ∧ v = .int .i64 (j : Int) ∧ Aside0 (Below w.heap.size w wb) ∧ Aside0 (wb.heap[w.heap.size]? = some (.cells #[.slice none 0 0, .slice (some ad) F.length cF] 25 (0, 0))))
            case atStart => exact ⟨0, ⟨by omega⟩, rfl, HB8, HM8⟩
            case round =>
              obtain ⟨j, HJ, rfl, HBB, HMB⟩ := hrel
              by_cases hlj : j < f.f3.length
              · cases gk with
                | zero => exact absurd HJ.out (by omega)
                | succ q4 =>
                  obtain ⟨adb, A0, c0, hA, z0, z1, z2, z3, z4, hl0, hi0⟩ := at_T41 HI3.out (j : Int) (by omega) (by omega)
                  rw [Int.toNat_natCast] at z0 z1 z2 z3 z4
                  obtain ⟨b, hz⟩ : ∃ b, rd_T41 f.f3 (j : Int) = b := ⟨_, rfl⟩
                  rw [hz] at z0 z1 z2 z3 z4 hl0 hi0
                  have hge : f.f3.getD j z41 = b := by rw [← hz]; unfold rd_T41; rw [Int.toNat_natCast]
                  replace z0 := carry HBB.out z0
                  replace z1 := carry HBB.out z1
                  replace z2 := carry HBB.out z2
                  replace z3 := carry HBB.out z3
                  replace z4 := carry HBB.out z4
                  have HBE := Aside0.mk hge
                  have HL0 := Aside0.mk hl0
                  have HI0 := Aside0.mk hi0
                  have HMC := Aside0.mk (Kd.C_max hi0)
                  subst hA
                  clear hz hge hl0 hi0
                  go_wp2_with (first
    | ((with_reducible refine gate_dst (N := 10) rfl ?_)
       refine box_event rfl (N := 10) rfl (cs := #[.slice none 0 0, .int .i64 0, .int .i64 0, .int .i64 0, .int .i64 0]) (t := 41) ?hr ?_
       case hr => first | (go_simp; done) | (go_simp; rfl)
       intro gx hg w1x hbox hb; have hz0 : w1x.cell? ⟨gx, 0, none⟩ = some (.slice none 0 0) := (blk_cell hbox 0).trans rfl; have hf0 := blk_frozen hbox 0; have hz1 : w1x.cell? ⟨gx, 1, none⟩ = some (.int .i64 0) := (blk_cell hbox 1).trans rfl; have hf1 := blk_frozen hbox 1; have hz2 : w1x.cell? ⟨gx, 2, none⟩ = some (.int .i64 0) := (blk_cell hbox 2).trans rfl; have hf2 := blk_frozen hbox 2; have hz3 : w1x.cell? ⟨gx, 3, none⟩ = some (.int .i64 0) := (blk_cell hbox 3).trans rfl; have hf3 := blk_frozen hbox 3; have hz4 : w1x.cell? ⟨gx, 4, none⟩ = some (.int .i64 0) := (blk_cell hbox 4).trans rfl; have hf4 := blk_frozen hbox 4
       have HG := Aside0.mk (Nat.le_of_eq hg.symm)
       clear hg)
    | ((with_reducible refine gate_store (t := 41) (p := 10) rfl ?_)
       refine store_event (w1 := (((((w1x.setCell ⟨gx, 0, none⟩ (.slice A0 b.f0.length c0)).setCell ⟨gx, 1, none⟩ (.int .i64 b.f1)).setCell ⟨gx, 2, none⟩ (.int .i64 b.f2)).setCell ⟨gx, 3, none⟩ (.int .i64 b.f3)).setCell ⟨gx, 4, none⟩ (.int .i64 b.f4))) rfl (t := 41) (p := 10) rfl rfl ?hr ?_
       case hr => first | (go_simp; done) | (go_simp; rfl)
       intro wx hw
       have hcb := hw ▸ fill5 (g := gx) hbox
       have hbl := hw ▸ fillB5 (g := gx) hb HG.out
       have HBX := Aside0.mk (below_step HBB.out hbl)
       have hmx := blk_below (g := w.heap.size) HMB.out hbl
       have HMX := Aside0.mk hmx
       have HOX := Aside0.mk hcb
       have m0 := (blk_cell hmx 0).trans rfl
       have m1 := (blk_cell hmx 1).trans rfl
       have y0 := (blk_cell hcb 0).trans rfl
       have y1 := (blk_cell hcb 1).trans rfl
       have y2 := (blk_cell hcb 2).trans rfl
       have y3 := (blk_cell hcb 3).trans rfl
       have y4 := (blk_cell hcb 4).trans rfl
       clear hmx hcb hbl hw hbox hb hz0 hf0 hz1 hf1 hz2 hf2 hz3 hf3 hz4 hf4)
    | fail)
                  go_loopg [108] (b.f0.length) (fun kq v wi => ∃ i : Nat, Aside0 (i + kq = b.f0.length) ∧ v = .int .i64 (i : Int) ∧ Aside0 (Below w.heap.size w wi) ∧ Aside0 (wi.heap[w.heap.size]? = some (.cells #[.slice none 0 0, .slice (some ad) F.length cF] 25 (0, 0))))
                  case atStart => exact ⟨0, ⟨by omega⟩, rfl, HBX, HMX⟩
                  case round =>
                    obtain ⟨i, HI, rfl, HBI, HMI⟩ := hrel
                    by_cases hli : i < b.f0.length
                    · cases gk with
                      | zero => exact absurd HI.out (by omega)
                      | succ q5 =>
                        obtain ⟨adx, A7, c7, hA, x0, x1, x2, x3, x4, x5, x6, x7, hl7, hi7⟩ := at_T44 HI0.out (i : Int) (by omega) (by omega)
                        rw [Int.toNat_natCast] at x0 x1 x2 x3 x4 x5 x6 x7
                        obtain ⟨x, hz⟩ : ∃ x, rd_T44 b.f0 (i : Int) = x := ⟨_, rfl⟩
                        rw [hz] at x0 x1 x2 x3 x4 x5 x6 x7 hl7 hi7
                        have hge : b.f0.getD i z44 = x := by rw [← hz]; unfold rd_T44; rw [Int.toNat_natCast]
                        replace x0 := carry HBI.out x0
                        replace x1 := carry HBI.out x1
                        replace x2 := carry HBI.out x2
                        replace x3 := carry HBI.out x3
                        replace x4 := carry HBI.out x4
                        replace x5 := carry HBI.out x5
                        replace x6 := carry HBI.out x6
                        replace x7 := carry HBI.out x7
                        have HXE := Aside0.mk hge
                        have HL7 := Aside0.mk hl7
                        subst hA
                        clear hz hge hl7 hi7
                        have hx := HIN.out b (mem_getD hlj HBE.out) x (mem_getD hli HXE.out)
                        by_cases hk : x.f0 = 7
                        · have HX7 := Aside0.mk (hx.2.2 hk)
                          have r5_ : (x.f0 == 5) = false := by rw [beq_eq_false_iff_ne]; exact hx.1
                          have r6_ : (x.f0 == 6) = false := by rw [beq_eq_false_iff_ne]; exact hx.2.1
                          have r7_ : (x.f0 == 7) = true := by rw [hk]; rfl
                          clear hx
                          clear hk
                          go_wp2_with (first
    | ((with_reducible refine gate_dst (N := 12) rfl ?_)
       refine box_event rfl (N := 12) rfl (cs := #[.int .i64 0, .int .i64 0, .int .i64 0, .int .i64 0, .int .i64 0, .int .i32 0, .string (⟨#[]⟩ : ByteArray), .slice none 0 0]) (t := 44) ?hr ?_
       case hr => first | (go_simp; done) | (go_simp; rfl)
       intro gx hg w1x hbox hb; have hz0 : w1x.cell? ⟨gx, 0, none⟩ = some (.int .i64 0) := (blk_cell hbox 0).trans rfl; have hf0 := blk_frozen hbox 0; have hz1 : w1x.cell? ⟨gx, 1, none⟩ = some (.int .i64 0) := (blk_cell hbox 1).trans rfl; have hf1 := blk_frozen hbox 1; have hz2 : w1x.cell? ⟨gx, 2, none⟩ = some (.int .i64 0) := (blk_cell hbox 2).trans rfl; have hf2 := blk_frozen hbox 2; have hz3 : w1x.cell? ⟨gx, 3, none⟩ = some (.int .i64 0) := (blk_cell hbox 3).trans rfl; have hf3 := blk_frozen hbox 3; have hz4 : w1x.cell? ⟨gx, 4, none⟩ = some (.int .i64 0) := (blk_cell hbox 4).trans rfl; have hf4 := blk_frozen hbox 4; have hz5 : w1x.cell? ⟨gx, 5, none⟩ = some (.int .i32 0) := (blk_cell hbox 5).trans rfl; have hf5 := blk_frozen hbox 5; have hz6 : w1x.cell? ⟨gx, 6, none⟩ = some (.string (⟨#[]⟩ : ByteArray)) := (blk_cell hbox 6).trans rfl; have hf6 := blk_frozen hbox 6; have hz7 : w1x.cell? ⟨gx, 7, none⟩ = some (.slice none 0 0) := (blk_cell hbox 7).trans rfl; have hf7 := blk_frozen hbox 7
       have HG := Aside0.mk (Nat.le_of_eq hg.symm)
       clear hg)
    | ((with_reducible refine gate_store (t := 44) (p := 12) rfl ?_)
       refine store_event (w1 := ((((((((w1x.setCell ⟨gx, 0, none⟩ (.int .i64 x.f0)).setCell ⟨gx, 1, none⟩ (.int .i64 x.f1)).setCell ⟨gx, 2, none⟩ (.int .i64 x.f2)).setCell ⟨gx, 3, none⟩ (.int .i64 x.f3)).setCell ⟨gx, 4, none⟩ (.int .i64 x.f4)).setCell ⟨gx, 5, none⟩ (.int .i32 x.f5)).setCell ⟨gx, 6, none⟩ (.string x.f6)).setCell ⟨gx, 7, none⟩ (.slice A7 x.f7.length c7))) rfl (t := 44) (p := 12) rfl rfl ?hr ?_
       case hr => first | (go_simp; done) | (go_simp; rfl)
       intro wx hw
       have hcb := hw ▸ fill8 (g := gx) hbox
       have hbl := hw ▸ fillB8 (g := gx) hb HG.out
       have HBX := Aside0.mk (below_step HBI.out hbl)
       have hmx := blk_below (g := w.heap.size) HMI.out hbl
       have HMX := Aside0.mk hmx
       have HOX := Aside0.mk hcb
       have m0 := (blk_cell hmx 0).trans rfl
       have m1 := (blk_cell hmx 1).trans rfl
       have y0 := (blk_cell hcb 0).trans rfl
       have y1 := (blk_cell hcb 1).trans rfl
       have y2 := (blk_cell hcb 2).trans rfl
       have y3 := (blk_cell hcb 3).trans rfl
       have y4 := (blk_cell hcb 4).trans rfl
       have y5 := (blk_cell hcb 5).trans rfl
       have y6 := (blk_cell hcb 6).trans rfl
       have y7 := (blk_cell hcb 7).trans rfl
       clear hmx hcb hbl hw hbox hb hz0 hf0 hz1 hf1 hz2 hf2 hz3 hf3 hz4 hf4 hz5 hf5 hz6 hf6 hz7 hf7)
    | (go_at_call 21; (with_reducible refine (fnat0 (some ad) cF F x.f6 _ (Kd.C_below HF.out HBX.out) HCF.out HFL.out).mono ?_)
       intro e w9 hc7
       have hm : fnAt F x.f6 < F.length := HX7.out.1
       have hc8 : e = .returned (.int .i64 ((fnAt F x.f6 : Nat) : Int)) ∧ Below wx.heap.size wx w9 := by rw [← posOf_lt hm]; exact hc7
       obtain ⟨rfl, hB_⟩ := hc8
       clear hc7
       have HB9 := Aside0.mk (below_step HBX.out hB_)
       have hm_ := blk_below HMX.out hB_
       have HM9 := Aside0.mk hm_
       have m0 := (blk_cell hm_ 0).trans rfl
       have m1 := (blk_cell hm_ 1).trans rfl
       obtain ⟨ad3, A9, c9, hA, q0, q1, q2, q3_, ql, qi⟩ := at_T47 HF.out (fnAt F x.f6 : Int) (by omega) (by omega)
       rw [Int.toNat_natCast, rd47] at q1
       replace q1 := carry HB9.out q1
       rw [HX7.out.2] at q1
       have ho_ := blk_below HOX.out hB_
       have y7 := (blk_cell ho_ 7).trans rfl
       have HMN9 := Aside0.mk hm
       obtain rfl : ad = ad3 := by injection hA
       clear hA q0 q2 q3_ ql qi ho_
       clear hm_ hB_)
    | fail)
                          all_goals (repeat (go_quiet (fail); try go_wp2))
                          go_roundg q5
                          case measure => omega
                          case rel => exact ⟨i + 1, ⟨by have := HI.out; omega⟩, by first | exact nxt hli HMC.out | rfl, ⟨pw_below_drewN HB9.out _⟩, ⟨blk_drewN HM9.out _⟩⟩
                        · have r5_ : (x.f0 == 5) = false := by rw [beq_eq_false_iff_ne]; exact hx.1
                          have r6_ : (x.f0 == 6) = false := by rw [beq_eq_false_iff_ne]; exact hx.2.1
                          have r7_ : (x.f0 == 7) = false := by rw [beq_eq_false_iff_ne]; exact hk
                          clear hx
                          clear hk
                          go_wp2_with (first
    | ((with_reducible refine gate_dst (N := 12) rfl ?_)
       refine box_event rfl (N := 12) rfl (cs := #[.int .i64 0, .int .i64 0, .int .i64 0, .int .i64 0, .int .i64 0, .int .i32 0, .string (⟨#[]⟩ : ByteArray), .slice none 0 0]) (t := 44) ?hr ?_
       case hr => first | (go_simp; done) | (go_simp; rfl)
       intro gx hg w1x hbox hb; have hz0 : w1x.cell? ⟨gx, 0, none⟩ = some (.int .i64 0) := (blk_cell hbox 0).trans rfl; have hf0 := blk_frozen hbox 0; have hz1 : w1x.cell? ⟨gx, 1, none⟩ = some (.int .i64 0) := (blk_cell hbox 1).trans rfl; have hf1 := blk_frozen hbox 1; have hz2 : w1x.cell? ⟨gx, 2, none⟩ = some (.int .i64 0) := (blk_cell hbox 2).trans rfl; have hf2 := blk_frozen hbox 2; have hz3 : w1x.cell? ⟨gx, 3, none⟩ = some (.int .i64 0) := (blk_cell hbox 3).trans rfl; have hf3 := blk_frozen hbox 3; have hz4 : w1x.cell? ⟨gx, 4, none⟩ = some (.int .i64 0) := (blk_cell hbox 4).trans rfl; have hf4 := blk_frozen hbox 4; have hz5 : w1x.cell? ⟨gx, 5, none⟩ = some (.int .i32 0) := (blk_cell hbox 5).trans rfl; have hf5 := blk_frozen hbox 5; have hz6 : w1x.cell? ⟨gx, 6, none⟩ = some (.string (⟨#[]⟩ : ByteArray)) := (blk_cell hbox 6).trans rfl; have hf6 := blk_frozen hbox 6; have hz7 : w1x.cell? ⟨gx, 7, none⟩ = some (.slice none 0 0) := (blk_cell hbox 7).trans rfl; have hf7 := blk_frozen hbox 7
       have HG := Aside0.mk (Nat.le_of_eq hg.symm)
       clear hg)
    | ((with_reducible refine gate_store (t := 44) (p := 12) rfl ?_)
       refine store_event (w1 := ((((((((w1x.setCell ⟨gx, 0, none⟩ (.int .i64 x.f0)).setCell ⟨gx, 1, none⟩ (.int .i64 x.f1)).setCell ⟨gx, 2, none⟩ (.int .i64 x.f2)).setCell ⟨gx, 3, none⟩ (.int .i64 x.f3)).setCell ⟨gx, 4, none⟩ (.int .i64 x.f4)).setCell ⟨gx, 5, none⟩ (.int .i32 x.f5)).setCell ⟨gx, 6, none⟩ (.string x.f6)).setCell ⟨gx, 7, none⟩ (.slice A7 x.f7.length c7))) rfl (t := 44) (p := 12) rfl rfl ?hr ?_
       case hr => first | (go_simp; done) | (go_simp; rfl)
       intro wx hw
       have hcb := hw ▸ fill8 (g := gx) hbox
       have hbl := hw ▸ fillB8 (g := gx) hb HG.out
       have HBX := Aside0.mk (below_step HBI.out hbl)
       have hmx := blk_below (g := w.heap.size) HMI.out hbl
       have HMX := Aside0.mk hmx
       have HOX := Aside0.mk hcb
       have m0 := (blk_cell hmx 0).trans rfl
       have m1 := (blk_cell hmx 1).trans rfl
       have y0 := (blk_cell hcb 0).trans rfl
       have y1 := (blk_cell hcb 1).trans rfl
       have y2 := (blk_cell hcb 2).trans rfl
       have y3 := (blk_cell hcb 3).trans rfl
       have y4 := (blk_cell hcb 4).trans rfl
       have y5 := (blk_cell hcb 5).trans rfl
       have y6 := (blk_cell hcb 6).trans rfl
       have y7 := (blk_cell hcb 7).trans rfl
       clear hmx hcb hbl hw hbox hb hz0 hf0 hz1 hf1 hz2 hf2 hz3 hf3 hz4 hf4 hz5 hf5 hz6 hf6 hz7 hf7)
    | fail)
                          go_roundg q5
                          case measure => omega
                          case rel => exact ⟨i + 1, ⟨by have := HI.out; omega⟩, by first | exact nxt hli HMC.out | rfl, HBX, HMX⟩
                    · obtain rfl : i = b.f0.length := by have := HI.out; omega
                      go_wp2
                      go_roundg q4
                      case measure => omega
                      case rel => exact ⟨j + 1, ⟨by have := HJ.out; omega⟩, by first | exact nxt hlj HM3.out | rfl, HBI, HMI⟩
              · obtain rfl : j = f.f3.length := by have := HJ.out; omega
                go_wp2
                go_roundg q3
                case measure => omega
                case rel =>
                  exact ⟨k + 1, ⟨by have := HKF.out; omega⟩, by first | exact nxt hlf (by have := HFL.out; omega) | rfl, HBB, HMB⟩
        · obtain rfl : k = F.length := by have := HKF.out; omega
          go_wp2
          go_ret
          exact ⟨rfl, HBF.out⟩
end Go.Proofs.Ytabkinlpbefjgaa.L

namespace Go.Proofs.Ytabkinlpbefjgaa.L
open Go.RowKit Go.Proofs.Ytabkinlpbefjgaa.X Go.Proofs.YtabkinlpbefjgaaW.PrintWords Go.Proofs.YtabkinlpbefjgaaW.PrintLast Go.Proofs.YtabkinlpbefjgaaW.PrintMore
attribute [local go_sem] max2_int min2_int max_two min_two max_three min_three max_four min_four   -- for this text's walks alone
set_option linter.unusedVariables false
set_option linter.unusedSimpArgs false
open Go.Proofs.Ytabkinlpbefjgaa.Pure
structure RE where
  gv : Value
  fv : Value
  dv : Value
  iv : Value
  fuel : Int
structure RM where
  c : Int
  en : Int
  va : Int
  tv : Value
  st : Nat
  rd : Nat
def rC (E : RE) (m : RM) : Array Value := #[E.gv, E.fv, E.dv, E.iv, .int .i64 E.fuel, .int .i64 m.c, .int .i64 m.en, .int .i32 m.va, m.tv, .int .i64 (m.st : Int), .int .i64 (m.rd : Int)]
set_option maxHeartbeats 4000000 in
set_option maxRecDepth 100000 in
theorem rstep_open (E : RE) (c va : Int) (tv : Value) (st rd : Nat) (W : World) (g : Nat) (hb : W.heap[g]? = some (.cells (rC E ⟨c, 0, va, tv, st, rd⟩) 61 (0, 0))) (hf : E.fuel ≤ (st : Int)) :
    Calls Try.prog 28 #[.pointer (some ⟨g, 0, none⟩)] W fun e w' => e = .returned (.bool false) ∧ Turned W w' g (rC E ⟨c, 5, va, tv, st, rd⟩) 61 := by
  have cm0 : W.cell? ⟨g, 0, none⟩ = some (E.gv) := (blk_cell hb 0).trans rfl
  have fm0 := blk_frozen hb 0
  have cm1 : W.cell? ⟨g, 1, none⟩ = some (E.fv) := (blk_cell hb 1).trans rfl
  have fm1 := blk_frozen hb 1
  have cm2 : W.cell? ⟨g, 2, none⟩ = some (E.dv) := (blk_cell hb 2).trans rfl
  have fm2 := blk_frozen hb 2
  have cm3 : W.cell? ⟨g, 3, none⟩ = some (E.iv) := (blk_cell hb 3).trans rfl
  have fm3 := blk_frozen hb 3
  have cm4 : W.cell? ⟨g, 4, none⟩ = some (.int .i64 E.fuel) := (blk_cell hb 4).trans rfl
  have fm4 := blk_frozen hb 4
  have cm5 : W.cell? ⟨g, 5, none⟩ = some (.int .i64 c) := (blk_cell hb 5).trans rfl
  have fm5 := blk_frozen hb 5
  have cm6 : W.cell? ⟨g, 6, none⟩ = some (.int .i64 0) := (blk_cell hb 6).trans rfl
  have fm6 := blk_frozen hb 6
  have cm7 : W.cell? ⟨g, 7, none⟩ = some (.int .i32 va) := (blk_cell hb 7).trans rfl
  have fm7 := blk_frozen hb 7
  have cm8 : W.cell? ⟨g, 8, none⟩ = some (tv) := (blk_cell hb 8).trans rfl
  have fm8 := blk_frozen hb 8
  have cm9 : W.cell? ⟨g, 9, none⟩ = some (.int .i64 (st : Int)) := (blk_cell hb 9).trans rfl
  have fm9 := blk_frozen hb 9
  have cm10 : W.cell? ⟨g, 10, none⟩ = some (.int .i64 (rd : Int)) := (blk_cell hb 10).trans rfl
  have fm10 := blk_frozen hb 10
  have HB := Aside0.mk hb
  have d1 : decide ((st : Int) ≥ E.fuel) = true := decide_eq_true hf
  have d2 : decide (E.fuel ≤ (st : Int)) = true := decide_eq_true hf
  clear hb
  go_enter Try.func28, Try.ntmps28
  go_wp2
  go_quiet (fail)
  go_wp2
  go_ret
  exact ⟨rfl, blk_put (blk_drewN HB.out _) 6 _ (by simp [rC]), ((Tr.refl (one g) W).drewN _).set (.inl (one_self g)) _⟩
set_option maxHeartbeats 4000000 in
set_option maxRecDepth 100000 in
theorem rstep_go (E : RE) (c va : Int) (tv : Value) (st rd : Nat) (W : World) (g : Nat) (hb : W.heap[g]? = some (.cells (rC E ⟨c, 0, va, tv, st, rd⟩) 61 (0, 0))) (hf : ¬ E.fuel ≤ (st : Int)) (hst : (st : Int) ≤ 1000000) :
    Calls Try.prog 28 #[.pointer (some ⟨g, 0, none⟩)] W fun e w' => e = .returned (.bool true) ∧ Turned W w' g (rC E ⟨c, 0, va, tv, st + 1, rd⟩) 61 := by
  have cm0 : W.cell? ⟨g, 0, none⟩ = some (E.gv) := (blk_cell hb 0).trans rfl
  have fm0 := blk_frozen hb 0
  have cm1 : W.cell? ⟨g, 1, none⟩ = some (E.fv) := (blk_cell hb 1).trans rfl
  have fm1 := blk_frozen hb 1
  have cm2 : W.cell? ⟨g, 2, none⟩ = some (E.dv) := (blk_cell hb 2).trans rfl
  have fm2 := blk_frozen hb 2
  have cm3 : W.cell? ⟨g, 3, none⟩ = some (E.iv) := (blk_cell hb 3).trans rfl
  have fm3 := blk_frozen hb 3
  have cm4 : W.cell? ⟨g, 4, none⟩ = some (.int .i64 E.fuel) := (blk_cell hb 4).trans rfl
  have fm4 := blk_frozen hb 4
  have cm5 : W.cell? ⟨g, 5, none⟩ = some (.int .i64 c) := (blk_cell hb 5).trans rfl
  have fm5 := blk_frozen hb 5
  have cm6 : W.cell? ⟨g, 6, none⟩ = some (.int .i64 0) := (blk_cell hb 6).trans rfl
  have fm6 := blk_frozen hb 6
  have cm7 : W.cell? ⟨g, 7, none⟩ = some (.int .i32 va) := (blk_cell hb 7).trans rfl
  have fm7 := blk_frozen hb 7
  have cm8 : W.cell? ⟨g, 8, none⟩ = some (tv) := (blk_cell hb 8).trans rfl
  have fm8 := blk_frozen hb 8
  have cm9 : W.cell? ⟨g, 9, none⟩ = some (.int .i64 (st : Int)) := (blk_cell hb 9).trans rfl
  have fm9 := blk_frozen hb 9
  have cm10 : W.cell? ⟨g, 10, none⟩ = some (.int .i64 (rd : Int)) := (blk_cell hb 10).trans rfl
  have fm10 := blk_frozen hb 10
  have HB := Aside0.mk hb
  have d1 : decide ((st : Int) ≥ E.fuel) = false := decide_eq_false hf
  have d2 : decide (E.fuel ≤ (st : Int)) = false := decide_eq_false hf
  have d3 : wrap64 ((st : Int) + 1) = ((st + 1 : Nat) : Int) := by rw [w64 (by omega) (by omega)]; rfl
  clear hb
  go_enter Try.func28, Try.ntmps28
  go_wp2
  go_quiet (fail)
  go_wp2
  go_ret
  exact ⟨rfl, blk_put (blk_drewN HB.out _) 9 _ (by simp [rC]), ((Tr.refl (one g) W).drewN _).set (.inl (one_self g)) _⟩
end Go.Proofs.Ytabkinlpbefjgaa.L

